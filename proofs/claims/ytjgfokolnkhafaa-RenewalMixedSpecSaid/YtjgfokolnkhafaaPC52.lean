/- What the laws of this part rest on: lemmas, and the walks of the functions. No conditions. -/
import Derived.WalkKit
import Derived.WalkSpells
import Derived.WalkLawsBesides
import Derived.RangeFuncLeaves
import Derived.Maps.AppendAt
import Derived.Deep.AppendLies
import Derived.Deep.Slices
import Derived.OpenShut
import Derived.ProofKit
import Derived.Below
import Derived.ChangeSame
import Derived.Carry
import Derived.RangeFuncRecord
import Derived.Laws.Tables
import Derived.Recover
import Derived.DefersIn
import Derived.Lib.AppendZerosOnto
import Derived.Lib.Overlaps
import Derived.Laws.CopyRow
import Derived.Laws.StructEq
import Derived.ChangeKeysEq
import Derived.OrdersIn
import Derived.Test.YtjgfokolnkhafaaRows
import Derived.Test.YtjgfokolnkhafaaPC51
set_option linter.unusedSimpArgs false
set_option linter.unusedVariables false
namespace Go.Fw
open Go.RowKit
def HG (cur:List Value) (o:Nat) (ms:List Value):List Value:=cur.take o++ms++cur.drop (o+ms.length)
theorem NW {cur:List Value} {o:Nat} {ms:List Value} (h:o+ms.length≤cur.length):(HG cur o ms).length=cur.length:=by
  simp [HG];omega
theorem Keep.step0 {C O:List Nat} {w w1 w2:World} (h:Keep C w w1) (k:Keep O w1 w2) (hs:∀ b∈O,b∈C∨w.heap.size≤b):Keep C w w2:=
  ⟨k.os.trans h.os,k.tape.trans h.tape,k.output.trans h.output,Nat.le_trans h.size k.size,fun i hi ho=>(k.block i (Nat.lt_of_lt_of_le hi h.size) (fun hO=>by rcases hs i hO with h1|h1;exact ho h1;omega)).trans (h.block i hi ho)⟩
def Rds {α:Type} (E:Enc α) (w:World) (O:List Nat) (css:List (List Value)) (l:List α):Prop:=
  css.length=l.length∧∀ (i:Nat) (cs:List Value) (x:α),css[i]? = some cs→l[i]? = some x→E.rd w O cs x
theorem own_open {α:Type} {E:Enc α} {e base:Nat} {O:List Nat} {w:World} {v:Value} {l:List α} (h:ED E e base O w v l) (h0:0<l.length) :
    ∃ g c cur css,v = .slice (some ⟨g,0,none⟩) l.length c∧base≤g∧IB w g e cur∧l.length≤c∧c≤maxLen∧cur.length=c*E.size∧css.flatten=cur.take (l.length*E.size)∧Rds E w O css l:=by
  obtain ⟨css,h1,h2,h3⟩:=h
  rcases h2.2 with ⟨rfl,h4⟩|⟨g,cap,cur,rfl,hb,hg,hc,hm,hsz,htk⟩
  · omega
  · exact ⟨g,cap,cur.toList,css,rfl,hb,hg,hc,hm,by simpa using hsz,htk.symm,h1,h3⟩
theorem Rds.lens {α:Type} {E:Enc α} {w:World} {O:List Nat} {css:List (List Value)} {l:List α} (h:Rds E w O css l):∀ cs∈css,cs.length=E.size:=ED.lens h.1 h.2
theorem Rds.ones {α:Type} {E:Enc α} {w:World} {O:List Nat} {css:List (List Value)} {l:List α} (h:Rds E w O css l):∀ u∈css.flatten,u.oneCell'=true:=by
  intro u hu
  obtain ⟨cs,hcs,hucs⟩:=List.mem_flatten.1 hu
  obtain ⟨j,hj,rfl⟩:=List.getElem_of_mem hcs
  have hjl:j<l.length:=by rw [← h.1];exact hj
  exact E.one (h.2 j _ l[j] (List.getElem?_eq_getElem hj) (List.getElem?_eq_getElem hjl)) u hucs
theorem Rds.flen {α:Type} {E:Enc α} {w:World} {O:List Nat} {css:List (List Value)} {l:List α} (h:Rds E w O css l):css.flatten.length=l.length*E.size:=by rw [FW css h.lens,h.1]
theorem ED.ins {α:Type} {E:Enc α} {e base:Nat} {B B' O0:List Nat} {w1 w':World} {g c i:Nat} {cur:List Value} {css css':List (List Value)} {l m:List α} (hl:Rds E w1 (B++O0) css l) (hm:Rds E w1 (B++O0) css' m) (mv:Mv B w1 B' w')
    (hb:IB w' g e cur) (hg:base≤g) (hi:i≤l.length) (hlen:cur.length=c*E.size) (hc:l.length+m.length≤c) (hmax:c≤maxLen) (htk:cur.take ((l.length+m.length)*E.size)=(css.take i).flatten++css'.flatten++(css.drop i).flatten) :
    ED E e base (B'++O0) w' (.slice (some ⟨g,0,none⟩) (l.length+m.length) c) (l.take i++m++l.drop i):=by
  have hll:(l.take i++m++l.drop i).length=l.length+m.length:=by simp;omega
  refine ⟨css.take i++css'++css.drop i,?_,⟨?_, .inr ⟨g,c,cur.toArray,by rw [hll],hg,hb,by rw [hll];exact hc,hmax,by simpa using hlen,by rw [hll];simpa using htk⟩⟩,?_⟩
  · simp [hl.1,hm.1]
  · rw [hll]
    have e1:(css.take i++css'++css.drop i).flatten=(css.take i).flatten++css'.flatten++(css.drop i).flatten:=by simp
    rw [e1,← htk,List.length_take]
    exact Nat.min_eq_left (by rw [hlen];exact Nat.mul_le_mul_right _ hc)
  · intro j cs x hj hx
    have e1:(css.take i).length=i:=by rw [List.length_take,hl.1];omega
    have e2:(l.take i).length=i:=by rw [List.length_take];omega
    rw [List.append_assoc] at hj hx
    by_cases h1:j<i
    · rw [List.getElem?_append_left (by omega),List.getElem?_take,if_pos h1] at hj
      rw [List.getElem?_append_left (by omega),List.getElem?_take,if_pos h1] at hx
      exact E.mv (hl.2 j cs x hj hx) mv
    · rw [List.getElem?_append_right (by omega),e1] at hj
      rw [List.getElem?_append_right (by omega),e2] at hx
      by_cases h2:j - i<m.length
      · rw [List.getElem?_append_left (by rw [hm.1];exact h2)] at hj
        rw [List.getElem?_append_left h2] at hx
        exact E.mv (hm.2 _ cs x hj hx) mv
      · rw [List.getElem?_append_right (by rw [hm.1];omega),List.getElem?_drop,hm.1] at hj
        rw [List.getElem?_append_right (by omega),List.getElem?_drop] at hx
        exact E.mv (hl.2 _ cs x hj hx) mv
section
variable {cur cu cur1:List Value} {css css':List (List Value)} {n m i c G s:Nat}
theorem part_A (hcur:css.flatten=cur.take (n*s)) (hl:∀ cs∈css,cs.length=s) (hn:css.length=n) (hi:i≤n) (hc:n*s≤cur.length):(css.take i).flatten=cur.take (i*s):=by
  have h1:css.flatten=(css.take i).flatten++(css.drop i).flatten:=by rw [← List.flatten_append,List.take_append_drop]
  have h2:(css.take i).flatten.length=i*s:=by
    rw [FW _ (fun c hc=>hl c (List.mem_of_mem_take hc)),List.length_take,hn,Nat.min_eq_left hi]
  have h3:(css.flatten).take (i*s)=(css.take i).flatten:=by rw [h1,← h2,List.take_left]
  rw [← h3,hcur,List.take_take,Nat.min_eq_left (Nat.mul_le_mul_right _ hi)]
theorem part_B (hcur:css.flatten=cur.take (n*s)) (hl:∀ cs∈css,cs.length=s) (hn:css.length=n) (hi:i≤n) (hc:n*s≤cur.length):(css.drop i).flatten=(cur.drop (i*s)).take ((n - i)*s):=by
  have h1:css.flatten=(css.take i).flatten++(css.drop i).flatten:=by rw [← List.flatten_append,List.take_append_drop]
  have h2:(css.take i).flatten.length=i*s:=by
    rw [FW _ (fun c hc=>hl c (List.mem_of_mem_take hc)),List.length_take,hn,Nat.min_eq_left hi]
  have h3:(css.flatten).drop (i*s)=(css.drop i).flatten:=by rw [h1,← h2,List.drop_left]
  rw [← h3,hcur,List.drop_take,Nat.sub_mul]
theorem ones_drop {α:Type} {E:Enc α} {w:World} {O:List Nat} {l:List α} (h:Rds E w O css l) (hcur:css.flatten=cur.take (l.length*E.size)) (hi:i≤l.length) (hc:l.length*E.size≤cur.length):∀ u∈(cur.drop (i*E.size)).take ((l.length - i)*E.size),u.oneCell'=true:=by
  rw [← part_B hcur h.lens h.1 hi hc]
  intro u hu
  refine h.ones u ?_
  obtain ⟨x,hx,hux⟩:=List.mem_flatten.1 hu
  exact List.mem_flatten.2 ⟨x,List.mem_of_mem_drop hx,hux⟩
theorem ones_all {α:Type} {E:Enc α} {w:World} {O:List Nat} {l:List α} (h:Rds E w O css l) (hcur:css.flatten=cur.take (l.length*E.size)):∀ u∈(cur.drop 0).take (l.length*E.size),u.oneCell'=true:=by
  rw [List.drop_zero,← hcur];exact h.ones
theorem tk_grow (hcur:css.flatten=cur.take (n*s)) (hl:∀ cs∈css,cs.length=s) (hn:css.length=n) (hi:i≤n) (hc:n*s≤cur.length) (hcu:css'.flatten=cu.take (m*s)) (hm:css'.flatten.length=m*s)
    (h1:cur1.take (i*s)=cur.take (i*s)) (hG:(n+m)*s≤cur1.length) :
    (HG (HG cur1 (i*s) ((cu.drop 0).take (m*s))) ((i+m)*s) ((cur.drop (i*s)).take ((n - i)*s))).take ((n+m)*s)=(css.take i).flatten++css'.flatten++(css.drop i).flatten:=by
  have hA:=part_A hcur hl hn hi hc
  have hB:=part_B hcur hl hn hi hc
  have ha:(css.take i).flatten.length=i*s:=by rw [hA,List.length_take];exact Nat.min_eq_left (Nat.le_trans (Nat.mul_le_mul_right _ hi) hc)
  have hb:(css.drop i).flatten.length=(n - i)*s:=by
    rw [FW _ (fun c hc=>hl c (List.mem_of_mem_drop hc)),List.length_drop,hn]
  have e1:(n+m)*s=i*s+m*s+(n - i)*s:=by rw [← Nat.add_mul,← Nat.add_mul];congr 1;omega
  have e2:(i+m)*s=i*s+m*s:=Nat.add_mul _ _ _
  have hc1:cur1=(css.take i).flatten++cur1.drop (i*s):=by rw [hA,← h1,List.take_append_drop]
  rw [List.drop_zero,← hcu,← hB,e1,e2]
  clear hcu hcur hA hB
  generalize (css.take i).flatten=A at ha hc1 ⊢
  generalize css'.flatten=M at hm ⊢
  generalize (css.drop i).flatten=B at hb ⊢
  generalize cur1.drop (i*s)=T at hc1
  have hs1:HG cur1 (i*s) M=A++M++T.drop M.length:=by
    unfold HG
    rw [hc1,← ha,List.take_left,List.drop_length_add_append]
  rw [hs1]
  unfold HG
  rw [← ha,← hm,← List.length_append,List.take_left,← hb]
  rw [← @List.length_append _ (A++M) _,List.take_left]
theorem tk_shift (hcur:css.flatten=cur.take (n*s)) (hl:∀ cs∈css,cs.length=s) (hn:css.length=n) (hi:i≤n) (hc:(n+m)*s≤cur.length) (hcu:css'.flatten=cu.take (m*s)) (hm:css'.flatten.length=m*s) :
    (HG (HG cur ((i+m)*s) ((cur.drop (i*s)).take ((n - i)*s))) (i*s) ((cu.drop 0).take (m*s))).take ((n+m)*s)=(css.take i).flatten++css'.flatten++(css.drop i).flatten:=by
  have hns:n*s≤(n+m)*s:=Nat.mul_le_mul_right _ (by omega)
  have hA:=part_A hcur hl hn hi (by omega)
  have hB:=part_B hcur hl hn hi (by omega)
  have ha:(css.take i).flatten.length=i*s:=by rw [hA,List.length_take];exact Nat.min_eq_left (Nat.le_trans (Nat.mul_le_mul_right _ hi) (by omega))
  have hb:(css.drop i).flatten.length=(n - i)*s:=by
    rw [FW _ (fun c hc=>hl c (List.mem_of_mem_drop hc)),List.length_drop,hn]
  have e1:(n+m)*s=i*s+m*s+(n - i)*s:=by rw [← Nat.add_mul,← Nat.add_mul];congr 1;omega
  have e2:(i+m)*s=i*s+m*s:=Nat.add_mul _ _ _
  rw [List.drop_zero,← hcu,← hB,e1,e2]
  rw [e1] at hc
  have hc1:cur=(css.take i).flatten++cur.drop (i*s):=by rw [hA,List.take_append_drop]
  clear hcu hcur hA hB
  generalize (css.take i).flatten=A at ha hc1 ⊢
  generalize css'.flatten=M at hm ⊢
  generalize (css.drop i).flatten=B at hb ⊢
  generalize cur.drop (i*s)=T at hc1
  have hTl:m*s+(n - i)*s≤T.length:=by rw [hc1] at hc;simp [ha] at hc;omega
  have hs1:HG cur (i*s+m*s) B=A++(T.take (m*s)++B++T.drop (m*s+B.length)):=by
    unfold HG
    rw [hc1,← ha,List.take_length_add_append,Nat.add_assoc,List.drop_length_add_append]
    simp
  rw [hs1]
  unfold HG
  rw [← ha,List.take_left,List.drop_length_add_append,← hm]
  have e3:(T.take M.length).length=M.length:=by rw [List.length_take];omega
  have e4:(T.take M.length++B++T.drop (M.length+B.length)).drop M.length=B++T.drop (M.length+B.length):=by
    rw [List.append_assoc]
    conv=>lhs;rw [show M.length=(T.take M.length).length from e3.symm]
    simp only [e3]
    rw [List.drop_append_of_le_length (by omega),List.drop_of_length_le (by omega),List.nil_append]
  rw [e4,← hb,← List.append_assoc,← List.length_append,← List.length_append,List.take_left]
end
section
variable {P:Program} {ty:TypeId} {F:Fr} {w:World} {K:Value→World→Prop} {Z:List PanicEntry→World→Prop} {x y:Operand}
theorem KL {t e size:Nat} {lo:Operand} (ht:P.underlying t=some (.slice e)) (hs:EE P e=some size) (b n c i:Nat) (kk:IntKind) (nn:Int)
    (hx:CU F x = .slice (some ⟨b,0,none⟩) n c) (hlo:CU F lo = .int kk nn) (hn:nn=(i:Int)) (hi:i≤n) (hc:i<c) (hnc:n≤c) (h:K (.slice (some ⟨b,i*size,none⟩) (n - i) (c - i)) w):DY P (.slice t x (some lo) none none) ty F w K Z:=by
  subst hn
  have hb:(Instr.sliceBounds true n c (some (.int kk (i:Int))) none none).run P w = .ok (i,n,c) w:=by
    have b2:∀ code,(Instr.sliceBound (.int kk (i:Int)) n code).run P w = .ok i w:=fun code=>by
      rw [run_sliceBound (P:=P) w kk (i:Int) n code (by omega) (by omega)];rfl
    simp [Instr.sliceBounds,b2]
  refine BV ?_ h
  have hne:¬ (c=i):=by omega
  have ha:(⟨b,0,none⟩:Addr).add (i*size) = ⟨b,i*size,none⟩:=by rw [VO,Nat.zero_add]
  simp [execOp,hx,hlo,Instr.sliceAt,run_underlying ht,Instr.slice,hb,FC hs,hne,ha]
theorem XJ {t e size:Nat} {hi:Operand} (ht:P.underlying t=some (.slice e)) (hs:EE P e=some size) (b o n c k:Nat) (kk:IntKind) (nn:Int)
    (hx:CU F x = .slice (some ⟨b,o,none⟩) n c) (hhi:CU F hi = .int kk nn) (hn:nn=(k:Int)) (hk:k≤c) (h:K (.slice (some ⟨b,o,none⟩) k c) w):DY P (.slice t x none (some hi) none) ty F w K Z:=by
  subst hn
  have hb:(Instr.sliceBounds true n c none (some (.int kk (k:Int))) none).run P w = .ok (0,k,c) w:=by
    have b2:∀ code,(Instr.sliceBound (.int kk (k:Int)) c code).run P w = .ok k w:=fun code=>by
      rw [run_sliceBound (P:=P) w kk (k:Int) c code (by omega) (by omega)];rfl
    simp [Instr.sliceBounds,b2]
  refine BV ?_ h
  by_cases hc0:c=0
  · subst hc0;simp [execOp,hx,hhi,Instr.sliceAt,run_underlying ht,Instr.slice,hb,FC hs]
  · simp [execOp,hx,hhi,Instr.sliceAt,run_underlying ht,Instr.slice,hb,FC hs,hc0,Addr.add]
theorem o_cap {t e:TypeId} (A:Option Addr) (n c:Nat) (ht:P.underlying t=some (.slice e)) (hx:CU F x = .slice A n c) (h:K (vI c) w) :
    DY P (.call { callee:=.builtin .cap,args:=#[x],argTypes:=#[t] }) ty F w K Z:=
  BV (by simp [execOp,resolve,invoke,builtin,hx,Builtin.cap_,run_underlying ht,goInt]) h
variable {w0:World} {B O0:List Nat}
theorem PW {t t2 e size b o n c b2 o2 n2 c2 T T2:Nat} {cur cur2:List Value} (k:Nat) (ht:P.underlying t=some (.slice e)) (hs:EE P e=some size) (hx:CU F x = .slice (some ⟨b,o,none⟩) n c) (hy:CU F y = .slice (some ⟨b2,o2,none⟩) n2 c2)
    (hb:IB w b T cur) (hb2:IB w b2 T2 cur2) (hB:b∈B) (hk:Nat.min n2 n=k) (h1:o+k*size≤cur.length) (h2:o2+k*size≤cur2.length) (hone:∀ u∈(cur2.drop o2).take (k*size),u.oneCell'=true) (s:St w0 O0 w B)
    (h:∀ w',St w0 O0 w' B→Mv B w B w'→Keep [b] w w'→IB w' b T (HG cur o ((cur2.drop o2).take (k*size)))→K (vI k) w') :
    DY P (.call { callee:=.builtin .copy,args:=#[x,y],argTypes:=#[t,t2] }) ty F w K Z:=by
  obtain ⟨ms,hms⟩:∃ ms,ms=(cur2.drop o2).take (k*size):=⟨_,rfl⟩
  rw [← hms] at h hone
  have hml:ms.length=k*size:=by rw [hms];simp;omega
  have hsrc:(Builtin.firstCells size k (.slice (some ⟨b2,o2,none⟩) n2 c2)).run P w = .ok ms.toArray w:=
    run_firstCells_some w size k ⟨b2,o2,none⟩ n2 c2 ms hml (fun j v hj=>by
      rw [VO,hb2.cell,← hj,hms,List.getElem?_take]
      have:j<k*size:=by rw [← hml];exact (List.getElem?_eq_some_iff.1 hj).1
      rw [if_pos this,List.getElem?_drop])
  have hst:=run_storeCells_at P b o T ms 0 cur.toArray w hb (by simp;omega) hone
  simp only [Nat.add_zero] at hst
  have kp:Keep [b] w (w.setRow b (cur.toArray.toList.take o++ms++cur.toArray.toList.drop (o+ms.length)).toArray):=
    ⟨rfl,rfl,rfl,by simp,fun q _ hq=>setRow_other w b q _ (fun e=>hq (by simp [e]))⟩
  have mm:Mv B w B (w.setRow b (cur.toArray.toList.take o++ms++cur.toArray.toList.drop (o+ms.length)).toArray):=
    ⟨kp.mono (fun q hq=>by simp at hq;subst hq;exact .inl hB),fun q hq=>.inl hq⟩
  refine BV (v:=vI k) (w':=w.setRow b (cur.toArray.toList.take o++ms++cur.toArray.toList.drop (o+ms.length)).toArray) ?_ (h _ (s.step mm (fun q hq=>Nat.lt_of_lt_of_le (s.new q hq).2 kp.size)) mm kp (setRow_heap w b cur.toArray _ T (0,0) hb))
  simp [execOp,resolve,invoke,builtin,hx,hy,Builtin.copy_,run_underlying ht,FC hs,Builtin.lenOf,hk,hsrc,goInt] at hst ⊢
  rw [hst]
  rfl
theorem o_appendZ {t tn e size bytes b i c T:Nat} {z:Value} {cur:List Value} (k N:Nat) (nn:Int) (hN:i+k=N) (ht:P.underlying t=some (.slice e)) (htn:P.underlying tn=some (.int .i64)) (hi:(P.info? e).map (fun i=>(i.zero,i.size,i.bytes))=some (some z,size,bytes)) (hz:z.cells.size=size) (hpos:0<size)
    (hx:CU F x = .slice (some ⟨b,0,none⟩) i c) (hy:CU F y=vI nn) (hnn:nn=(k:Int)) (hb:IB w b T cur) (hcur:i*size≤cur.length) (h0:0<k) (hg:c<N) (hlen:N*bytes≤140737488355328) (hmax:N≤maxLen) (s:St w0 O0 w B)
    (h:∀ g G cur1 w',g=w.heap.size→w0.heap.size≤g→St w0 O0 w' (g :: B)→Mv B w (g :: B) w'→Keep [] w w'→IB w' g e cur1→cur1.length=G*size→N≤G→G≤maxLen→cur1.take (i*size)=cur.take (i*size)→K (.slice (some ⟨g,0,none⟩) N G) w') :
    DY P (.call { callee:=.builtin .append,args:=#[x,y],argTypes:=#[t,tn] }) ty F w K Z:=by
  subst hnn
  subst hN
  obtain ⟨inf,hi1,hi2,hi3,hi4⟩:=info_parts hi
  have hold:(Builtin.firstCells inf.size i (.slice (some ⟨b,0,none⟩) i c)).run P w.drew = .ok (cur.take (i*size)).toArray w.drew:=by
    rw [hi3]
    refine run_firstCells_some w.drew size i ⟨b,0,none⟩ i c (cur.take (i*size)) (by rw [List.length_take];omega) (fun j v hj=>?_)
    have hb':IB w.drew b T cur:=hb
    rw [VO,hb'.cell,Nat.zero_add]
    rw [List.getElem?_take] at hj
    split at hj
    · exact hj
    · cases hj
  have hfit:Builtin.nextslicecap (i+k) c*inf.bytes≤281474976710656:=by rw [hi4];exact growslice_fits hg hlen
  have hkb:k*inf.bytes≤281474976710656:=by
    rw [hi4]
    have:k*bytes≤(i+k)*bytes:=Nat.mul_le_mul_right _ (by omega)
    omega
  have hrun:=Lib.run_append_grow_zeros (P:=P) w t tn ty e inf z .i64 .i64 ht htn hi1 hi2 (some ⟨b,0,none⟩) i c (cur.take (i*size)) hold k h0 (by rw [hi3];exact hpos) hg (by simp only [maxLen] at hmax;omega) hkb hfit
  obtain ⟨G,hG⟩:∃ G,G=grownCap w (i+k) c e:=⟨_,rfl⟩
  have hG1:i+k≤G:=by rw [hG];exact grownCap_ge _ _ _ _
  have hG2:G≤maxLen:=by rw [hG];exact grownCap_le_maxLen _ _ _ _ hmax
  rw [← hG] at hrun
  obtain ⟨row,hrow⟩:∃ row:Array Value,row=(cur.take (i*size)).toArray++Builtin.zeroCells z.cells k++Builtin.zeroCells z.cells (G - (i+k)):=⟨_,rfl⟩
  rw [← hrow] at hrun
  have hrl:row.size=G*size:=by
    rw [hrow]
    simp only [Array.size_append,List.size_toArray,List.length_take,Builtin.zeroCells,Array.size_map,Array.size_range,hz]
    rw [Nat.min_eq_left hcur,← Nat.add_mul,← Nat.add_mul]
    congr 1;omega
  have hk:Keep [] w (w.drew.alloc (.cells row e)):=(Keep.drew [] w).trans (Keep.alloc _ _ _)
  have hsz:w.drew.heap.size=w.heap.size:=rfl
  have mv:Mv B w (w.heap.size :: B) (w.drew.alloc (.cells row e)):=⟨hk.nil,fun q hq=>by rcases List.mem_cons.1 hq with h|h;exact .inr (by omega);exact .inl h⟩
  have hbx:IB (w.drew.alloc (.cells row e)) w.heap.size e row.toList:=by
    have:=IB.new w.drew e row.toList
    simpa [hsz] using this
  refine BV (v:=.slice (some ⟨w.heap.size,0,none⟩) (i+k) G) (w':=w.drew.alloc (.cells row e)) ?_ (h _ G row.toList _ rfl s.keep.size (s.step mv (fun q hq=>?_)) mv hk hbx (by simpa using hrl) hG1 hG2 ?_)
  · simp [execOp,resolve,invoke,builtin,hx,hy,hrun]
  · rcases List.mem_cons.1 hq with h|h
    · subst h;exact hbx.lt
    · exact Nat.lt_of_lt_of_le (s.new q h).2 hk.size
  · rw [hrow]
    simp only [Array.toList_append,List.append_assoc]
    rw [List.take_append_of_le_length (by simp;omega)]
    rw [List.take_of_length_le (by simp;omega)]
theorem o_appendOO {α:Type} {E:Enc α} {t e:Nat} {z:Value} {bytes:Nat} {v u:Value} {l m:List α} (ht:P.underlying t=some (.slice e)) (hi:(P.info? e).map (fun i=>(i.zero,i.size,i.bytes))=some (some z,E.size,bytes)) (hzs:z.cells.size=E.size) (hpos:0<E.size)
    (hx:CU F x=v) (hy:CU F y=u) (ho:ED E e w0.heap.size (B++O0) w v l) (hu:ED E e w0.heap.size (B++O0) w u m) (hv:∀ b,v.ownBlock=some b→b∈B) (hlen:(l.length+m.length)*bytes≤140737488355328) (hlm:l.length+m.length≤maxLen) (s:St w0 O0 w B)
    (h:∀ v' w' B',(∀ b,v'.ownBlock=some b→b∈B')→(v'.ownBlock=v.ownBlock∨v'.ownBlock=some w.heap.size)→(∀ b∈B,b∈B')→St w0 O0 w' B'→Mv B w B' w'→Keep v.ownBlock.toList w w'→ED E e w0.heap.size (B'++O0) w' v' (l++m)→K v' w') :
    DY P (.call { callee:=.builtin .append,args:=#[x,y],argTypes:=#[t,t] }) ty F w K Z:=by
  obtain ⟨i,hi1,hi2,hi3,hi4⟩:=info_parts hi
  obtain ⟨css,h1,h2,h3⟩:=ho
  have hsrc:∃ (A:Option Addr) (c:Nat) (css':List (List Value)),u = .slice A m.length c∧m.length≤c∧c≤maxLen∧(A=none→m=[])∧css'.length=m.length∧(∀ (j:Nat) (cs:List Value) (y:α),css'[j]? = some cs→m[j]? = some y→E.rd w (B++O0) cs y)∧(∀ ad,A=some ad→∀ j u,css'.flatten[j]? = some u→w.cell? (ad.add j)=some u):=by
    obtain ⟨css',q1,q2,q3⟩:=hu
    rcases q2.2 with ⟨rfl,q4⟩|⟨g,cap,cur,rfl,hb,hg,hc,hm,hsz,htk⟩
    · exact ⟨none,0,css',by rw [q4],by omega,by simp [maxLen],fun _=>List.eq_nil_of_length_eq_zero q4,q1,q3,fun ad h=>by cases h⟩
    · refine ⟨some ⟨g,0,none⟩,cap,css',rfl,hc,hm,(fun h=>nomatch h),q1,q3,fun ad h j u hj=>?_⟩
      cases h;exact q2.cells (g:=g) rfl j u hj
  obtain ⟨A,c,css',rfl,h4,h5,h6,k1,k2,k3⟩:=hsrc
  have hlens':∀ cs∈css',cs.length=E.size:=ED.lens k1 k2
  have hones:∀ u∈css'.flatten,u.oneCell'=true:=by
    intro u hu
    obtain ⟨cs,hcs,hucs⟩:=List.mem_flatten.1 hu
    obtain ⟨j,hj,rfl⟩:=List.getElem_of_mem hcs
    exact E.one (k2 j _ m[j] (List.getElem?_eq_getElem hj) (List.getElem?_eq_getElem (by omega))) u hucs
  have hlen':css'.flatten.length=m.length*E.size:=by rw [FW css' hlens',k1]
  have fin:∀ v' w' B',w'.ownsRow w0.heap.size e E.size v' (l.length+m.length) (css.flatten++css'.flatten)→Mv B w B' w'→ED E e w0.heap.size (B'++O0) w' v' (l++m):=by
    intro v' w' B' hr hmv
    refine ⟨css++css',by simp [h1,k1],by simpa using hr,fun j cs y hj hy=>?_⟩
    by_cases hjl:j<l.length
    · rw [List.getElem?_append_left (by omega)] at hj hy
      exact E.mv (h3 j cs y hj hy) hmv
    · rw [List.getElem?_append_right (by omega)] at hj hy
      rw [h1] at hj
      exact E.mv (k2 _ cs y hj hy) hmv
  have step:∀ v' w',(Builtin.append_ #[t,t] ty #[v, .slice A m.length c]).run P w = .ok v' w'→w'.ownsRow w0.heap.size e E.size v' (l.length+m.length) (css.flatten++css'.flatten)→w.grownBy w' v.ownBlock→(v'.ownBlock=v.ownBlock∨v'.ownBlock=some w.heap.size)→
      DY P (.call { callee:=.builtin .append,args:=#[x,y],argTypes:=#[t,t] }) ty F w K Z:=by
    intro v' w' hr hown hg hat
    have hk:Keep v.ownBlock.toList w w':=Keep.of_grown hg
    have hB:Keep B w w':=hk.mono (fun b hb=>.inl (hv b (by simpa using hb)))
    have hown':=hown.lt
    rcases hat with hat|hat
    · have mv:Mv B w B w':=⟨hB,fun b hb=>.inl hb⟩
      exact BV (v:=v') (w':=w') (by simp [execOp,resolve,invoke,builtin,hx,hy,hr]) (h v' w' B (fun b hb=>hv b (by rw [← hat];exact hb)) (.inl hat) (fun b hb=>hb) (s.step mv (fun b hb=>Nat.lt_of_lt_of_le (s.new b hb).2 hk.size)) mv hk (fin v' w' B hown mv))
    · have mv:Mv B w (w.heap.size :: B) w':=⟨hB,fun b hb=>by rcases List.mem_cons.1 hb with h|h;exact .inr (by omega);exact .inl h⟩
      exact BV (v:=v') (w':=w') (by simp [execOp,resolve,invoke,builtin,hx,hy,hr]) (h v' w' (w.heap.size :: B) (fun b hb=>by rw [hat] at hb;cases hb;simp) (.inr hat) (fun b hb=>by simp [hb])
        (s.step mv (fun b hb=>by
          rcases List.mem_cons.1 hb with h|h
          · subst h;exact (hown' _ hat).2
          · exact Nat.lt_of_lt_of_le (s.new b h).2 hk.size)) mv hk (fin v' w' _ hown mv))
  rcases A with _|ad
  · have hm0:m=[]:=h6 rfl
    subst hm0
    have hc0:css'=[]:=List.eq_nil_of_length_eq_zero (by simpa using k1)
    subst hc0
    refine step v w ?_ (by simpa using h2) ⟨rfl,rfl,rfl,Nat.le_refl _,fun _ _ _=>rfl⟩ (.inl rfl)
    rcases h2.2 with ⟨rfl,h0⟩|⟨g,cap,cur,rfl,_,_,hnc,_⟩
    · simp [Builtin.append_,run_underlying ht,sizeOf,typeInfo,hi1,Builtin.lenOf,Builtin.firstCells]
    · simp [Builtin.append_,run_underlying ht,sizeOf,typeInfo,hi1,Builtin.lenOf,Builtin.firstCells,hnc,storeCells]
  · obtain ⟨v',w',hr,g1,g2,_,g4⟩:=run_append_own_at (P:=P) w w0.heap.size t ty e i z E.size bytes ht hi1 hi2 hi3 hi4 hzs hpos v l.length css.flatten h2 ad m.length c css'.flatten hlen' (k3 ad rfl) hones hlm hlen s.keep.size
    exact step v' w' hr g1 g2 g4
theorem PU {α:Type} {E:Enc α} {t e base b j:Nat} {v:Value} {l:List α} {cs:List Value} (a:α) (hpos:0<E.size) (hs:EE P t=some E.size) (hx:CU F x = .pointer (some ⟨b,j*E.size,none⟩)) (hy:CU F y = .agg cs.toArray) (ho:ED E e base (B++O0) w v l) (hb:v.ownBlock=some b) (hB:b∈B) (hj:j<l.length) (hr:E.rd w (B++O0) cs a) (s:St w0 O0 w B)
    (h:∀ w',St w0 O0 w' B→Mv B w B w'→Keep [b] w w'→ED E e base (B++O0) w' v (l.set j a)→K undef w'):DY P (.store t x y) ty F w K Z:=by
  obtain ⟨css,h1,h2,h3⟩:=ho
  have hlens:=ED.lens h1 h3
  have hcl:cs.length=E.size:=E.len hr
  rcases h2.2 with ⟨rfl,h0⟩|⟨g,cap,cur,rfl,hbg,hg,hnc,hm,hsz,htk⟩
  · omega
  · have:g=b:=by simpa [Value.ownBlock] using hb
    subst this
    have hjn:j*E.size+E.size≤l.length*E.size:=by rw [← Nat.succ_mul];exact Nat.mul_le_mul_right _ hj
    have hnn:l.length*E.size≤cap*E.size:=Nat.mul_le_mul_right _ hnc
    have hcu:cur.toList.length=cap*E.size:=by simpa using hsz
    have hjc:j<css.length:=by omega
    have hcss:css=css.take j++css[j] :: css.drop (j+1):=by rw [← List.drop_eq_getElem_cons hjc,List.take_append_drop]
    obtain ⟨A,hA⟩:∃ A,A=(css.take j).flatten:=⟨_,rfl⟩
    obtain ⟨D,hD⟩:∃ D,D=(css.drop (j+1)).flatten:=⟨_,rfl⟩
    have hAl:A.length=j*E.size:=by rw [hA,FW _ (fun c hc=>hlens c (List.mem_of_mem_take hc)),List.length_take];congr 1;omega
    have hDl:D.length=(l.length - (j+1))*E.size:=by rw [hD,FW _ (fun c hc=>hlens c (List.mem_of_mem_drop hc)),List.length_drop,h1]
    have hXl:css[j].length=E.size:=hlens _ (List.getElem_mem hjc)
    have hfl:css.flatten=A++(css[j]++D):=by
      conv=>lhs;rw [hcss]
      rw [List.flatten_append,List.flatten_cons,← hA,← hD]
    have hcur:cur.toList=A++(css[j]++(D++cur.toList.drop (l.length*E.size))):=by
      rw [← List.append_assoc css[j],← List.append_assoc A,← hfl,← htk,List.take_append_drop]
    have hset:(css.set j cs).flatten=A++(cs++D):=by
      rw [List.set_eq_take_append_cons_drop,if_pos hjc,List.flatten_append,List.flatten_cons,← hA,← hD]
    have hnew:cur.toList.take (j*E.size)++cs++cur.toList.drop (j*E.size+cs.length)=A++(cs++(D++cur.toList.drop (l.length*E.size))):=by
      obtain ⟨R,hR⟩:∃ R,R=cur.toList.drop (l.length*E.size):=⟨_,rfl⟩
      rw [← hR] at hcur ⊢
      rw [hcur,← hAl,List.take_left,List.drop_length_add_append,hcl,← hXl,List.drop_left,List.append_assoc]
    refine BF (T:=e) (cs:=cur.toList) (vs:=cs) (.agg cs.toArray) hx hy rfl (by rw [hcl];exact hs) (E.one hr) hB (by simpa [IB] using hg) (by rw [hcl,hcu];omega) s fun w' k1 k2 k3 k4=>h w' k1 k2 k3 ?_
    rw [hnew] at k4
    refine ⟨css.set j cs,by simp [h1],⟨?_, .inr ⟨g,cap,(A++(cs++(D++cur.toList.drop (l.length*E.size)))).toArray,by simp,hbg,k4,by simpa using hnc,hm,?_,?_⟩⟩,fun q cs' y hq hy=>?_⟩
    · rw [hset]
      have hh:=h2.1
      rw [hfl] at hh
      simp only [List.length_append,List.length_set] at hh ⊢
      omega
    · have hh:=congrArg List.length hcur
      rw [hcu] at hh
      simp only [List.size_toArray,List.length_append] at hh ⊢
      omega
    · rw [hset]
      simp only [List.length_set]
      have e1:A++(cs++(D++cur.toList.drop (l.length*E.size)))=(A++(cs++D))++cur.toList.drop (l.length*E.size):=by simp
      have hh:=h2.1
      rw [hfl] at hh
      have e2:(A++(cs++D)).length=l.length*E.size:=by
        simp only [List.length_append] at hh ⊢
        omega
      rw [e1,← e2,List.take_left]
    · by_cases hjq:j=q
      · subst hjq
        simp [hjc] at hq
        simp [hj] at hy
        subst hq;subst hy
        exact E.mv hr k2
      · rw [List.getElem?_set,if_neg hjq] at hq hy
        exact E.mv (h3 q cs' y hq hy) k2
theorem o_overlaps {f:FuncId} {xs:List Operand} {ats:Array TypeId} {tS tR e size b b2 o o2 n n2 c c2 T T2:Nat} {cur cur2:List Value} (hc:∀ (x y:Value) (w:World),(Extern.SlicesOverlaps.overlaps #[tS,tS] #[tR] #[x,y]).run P w = .ok (.bool false) w→(callFunc f #[x,y]).run P w = .ok (.value (.bool false)) w)
    (ht:P.underlying tS=some (.slice e)) (hs:EE P e=some size) (hv:xs.map (CU F)=[.slice (some ⟨b,o,none⟩) n c, .slice (some ⟨b2,o2,none⟩) n2 c2]) (hb:IB w b T cur) (hb2:IB w b2 T2 cur2) (hne:b≠b2) (h0:0<cur2.length) (h:K (.bool false) w) :
    DY P (.call { callee:=.value (.func f),args:=xs.toArray,argTypes:=ats }) ty F w K Z:=by
  refine BV (v:=.bool false) (w':=w) ?_ h
  have hr:=Lib.run_overlaps_apart (P:=P) w tS tR e ht size (fun w=>FC hs) ⟨b,o,none⟩ ⟨b2,o2,none⟩ n c n2 c2 hne T T2 cur.length cur2.length (by unfold IB at hb;simp [World.shape?,hb]) (by unfold IB at hb2;simp [World.shape?,hb2]) (by omega) (hb.frozen _) (hb.frozen _)
  have hr':=hc _ _ _ hr
  simp [execOp,resolve,Deferred.ofValue,CU,invoke,hv,hr']
end
open Go.RowKit
section
variable {P:Program} {n:Nat} {Q:Exit→Fr→World→Prop}
theorem draw_runM {ops:List Oper} {m:Nat} {late:List Nat} {om:Oper} (INV:Array Bool→Fr→World→Prop) (hd:RD ops m late=true) (hndl:late.Nodup) (hok:ops.all (PI n ops)=true) (hom:ops[m]? = some om)
    (hdown:∀ listed F1 w1,INV listed F1 w1→∀ i,listed[i]? = some true→∀ j∈KD ops i,listed[j]? = some true)
    (hstep:∀ (listed:Array Bool) (F1:Fr) (w1:World) (i:Nat) (o:Oper),listed.size=ops.length→INV listed F1 w1→i<m→ops[i]? = some o→listed[i]? = some false→(∀ j∈KD ops i,listed[j]? = some true)→
      (Region.wanted o (DS ops F1)=true→DY P o.op o.type F1 w1 (fun v w2=>INV (listed.setIfInBounds i true) (HU F1 o.dst v) w2) (fun _ _=>False))∧
      (Region.wanted o (DS ops F1)=false→INV (listed.setIfInBounds i true) (HU F1 o.dst undef) w1))
    (fin:∀ listed F1 w1,INV listed F1 w1→(∀ j,j<m→listed[j]? = some true)→(∀ j,m≤j→listed[j]?≠some true)→WL false P ops Q (om :: DG ops (CS ops m)) F1 w1)
    (finL:∀ c,c<late.length→∀ listed F1 w1,INV listed F1 w1→(∀ j,j<m→(listed[j]? = some true↔j∉late.drop c))→(∀ j,m≤j→listed[j]?≠some true)→WL false P ops Q (om :: (DG ops (late.drop c)++DG ops (CS ops m))) F1 w1) :
    ∀ (fuel:Nat) (listed:Array Bool) (F1:Fr) (w1:World),listed.size=ops.length→OL ops listed≤fuel→(∀ j,m≤j→listed[j]?≠some true)→INV listed F1 w1→wpAny P .any ops.toArray (KS n Q) fuel listed (mk n F1) w1:=by
  unfold RD at hd
  simp only [Bool.and_eq_true] at hd
  obtain ⟨⟨⟨⟨⟨⟨⟨⟨⟨d1,d2⟩,d3⟩,d4⟩,d5⟩,d6⟩,d7⟩,d8⟩,d9⟩,d10⟩:=hd
  have hml:m<ops.length:=blt d5
  have hback:∀ k,k<ops.length→∀ j∈KD ops k,j<k:=fun k hk j hj=>blt (List.all_eq_true.1 (List.all_eq_true.1 d4 k (by simpa using hk)) j hj)
  have hin:∀ k,k<ops.length→∀ j∈KD ops k,j<ops.length:=fun k hk j hj=>Nat.lt_trans (hback k hk j hj) hk
  have hlm:∀ j∈late,j<m:=fun j hj=>blt (List.all_eq_true.1 d6 j hj)
  have htl:∀ j,j∈CS ops m↔m<j∧j<ops.length:=fun j=>by
    unfold CS
    rw [List.mem_iff_getElem?]
    simp only [List.getElem?_drop]
    constructor
    · rintro ⟨i,hi⟩
      have:=(List.getElem?_eq_some_iff.1 hi)
      obtain ⟨h1,h2⟩:=this
      simp at h1 h2;omega
    · rintro ⟨h1,h2⟩
      exact ⟨j - (m+1),by rw [List.getElem?_eq_getElem (by simp;omega)];simp;omega⟩
  have hndt:(CS ops m).Nodup:=by unfold CS;exact List.Nodup.sublist (List.drop_sublist _ _) List.nodup_range
  intro fuel
  induction fuel with
  | zero=>
    intro listed F1 w1 hsz hfu hno hi
    exfalso
    have h0:OL ops listed=0:=by omega
    unfold OL at h0
    have:=List.countP_eq_zero.1 h0 m (by simpa using hml)
    exact hno m (Nat.le_refl _) (by simpa using this)
  | succ fuel ih=>
    intro listed F1 w1 hsz hfu hno hi
    have hmn:listed[m]? = some false:=by
      have h1:=hno m (Nat.le_refl _)
      have:m<listed.size:=by omega
      rw [Array.getElem?_eq_getElem this] at h1 ⊢
      simpa using h1
    by_cases hall:∀ j,j<m→listed[j]? = some true
    · -- all of the first part have been carried out
      have e:DG ops (m :: CS ops m)=om :: DG ops (CS ops m):=by unfold DG;rw [List.filterMap_cons,hom]
      refine GF hok hin (m :: CS ops m) (fuel+1) listed F1 w1 hsz hfu (fun j hj=>⟨fun h=>?_,fun h=>?_⟩) (fun j hj=>?_) (List.nodup_cons.2 ⟨fun h=>by have:=(htl m).1 h;omega,hndt⟩) d8 (hdown _ _ _ hi) (by
        rw [e]
        exact fin listed F1 w1 hi hall hno)
      · intro hm'
        have:m≤j:=by rcases List.mem_cons.1 hm' with h1|h1;omega;have:=(htl j).1 h1;omega
        exact hno j this h
      · exact hall j (by
          rcases Nat.lt_or_ge j m with h1|h1
          · exact h1
          · exfalso;apply h
            rcases Nat.eq_or_lt_of_le h1 with h2|h2
            · subst h2;simp
            · exact List.mem_cons_of_mem _ ((htl j).2 ⟨h2,hj⟩))
      · rcases List.mem_cons.1 hj with h1|h1
        · omega
        · exact ((htl j).1 h1).2
    · have hex:∃ j,j<m∧listed[j]?≠some true:=by
        refine Classical.byContradiction fun hc=>hall fun j hj=>Classical.byContradiction fun hn=>hc ⟨j,hj,hn⟩
      have hmin:∀ q j,q=j→j<m→listed[j]?≠some true→∃ k,k<m∧listed[k]?≠some true∧∀ i,i<k→listed[i]? = some true:=by
        intro q
        induction q using Nat.strongRecOn with
        | _ q ihq=>
          intro j hqj hj hn
          by_cases hb:∀ i,i<j→listed[i]? = some true
          · exact ⟨j,hj,hn,hb⟩
          · have:∃ i,i<j∧listed[i]?≠some true:=Classical.byContradiction fun hc=>hb fun i hi=>Classical.byContradiction fun hn=>hc ⟨i,hi,hn⟩
            obtain ⟨i,hij,hni⟩:=this
            exact ihq i (by omega) i rfl (by omega) hni
      obtain ⟨j0,hj0,hn0⟩:=hex
      obtain ⟨k,hkm,hkn,hkb⟩:=hmin j0 j0 rfl hj0 hn0
      have hkf:listed[k]? = some false:=by
        have:k<listed.size:=by omega
        rw [Array.getElem?_eq_getElem this] at hkn ⊢
        simpa using hkn
      refine ⟨fun h0=>?_,fun i hir=>?_⟩
      · have:=ready_of' hsz (by omega) hkf (fun j hj=>hkb j (hback k (by omega) j hj))
        rw [h0] at this;cases this
      · obtain ⟨hnl,hil⟩:=KG hir hsz
        have ho:ops[i]? = some ops[i]:=List.getElem?_eq_getElem hil
        have haft:=HR ho hir hsz (hin i hil)
        have hclose:∀ j,DT ops i j=true→listed[j]? = some true:=fun j hj=>by
          unfold DT at hj
          exact HC (D:=fun j=>listed[j]? = some true) (hdown _ _ _ hi) _ _ haft j (by simpa using hj)
        rcases Nat.lt_or_ge i m with him|hge
        · have hsp:=hstep listed F1 w1 i ops[i] hsz hi him ho hnl haft
          have hno':∀ j,m≤j→(listed.setIfInBounds i true)[j]?≠some true:=fun j hj=>by
            rw [Array.getElem?_setIfInBounds,if_neg (by omega)];exact hno j hj
          refine MA (K:=fun F2 w2=>INV (listed.setIfInBounds i true) F2 w2) hok ho (fun F2 w2 hK=>ih _ F2 w2 (by simpa using hsz) (by have:=HZ hil hsz hnl;omega) hno' hK) (fun hw=>?_) (fun hw=>hsp.2 hw)
          have h1:=hsp.1 hw
          unfold DY at h1 ⊢
          generalize (execOp (CU F1) ⟨none,ops[i].op,ops[i].type,"",#[],none⟩).run P w1=r at h1 ⊢
          cases r with
          | ok x w'=>
            cases x <;> simp only [HB] at h1 ⊢ <;> try exact h1.elim
            case value v=>exact h1
            case skip=>exact h1
            case enter f args=>
              exact Calls.mono h1 fun e w'' he=>by
                cases e with
                | returned v=>exact he
                | panicked c=>exact he.elim
                | outgrown=>exact he.elim
          | halt x w'=>cases x <;> simp only [HB] at h1 ⊢ <;> exact h1.elim
        · -- operation m comes ahead of some late ones
          have him:i=m:=by
            rcases Nat.eq_or_lt_of_le hge with h1|h1
            · exact h1.symm
            · have h2:=hclose m (List.all_eq_true.1 d3 i ((htl i).2 ⟨h1,hil⟩))
              rw [hmn] at h2;cases h2
          subst him
          have hnl':∀ j,j<i→j∉late→listed[j]? = some true:=fun j hj hjl=>by
            have h1:=List.all_eq_true.1 d2 j (by simpa using hj)
            simp only [Bool.or_eq_true,List.contains_iff_mem] at h1
            exact hclose j (h1.resolve_left hjl)
          have hex2:∃ (c:Nat) (j:Nat),late[c]? = some j∧listed[j]?≠some true:=by
            have h1:j0∈late:=Classical.byContradiction fun hc=>hn0 (hnl' j0 hj0 hc)
            obtain ⟨c,hc⟩:=List.mem_iff_getElem?.1 h1
            exact ⟨c,j0,hc,hn0⟩
          have hminc:∀ q c:Nat,q=c→(∃ j:Nat,late[c]? = some j∧listed[j]?≠some true)→∃ c':Nat,(∃ j:Nat,late[c']? = some j∧listed[j]?≠some true)∧∀ x j:Nat,x<c'→late[x]? = some j→listed[j]? = some true:=by
            intro q
            induction q using Nat.strongRecOn with
            | _ q ihq=>
              intro c hqc hc
              by_cases hb:∀ x j:Nat,x<c→late[x]? = some j→listed[j]? = some true
              · exact ⟨c,hc,hb⟩
              · have:∃ x j:Nat,x<c∧late[x]? = some j∧listed[j]?≠some true:=Classical.byContradiction fun hcn=>hb fun x j hx hj=>Classical.byContradiction fun hn=>hcn ⟨x,j,hx,hj,hn⟩
                obtain ⟨x,j,hx,hj,hn⟩:=this
                exact ihq x (by omega) x rfl ⟨j,hj,hn⟩
          obtain ⟨c0,hc0⟩:=hex2
          obtain ⟨c,⟨jc,hjc,hjn⟩,hcb⟩:=hminc c0 c0 rfl hc0
          have hcl:c<late.length:=(List.getElem?_eq_some_iff.1 hjc).1
          have hcw:∀ b a,listed[b]? = some true→DT ops b a=true→listed[a]? = some true:=fun b a hb hba=>by
            unfold DT at hba
            exact HC (D:=fun j=>listed[j]? = some true) (hdown _ _ _ hi) _ _ ((hdown _ _ _ hi) b hb) a (by simpa using hba)
          have hdropn:∀ j∈late.drop c,¬ listed[j]? = some true:=RL (D:=fun j=>listed[j]? = some true) hcw late d7 c ⟨jc,hjc,hjn⟩
          have hdropm:∀ j,j<i→(listed[j]? = some true↔j∉late.drop c):=fun j hj=>by
            constructor
            · intro h1 h2;exact hdropn j h2 h1
            · intro h1
              by_cases hjl:j∈late
              · obtain ⟨x,hx⟩:=List.mem_iff_getElem?.1 hjl
                by_cases hxc:x<c
                · exact hcb x j hxc hx
                · exfalso;apply h1
                  exact List.mem_iff_getElem?.2 ⟨x - c,by rw [List.getElem?_drop,show c+(x - c)=x by omega];exact hx⟩
              · exact hnl' j hj hjl
          have hK:=finL c hcl listed F1 w1 hi hdropm hno
          have hom':om=ops[i]:=by rw [ho] at hom;exact (Option.some.inj hom).symm
          have hso:DG ops (late.drop c)++DG ops (CS ops i)=DG ops (late.drop c++CS ops i):=by unfold DG;rw [List.filterMap_append]
          rw [hso,hom'] at hK
          have hset:∀ j,(listed.setIfInBounds i true)[j]? = some true↔j=i∨listed[j]? = some true:=fun j=>by
            rw [Array.getElem?_setIfInBounds]
            by_cases hji:i=j
            · subst hji;simp;omega
            · rw [if_neg hji];exact ⟨fun h=>.inr h,fun h=>h.resolve_left (fun e=>hji e.symm)⟩
          refine MA (K:=fun F w=>WL false P ops Q (DG ops (late.drop c++CS ops i)) F w) hok ho (fun F2 w2 hK2=>GF hok hin (late.drop c++CS ops i) fuel _ F2 w2 (by simpa using hsz) (by have:=HZ hil hsz hnl;omega) (fun j hj=>?_) (fun j hj=>?_) ?_ (List.all_eq_true.1 d9 c (by simpa using hcl)) (fun j hj q hq=>?_) hK2) (fun hw=>?_) (fun hw=>?_)
          · rw [hset j,List.mem_append,htl j]
            constructor
            · rintro (rfl|h1)
              · rintro (h2|h2)
                · have:=hlm j (List.mem_of_mem_drop h2);omega
                · omega
              · rintro (h2|h2)
                · exact hdropn j h2 h1
                · exact hno j (by omega) h1
            · intro h1
              rcases Nat.lt_trichotomy j i with h2|h2|h2
              · exact .inr ((hdropm j h2).2 (fun h3=>h1 (.inl h3)))
              · exact .inl h2
              · exact absurd (.inr ⟨h2,hj⟩) h1
          · rcases List.mem_append.1 hj with h1|h1
            · have:=hlm j (List.mem_of_mem_drop h1);omega
            · exact ((htl j).1 h1).2
          · refine List.nodup_append.2 ⟨List.Nodup.sublist (List.drop_sublist _ _) hndl,hndt,fun a ha b hb e=>?_⟩
            have h1:=hlm a (List.mem_of_mem_drop ha)
            have h2:=(htl b).1 hb
            omega
          · rw [hset q]
            rcases (hset j).1 hj with rfl|h1
            · exact .inr (haft q hq)
            · exact .inr ((hdown _ _ _ hi) j h1 q hq)
          · unfold WL at hK;rw [if_pos hw] at hK;exact hK.resolve_right (fun e=>by cases e.1)
          · unfold WL at hK;rw [if_neg (by rw [hw];simp)] at hK;exact hK
abbrev Pr2:=Value→Value→World→Prop
def prR (Rs:List Pr2) (i:Nat):Pr2:=(Rs[i]?).getD (fun _ _ _=>True)
def OpSpecR (P:Program) (ops:List Oper) (m:Nat) (Ts:List Pr) (Rs:List Pr2) (F:Fr) (w:World) (a i:Nat) (o:Oper) (T:Pr) (R:Pr2):Prop:=
  ∀ F1 w1,Keep [] w w1→(∀ t,OT ops i t=true→F1 t=F t)→(∀ j d,WS ops m i j d=true→OP Ts j (F1 d) w1)→
    ∀ vo:Option Value,(∀ u,vo=some u→OP Ts a u w1)→(∀ u,vo=some u→∀ j d,j≠a→WS ops m i j d=true→prR Rs j u (F1 d) w1)→
    (Region.wanted o (DS ops F1)=true→DY P o.op o.type F1 w1 (fun v w2=>Keep [] w1 w2∧T v w2∧∀ u,vo=some u→R u v w2) (fun _ _=>False))∧
    (Region.wanted o (DS ops F1)=false→T undef w1∧∀ u,vo=some u→R u undef w1)
def UX:List Pr→List Pr2→Value→World→World→Prop
  | T :: Ts,R :: Rs,v,w1,w2=>(∀ x,T x w1→R v x w2)∧UX Ts Rs v w1 w2
  | _,_,_,_,_=>True
theorem UX.at_:∀ {Ts:List Pr} {Rs:List Pr2} {v:Value} {w1 w2:World},Rs.length=Ts.length→UX Ts Rs v w1 w2→∀ i x,OP Ts i x w1→i<Ts.length→prR Rs i v x w2
  | [],_,_,_,_,_,_,i,x,_,hi=>by simp at hi
  | T :: Ts,[],_,_,_,h,_,_,_,_,_=>by simp at h
  | T :: Ts,R :: Rs,v,w1,w2,hl,h,0,x,hx,_=>h.1 x hx
  | T :: Ts,R :: Rs,v,w1,w2,hl,h,i+1,x,hx,hi=>UX.at_ (by simpa using hl) h.2 i x hx (by simpa using hi)
def OpSpecA (P:Program) (ops:List Oper) (m:Nat) (Ts:List Pr) (Rs:List Pr2) (F:Fr) (w:World) (i:Nat) (o:Oper) (T:Pr):Prop:=
  o.guard=none∧∀ F1 w1,Keep [] w w1→(∀ t,OT ops i t=true→F1 t=F t)→(∀ j d,WS ops m i j d=true→OP Ts j (F1 d) w1)→
    DY P o.op o.type F1 w1 (fun v w2=>Keep [] w1 w2∧T v w2∧UX Ts Rs v w1 w2) (fun _ _=>False)
def SpecsR (P:Program) (ops:List Oper) (m:Nat) (Ts:List Pr) (Rs:List Pr2) (F:Fr) (w:World) (a:Nat):Nat→List Oper→List Pr→List Pr2→Prop
  | i,o :: r,T :: R,Q :: S=>(bif Nat.beq i a then OpSpecA P ops m Ts Rs F w i o T else OpSpecR P ops m Ts Rs F w a i o T Q)∧SpecsR P ops m Ts Rs F w a (i+1) r R S
  | _,_,_,_=>True
theorem SpecsR.at_ {ops:List Oper} {m:Nat} {Ts:List Pr} {Rs:List Pr2} {F:Fr} {w:World} {a:Nat}:∀ (l:List Oper) (R:List Pr) (S:List Pr2) (k i:Nat) (o:Oper) (T:Pr) (Q:Pr2),SpecsR P ops m Ts Rs F w a k l R S→l[i]? = some o→R[i]? = some T→S[i]? = some Q→
    (bif Nat.beq (k+i) a then OpSpecA P ops m Ts Rs F w (k+i) o T else OpSpecR P ops m Ts Rs F w a (k+i) o T Q)
  | [],_,_,_,_,_,_,_,_,h,_,_=>by simp at h
  | _ :: _,[],_,_,_,_,_,_,_,_,h,_=>by simp at h
  | _ :: _,_ :: _,[],_,_,_,_,_,_,_,_,h=>by simp at h
  | o' :: l,T' :: R,Q' :: S,k,0,o,T,Q,h,h1,h2,h3=>by
    simp at h1 h2 h3;subst h1;subst h2;subst h3;exact h.1
  | o' :: l,T' :: R,Q' :: S,k,i+1,o,T,Q,h,h1,h2,h3=>by
    have:=SpecsR.at_ l R S (k+1) i o T Q h.2 (by simpa using h1) (by simpa using h2) (by simpa using h3)
    rwa [show k+1+i=k+(i+1) by omega] at this
def StabR:List Pr2→Prop
  | []=>True
  | T :: R=>(∀ u v w w',T u v w→Keep [] w w'→T u v w')∧StabR R
theorem StabR.of:∀ {Rs:List Pr2},StabR Rs→∀ T∈Rs,∀ u v w w',T u v w→Keep [] w w'→T u v w'
  | [],_,T,h=>by cases h
  | T' :: R,hs,T,h=>by
    rcases List.mem_cons.1 h with rfl|h
    · exact hs.1
    · exact StabR.of hs.2 T h
end
section
variable {P:Program} {w:World} {F:Fr} {K:Value→World→Prop} {Z:List PanicEntry→World→Prop} {ty:TypeId}
end
open Go.RowKit
section
variable {P:Program} {ty:TypeId} {F:Fr} {w w0:World} {O0 B:List Nat} {K:Value→World→Prop} {Z:List PanicEntry→World→Prop} {x y:Operand}
def RdN {α:Type} (E:Enc α) (u:World) (O:List Nat) (w:World) (v:Value) (l:List α):Prop:=
  ∃ (A:Addr) (c:Nat),v = .slice (some A) l.length c∧l.length≤c∧c≤maxLen∧∃ css:List (List Value),css.length=l.length∧(∀ (j:Nat) (cs:List Value) (y:α),css[j]? = some cs→l[j]? = some y→E.rd u O cs y)∧∀ (j:Nat) (q:Value),css.flatten[j]? = some q→w.cell? (A.add j)=some q
theorem RdN.keep {α:Type} {E:Enc α} {u:World} {O:List Nat} {w w':World} {v:Value} {l:List α} (h:RdN E u O w v l) (k:Keep [] w w'):RdN E u O w' v l:=by
  obtain ⟨A,c,h1,h2,h3,css,h4,h5,h6⟩:=h
  exact ⟨A,c,h1,h2,h3,css,h4,h5,fun j q hq=>WK k (h6 j q hq)⟩
theorem o_appendN {α:Type} {E:Enc α} {t e:Nat} {z:Value} {bytes:Nat} {v u:Value} {l m:List α} {O':List Nat} {uw:World} (ht:P.underlying t=some (.slice e)) (hi:(P.info? e).map (fun i=>(i.zero,i.size,i.bytes))=some (some z,E.size,bytes)) (hzs:z.cells.size=E.size) (hpos:0<E.size)
    (hx:CU F x=v) (hy:CU F y=u) (ho:ED E e w0.heap.size (B++O0) w v l) (hu:RdN E uw O' w u m) (hav:∀ cs y,E.rd uw O' cs y→E.rd w (B++O0) cs y) (hv:∀ b,v.ownBlock=some b→b∈B) (hlen:(l.length+m.length)*bytes≤140737488355328) (hlm:l.length+m.length≤maxLen) (s:St w0 O0 w B)
    (h:∀ v' w' B',(∀ b,v'.ownBlock=some b→b∈B')→(v'.ownBlock=v.ownBlock∨v'.ownBlock=some w.heap.size)→(∀ b∈B,b∈B')→St w0 O0 w' B'→Mv B w B' w'→Keep v.ownBlock.toList w w'→ED E e w0.heap.size (B'++O0) w' v' (l++m)→K v' w') :
    DY P (.call { callee:=.builtin .append,args:=#[x,y],argTypes:=#[t,t] }) ty F w K Z:=by
  obtain ⟨i,hi1,hi2,hi3,hi4⟩:=info_parts hi
  obtain ⟨css,h1,h2,h3⟩:=ho
  obtain ⟨ad,c,rfl,h4,h5,css',k1,k2,k3⟩:=hu
  have hlens':∀ cs∈css',cs.length=E.size:=ED.lens k1 k2
  have hones:∀ u∈css'.flatten,u.oneCell'=true:=by
    intro u hu
    obtain ⟨cs,hcs,hucs⟩:=List.mem_flatten.1 hu
    obtain ⟨j,hj,rfl⟩:=List.getElem_of_mem hcs
    exact E.one (k2 j _ m[j] (List.getElem?_eq_getElem hj) (List.getElem?_eq_getElem (by omega))) u hucs
  have hlen':css'.flatten.length=m.length*E.size:=by rw [FW css' hlens',k1]
  have fin:∀ v' w' B',w'.ownsRow w0.heap.size e E.size v' (l.length+m.length) (css.flatten++css'.flatten)→Mv B w B' w'→ED E e w0.heap.size (B'++O0) w' v' (l++m):=by
    intro v' w' B' hr hmv
    refine ⟨css++css',by simp [h1,k1],by simpa using hr,fun j cs y hj hy=>?_⟩
    by_cases hjl:j<l.length
    · rw [List.getElem?_append_left (by omega)] at hj hy
      exact E.mv (h3 j cs y hj hy) hmv
    · rw [List.getElem?_append_right (by omega)] at hj hy
      rw [h1] at hj
      exact E.mv (hav _ _ (k2 _ cs y hj hy)) hmv
  have step:∀ v' w',(Builtin.append_ #[t,t] ty #[v, .slice (some ad) m.length c]).run P w = .ok v' w'→w'.ownsRow w0.heap.size e E.size v' (l.length+m.length) (css.flatten++css'.flatten)→w.grownBy w' v.ownBlock→(v'.ownBlock=v.ownBlock∨v'.ownBlock=some w.heap.size)→
      DY P (.call { callee:=.builtin .append,args:=#[x,y],argTypes:=#[t,t] }) ty F w K Z:=by
    intro v' w' hr hown hg hat
    have hk:Keep v.ownBlock.toList w w':=Keep.of_grown hg
    have hB:Keep B w w':=hk.mono (fun b hb=>.inl (hv b (by simpa using hb)))
    have hown':=hown.lt
    rcases hat with hat|hat
    · have mv:Mv B w B w':=⟨hB,fun b hb=>.inl hb⟩
      exact BV (v:=v') (w':=w') (by simp [execOp,resolve,invoke,builtin,hx,hy,hr]) (h v' w' B (fun b hb=>hv b (by rw [← hat];exact hb)) (.inl hat) (fun b hb=>hb) (s.step mv (fun b hb=>Nat.lt_of_lt_of_le (s.new b hb).2 hk.size)) mv hk (fin v' w' B hown mv))
    · have mv:Mv B w (w.heap.size :: B) w':=⟨hB,fun b hb=>by rcases List.mem_cons.1 hb with h|h;exact .inr (by omega);exact .inl h⟩
      exact BV (v:=v') (w':=w') (by simp [execOp,resolve,invoke,builtin,hx,hy,hr]) (h v' w' (w.heap.size :: B) (fun b hb=>by rw [hat] at hb;cases hb;simp) (.inr hat) (fun b hb=>by simp [hb])
        (s.step mv (fun b hb=>by
          rcases List.mem_cons.1 hb with h|h
          · subst h;exact (hown' _ hat).2
          · exact Nat.lt_of_lt_of_le (s.new b h).2 hk.size)) mv hk (fin v' w' _ hown mv))
  obtain ⟨v',w',hr,g1,g2,_,g4⟩:=run_append_own_at (P:=P) w w0.heap.size t ty e i z E.size bytes ht hi1 hi2 hi3 hi4 hzs hpos v l.length css.flatten h2 ad m.length c css'.flatten hlen' k3 hones hlm hlen s.keep.size
  exact step v' w' hr g1 g2 g4
end
open Go.RowKit
abbrev XW:=List Nat→Value→World→Prop
def prU (Ts:List XW) (i:Nat):XW:=(Ts[i]?).getD (fun _ _ _=>True)
structure Gr where
  g:Nat
  rs:List Nat
  hs:List Nat
  kills:List Nat
  wr:Bool
  uses:List Nat
def SL (G:List Gr) (i:Nat):Gr:=(G[i]?).getD ⟨0,[],[],[],false,[]⟩
def aliveB (G:List Gr) (m i:Nat):Bool:=(List.range m).all fun q=>!(SL G q).kills.contains i
theorem nbf {a b:Nat}:Nat.beq a b=false↔a≠b:=by
  constructor
  · intro h e;subst e;rw [Nat.beq_refl] at h;cases h
  · intro h
    cases hb:Nat.beq a b with
    | false=>rfl
    | true=>exact absurd (Nat.eq_of_beq_eq_true hb) h
def avo (lab:Nat→Nat) (base size g:Nat):List Nat:=(List.range size).filter fun b=>Nat.ble base b && !Nat.beq (lab b) g
theorem JR {lab:Nat→Nat} {base size g b:Nat}:b∈avo lab base size g↔b<size∧base≤b∧lab b≠g:=by
  unfold avo;simp [List.mem_filter,nbf]
def VA (ops:List Oper) (m:Nat) (G:List Gr):Bool:=
  (List.range m).all fun i=>let r:=SL G i
    (Nat.beq r.g 0 || r.rs.all (fun x=>Nat.beq x r.g || r.hs.contains x)) && (!r.wr || !Nat.beq r.g 0) && (!Nat.beq r.g 0 || r.hs.isEmpty) && !r.hs.contains r.g && !r.hs.contains 0 &&
    (List.range m).all (fun q=>Nat.beq q i || Nat.beq (SL G q).g 0 || r.kills.contains q || DT ops q i || (!r.hs.contains (SL G q).g && (!r.wr || !Nat.beq (SL G q).g r.g))) &&
    r.uses.all (fun j=>Nat.blt j m && (KD ops i).contains j && (Nat.beq (SL G j).g 0 || r.rs.contains (SL G j).g) && (List.range m).all (fun q=>Nat.beq q i || !(SL G q).kills.contains j || DT ops q i))
def VE:List XW→List Gr→Prop
  | T :: Ts,r :: G=>(bif Nat.beq r.g 0 then (∀ B B' v w w',T B v w→T B' v w') else (∀ B B' v w w',T B v w→Mv B w B' w'→T B' v w'))∧VE Ts G
  | _,_=>True
theorem VE.at_:∀ {Ts:List XW} {G:List Gr},VE Ts G→G.length=Ts.length→∀ i,(bif Nat.beq (SL G i).g 0 then (∀ B B' v w w',prU Ts i B v w→prU Ts i B' v w') else (∀ B B' v w w',prU Ts i B v w→Mv B w B' w'→prU Ts i B' v w'))
  | [],[],_,_,i=>by simp only [SL,prU,List.getElem?_nil,Option.getD_none];exact fun _ _ _ _ _ _=>trivial
  | T :: Ts,r :: G,h,hl,0=>h.1
  | T :: Ts,r :: G,h,hl,i+1=>VE.at_ h.2 (by simpa using hl) i
  | [],_ :: _,_,h,_=>by simp at h
  | _ :: _,[],_,h,_=>by simp at h
section
variable {P:Program} {n:Nat} {Q:Exit→Fr→World→Prop}
def OpSpecU (P:Program) (ops:List Oper) (m:Nat) (Ts:List XW) (G:List Gr) (F:Fr) (w:World) (B:List Nat) (i:Nat) (o:Oper) (T:XW):Prop:=
  ∀ F1 w1 (B1:List Nat) (Bs:Nat→List Nat),Keep [] w w1→(∀ b∈B,b∈B1)→(∀ b∈B1,b∈B∨(w.heap.size≤b∧b<w1.heap.size))→(∀ g,(SL G i).rs.contains g=true→∀ b∈B1,b∈Bs g)→(∀ g h b,Nat.beq g h=false→w.heap.size≤b→b<w1.heap.size→b∉Bs g→b∈Bs h)→(∀ t,OT ops i t=true→F1 t=F t)→
    (∀ j d,(SL G i).uses.contains j=true→depAt' ops j d=true→prU Ts j (Bs (SL G j).g) (F1 d) w1)→
    (Region.wanted o (DS ops F1)=true→DY P o.op o.type F1 w1 (fun v w2=>∃ C,Keep C w1 w2∧(∀ b∈C,(SL G i).wr=true∧w.heap.size≤b∧b<w1.heap.size∧b∉B1)∧T B1 v w2) (fun _ _=>False))∧
    (Region.wanted o (DS ops F1)=false→T B1 undef w1)
def QV (P:Program) (ops:List Oper) (m:Nat) (Ts:List XW) (G:List Gr) (F:Fr) (w:World) (B:List Nat):Nat→List Oper→List XW→Prop
  | i,o :: r,T :: R=>OpSpecU P ops m Ts G F w B i o T∧QV P ops m Ts G F w B (i+1) r R
  | _,_,_=>True
theorem QV.at_ {ops:List Oper} {m:Nat} {Ts:List XW} {G:List Gr} {F:Fr} {w:World} {B:List Nat}:∀ (l:List Oper) (R:List XW) (k i:Nat) (o:Oper) (T:XW),QV P ops m Ts G F w B k l R→l[i]? = some o→R[i]? = some T→OpSpecU P ops m Ts G F w B (k+i) o T
  | [],_,_,_,_,_,_,h,_=>by simp at h
  | _ :: _,[],_,_,_,_,_,_,h=>by simp at h
  | o' :: l,T' :: R,k,0,o,T,h,h1,h2=>by
    simp at h1 h2;subst h1;subst h2;exact h.1
  | o' :: l,T' :: R,k,i+1,o,T,h,h1,h2=>by
    have:=QV.at_ l R (k+1) i o T h.2 (by simpa using h1) (by simpa using h2)
    rwa [show k+1+i=k+(i+1) by omega] at this
structure UInv (ops:List Oper) (m:Nat) (Ts:List XW) (G:List Gr) (F:Fr) (w:World) (B:List Nat) (listed:Array Bool) (F1:Fr) (w1:World):Prop where
  keep:Keep [] w w1
  down:∀ i,listed[i]? = some true→∀ j∈KD ops i,listed[j]? = some true
  free:∀ (t:Tmp),(∀ (j:Nat) (o:Oper),listed[j]? = some true→ops[j]? = some o→o.dst≠some t)→F1 t=F t
  fact:∃ lab:Nat→Nat,∀ (i:Nat) (o:Oper) (d:Tmp),i<m→listed[i]? = some true→(∀ q,q<m→listed[q]? = some true→i∉(SL G q).kills)→ops[i]? = some o→o.dst=some d→prU Ts i (avo lab w.heap.size w1.heap.size (SL G i).g++B) (F1 d) w1
theorem Keep.behind {a b c:World} {C:List Nat} (h:Keep [] a b) (k:Keep C b c) (hC:∀ x∈C,a.heap.size≤x):Keep [] a c:=
  ⟨k.os.trans h.os,k.tape.trans h.tape,k.output.trans h.output,Nat.le_trans h.size k.size,fun i hi ho=>(k.block i (Nat.lt_of_lt_of_le hi h.size) (fun hc=>by have:=hC i hc;omega)).trans (h.block i hi ho)⟩
theorem stepU {ops:List Oper} {F:Fr} {w:World} {m:Nat} {Ts:List XW} {G:List Gr} {B:List Nat} (hdo:∀ (i j:Nat) (oi oj:Oper),i<m→j<m→i≠j→ops[i]? = some oi→ops[j]? = some oj→oi.dst≠none→oi.dst≠oj.dst)
    (hTl:Ts.length=m) (hGl:G.length=Ts.length) (hle:m≤ops.length) (hgr:VA ops m G=true) (hst:VE Ts G)
    (hs:QV P ops m Ts G F w B 0 (ops.take m) Ts) {listed:Array Bool} {F1:Fr} {w1:World} {i:Nat} {o:Oper} (hsz:listed.size=ops.length) (hi:UInv ops m Ts G F w B listed F1 w1) (him:i<m) (ho:ops[i]? = some o) (hnl:listed[i]? = some false) (haft:∀ j∈KD ops i,listed[j]? = some true) :
    (Region.wanted o (DS ops F1)=true→DY P o.op o.type F1 w1 (fun v w2=>UInv ops m Ts G F w B (listed.setIfInBounds i true) (HU F1 o.dst v) w2) (fun _ _=>False))∧
    (Region.wanted o (DS ops F1)=false→UInv ops m Ts G F w B (listed.setIfInBounds i true) (HU F1 o.dst undef) w1):=by
  have hil:i<ops.length:=by omega
  have hg:=List.all_eq_true.1 hgr i (by simpa using him)
  simp only [Bool.and_eq_true] at hg
  obtain ⟨⟨⟨⟨⟨⟨g1,g2⟩,g3⟩,g4⟩,g5⟩,g6⟩,g7⟩:=hg
  generalize hr:SL G i=r at *
  have c1:r.g≠0→∀ x∈r.rs,x=r.g∨x∈r.hs:=fun h0 x hx=>by
    rcases (Bool.or_eq_true _ _).mp g1 with h|h
    · exact absurd (Nat.eq_of_beq_eq_true h) h0
    · have:=List.all_eq_true.1 h x hx
      rcases (Bool.or_eq_true _ _).mp this with h|h
      · exact .inl (Nat.eq_of_beq_eq_true h)
      · exact .inr (by simpa using h)
  have c2:r.wr=true→r.g≠0:=fun h h0=>by rw [h,h0] at g2;simp at g2
  have c3:r.g=0→r.hs=[]:=fun h0=>by rw [h0] at g3;simpa using g3
  have c4:r.g∉r.hs:=by simpa using g4
  have c6:∀ q,q<m→q≠i→(SL G q).g≠0→q∉r.kills→DT ops q i=false→(SL G q).g∉r.hs∧(r.wr=true→(SL G q).g≠r.g):=fun q hq hqi h0 hk hwt=>by
    have:=List.all_eq_true.1 g6 q (by simpa using hq)
    simp only [Bool.or_eq_true,Bool.and_eq_true] at this
    rcases this with (((h|h)|h)|h)|h
    · exact absurd (Nat.eq_of_beq_eq_true h) hqi
    · exact absurd (Nat.eq_of_beq_eq_true h) h0
    · exact absurd (by simpa using h) hk
    · rw [hwt] at h;cases h
    · exact ⟨by simpa using h.1,fun hw e=>by rw [hw,e] at h;simp at h⟩
  have c7:∀ j∈r.uses,j<m∧j∈KD ops i∧((SL G j).g≠0→(SL G j).g∈r.rs)∧∀ q,q<m→q≠i→j∈(SL G q).kills→DT ops q i=true:=fun j hj=>by
    have:=List.all_eq_true.1 g7 j hj
    simp only [Bool.and_eq_true] at this
    obtain ⟨⟨⟨h1,h2⟩,h3⟩,h4⟩:=this
    refine ⟨blt h1,by simpa using h2,fun h0=>?_,fun q hq hqi hk=>?_⟩
    · rcases (Bool.or_eq_true _ _).mp h3 with h|h
      · exact absurd (Nat.eq_of_beq_eq_true h) h0
      · simpa using h
    · have:=List.all_eq_true.1 h4 q (by simpa using hq)
      simp only [Bool.or_eq_true] at this
      rcases this with (h|h)|h
      · exact absurd (Nat.eq_of_beq_eq_true h) hqi
      · exact absurd hk (by simpa using h)
      · exact h
  obtain ⟨lab,hfact⟩:=hi.fact
  -- what the operation does not read
  have hL:∃ L:List Nat,∀ b,b∈L↔(b<w1.heap.size∧w.heap.size≤b∧lab b≠r.g∧lab b∉r.hs∧lab b∉r.rs):=
    ⟨(List.range w1.heap.size).filter fun b=>Nat.ble w.heap.size b && !Nat.beq (lab b) r.g && !r.hs.contains (lab b) && !r.rs.contains (lab b),fun b=>by simp [List.mem_filter,and_assoc,nbf]⟩
  obtain ⟨L,hL⟩:=hL
  have hstab:∀ j,(SL G j).g≠0→∀ B B' v w w',prU Ts j B v w→Mv B w B' w'→prU Ts j B' v w':=fun j h0=>by
    have:=hst.at_ hGl j
    cases hb:Nat.beq (SL G j).g 0 with
    | true=>exact absurd (Nat.eq_of_beq_eq_true hb) h0
    | false=>rw [hb] at this;exact this
  have hstat:∀ j,(SL G j).g=0→∀ B B' v w w',prU Ts j B v w→prU Ts j B' v w':=fun j h0=>by
    have:=hst.at_ hGl j
    rw [h0] at this;exact this
  have dep:∀ (j d:Nat),depAt' ops j d=true→∃ oj,ops[j]? = some oj∧oj.dst=some d:=fun j d h=>by
    unfold depAt' at h
    cases ho:ops[j]? with
    | none=>rw [ho] at h;cases h
    | some o=>
      rw [ho] at h
      simp only [Option.bind_some] at h
      cases hd':o.dst with
      | none=>rw [hd'] at h;cases h
      | some e=>
        rw [hd'] at h
        have:=Nat.eq_of_beq_eq_true h
        subst this
        exact ⟨o,rfl,hd'⟩
  have hT:Ts[i]? = some Ts[i]:=List.getElem?_eq_getElem (by omega)
  have hTi:prU Ts i=Ts[i]:=by unfold prU;rw [hT];rfl
  have hcl:∀ q j,listed[q]? = some true→DT ops q j=true→listed[j]? = some true:=fun q j hq hj=>by
    unfold DT at hj
    exact HC (D:=fun j=>listed[j]? = some true) hi.down _ _ (hi.down q hq) j (by simpa using hj)
  have hsp:=hs.at_ (ops.take m) Ts 0 i o Ts[i] (by rw [List.getElem?_take,if_pos him];exact ho) hT
  rw [Nat.zero_add] at hsp
  have hsep:∀ g h b,Nat.beq g h=false→w.heap.size≤b→b<w1.heap.size→b∉avo lab w.heap.size w1.heap.size g++B→b∈avo lab w.heap.size w1.heap.size h++B:=fun g h b hgh h1 h2 hb=>by
    refine List.mem_append_left _ (JR.2 ⟨h2,h1,fun e=>?_⟩)
    refine hb (List.mem_append_left _ (JR.2 ⟨h2,h1,fun e'=>?_⟩))
    rw [← e',e,Nat.beq_refl] at hgh;cases hgh
  have hsp:=hsp F1 w1 (L++B) (fun g=>avo lab w.heap.size w1.heap.size g++B) hi.keep (fun b hb=>List.mem_append_right _ hb) (fun b hb=>by
      rcases List.mem_append.1 hb with h|h
      · exact .inr ⟨((hL b).1 h).2.1,((hL b).1 h).1⟩
      · exact .inl h) (fun g hg b hb=>by
      rw [hr] at hg
      have hg:g∈r.rs:=by simpa using hg
      rcases List.mem_append.1 hb with h|h
      · obtain ⟨a1,a2,a3,a4,a5⟩:=(hL b).1 h
        exact List.mem_append_left _ (JR.2 ⟨a1,a2,fun e=>a5 (by rw [e];exact hg)⟩)
      · exact List.mem_append_right _ h) hsep (fun t ht=>hi.free t (fun j oj hj hoj=>by
        intro e
        unfold OT at ht
        have h1:=List.all_eq_true.1 ht j (by simp;exact (List.getElem?_eq_some_iff.1 hoj).1)
        rw [hoj] at h1
        simp only [e,Bool.or_eq_true,List.contains_iff_mem] at h1
        rcases h1 with h1|h1
        · simp at h1
        · have:=hi.down j hj i h1
          rw [hnl] at this;cases this)) (fun j d hj hdep=>by
        rw [hr] at hj
        have hj:j∈r.uses:=by simpa using hj
        obtain ⟨hjm,hja,hjr,hjk⟩:=c7 j hj
        obtain ⟨oj,hoj,hdj⟩:=dep j d hdep
        have hf:=hfact j oj d hjm (haft j hja) (fun q hq hql hk=>by
          by_cases hqi:q=i
          · subst hqi;rw [hnl] at hql;cases hql
          · have:=hcl q i hql (hjk q hq hqi hk)
            rw [hnl] at this;cases this) hoj hdj
        exact hf)
  have hdist:∀ (j:Nat) (oj:Oper),j<m→j≠i→ops[j]? = some oj→oj.dst≠none→oj.dst≠o.dst:=fun j oj hj hji hoj hne=>hdo j i oj o hj him hji hoj ho hne
  have hset:∀ (j:Nat),(listed.setIfInBounds i true)[j]? = some true→j=i∨listed[j]? = some true:=by
    intro j hj
    by_cases hji:j=i
    · exact .inl hji
    · rw [Array.getElem?_setIfInBounds,if_neg (fun e=>hji e.symm)] at hj;exact .inr hj
  have hmono:∀ (j:Nat),listed[j]? = some true→(listed.setIfInBounds i true)[j]? = some true:=by
    intro j hj
    rw [Array.getElem?_setIfInBounds]
    split
    · rename_i e;subst e
      have:i<listed.size:=by omega
      simp [this]
    · exact hj
  have hself:(listed.setIfInBounds i true)[i]? = some true:=by
    rw [Array.getElem?_setIfInBounds,if_pos rfl,if_pos (by omega)]
  have use:∀ v w2,(∃ C,Keep C w1 w2∧(∀ b∈C,r.wr=true∧w.heap.size≤b∧b<w1.heap.size∧b∉L++B)∧Ts[i] (L++B) v w2)→UInv ops m Ts G F w B (listed.setIfInBounds i true) (HU F1 o.dst v) w2:=by
    rintro v w2 ⟨C,hk,hC,hv⟩
    rw [← hTi] at hv
    refine ⟨hi.keep.behind hk (fun x hx=>(hC x hx).2.1),fun j hj q hq=>?_,fun t ht=>?_,fun b=>if b<w1.heap.size then (if lab b∈r.hs then r.g else lab b) else r.g,fun q oq d hqm hql hqk hoq hd=>?_⟩
    · rcases hset j hj with rfl|hj
      · exact hmono q (haft q hq)
      · exact hmono q (hi.down j hj q hq)
    · have h1:o.dst≠some t:=ht i o hself ho
      have h2:F1 t=F t:=hi.free t (fun j oj hj hoj=>ht j oj (hmono j hj) hoj)
      cases hod:o.dst with
      | none=>exact h2
      | some d'=>
        show GI F1 d' v t=F t
        rw [HV _ _ _ (fun e=>h1 (by rw [hod,e]))];exact h2
    · by_cases hqi:q=i
      · subst hqi
        rw [ho] at hoq;cases hoq
        have e:HU F1 o.dst v d=v:=by rw [hd];exact HA _ _ _
        rw [e,hr]
        by_cases h0:r.g=0
        · exact hstat q (by rw [hr];exact h0) _ _ _ _ _ hv
        · refine hstab q (by rw [hr];exact h0) _ _ _ _ _ hv ⟨Keep.refl _ _,fun b hb=>.inl ?_⟩
          rcases List.mem_append.1 hb with h|h
          · obtain ⟨a1,a2,a3⟩:=JR.1 h
            by_cases hb1:b<w1.heap.size
            · rw [if_pos hb1] at a3
              by_cases hbh:lab b∈r.hs
              · rw [if_pos hbh] at a3;exact absurd rfl a3
              · rw [if_neg hbh] at a3
                refine List.mem_append_left _ ((hL b).2 ⟨hb1,a2,a3,hbh,fun hrs=>?_⟩)
                rcases c1 h0 _ hrs with h|h
                · exact a3 h
                · exact hbh h
            · rw [if_neg hb1] at a3;exact absurd rfl a3
          · exact List.mem_append_right _ h
      · have hql':listed[q]? = some true:=by rcases hset q hql with h|h;exact absurd h hqi;exact h
        have hf:=hfact q oq d hqm hql' (fun x hx hxl=>hqk x hx (hmono x hxl)) hoq hd
        have e:HU F1 o.dst v d=F1 d:=by
          cases hod:o.dst with
          | none=>rfl
          | some d'=>
            have hn:d≠d':=fun e=>hdist q oq hqm hqi hoq (by rw [hd];simp) (by rw [hd,hod,e])
            show GI F1 d' v d=F1 d
            rw [HV _ _ _ hn]
        rw [e]
        by_cases h0:(SL G q).g=0
        · exact hstat q h0 _ _ _ _ _ hf
        · obtain ⟨b1,b2⟩:=c6 q hqm hqi h0 (by have:=hqk i him hself;rwa [hr] at this) (by
            cases hwt:DT ops q i with
            | false=>rfl
            | true=>have:=hcl q i hql' hwt;rw [hnl] at this;cases this)
          refine hstab q h0 _ _ _ _ _ hf ⟨hk.mono (fun b hb=>.inl ?_),fun b hb=>?_⟩
          · obtain ⟨x1,x2,x3,x4⟩:=hC b hb
            refine List.mem_append_left _ (JR.2 ⟨x3,x2,fun e=>x4 (List.mem_append_left _ ((hL b).2 ⟨x3,x2,?_,?_,?_⟩))⟩)
            · rw [e];exact b2 x1
            · rw [e];exact b1
            · rw [e];intro hrs
              rcases c1 (c2 x1) _ hrs with h|h
              · exact b2 x1 h
              · exact b1 h
          · rcases List.mem_append.1 hb with h|h
            · obtain ⟨a1,a2,a3⟩:=JR.1 h
              by_cases hb1:b<w1.heap.size
              · rw [if_pos hb1] at a3
                refine .inl (List.mem_append_left _ (JR.2 ⟨hb1,a2,fun e=>a3 ?_⟩))
                rw [if_neg (by rw [e];exact b1)];exact e
              · exact .inr (by omega)
            · exact .inl (List.mem_append_right _ h)
  refine ⟨fun hw=>?_,fun hw=>use undef w1 ⟨[],Keep.refl _ _,(fun _ h=>by cases h),hsp.2 hw⟩⟩
  have h2:=hsp.1 hw
  rw [hr] at h2
  unfold DY at h2 ⊢
  generalize (execOp (CU F1) ⟨none,o.op,o.type,"",#[],none⟩).run P w1=rr at h2 ⊢
  cases rr with
  | ok x w'=>
    cases x <;> simp only [HB] at h2 ⊢ <;> try exact h2.elim
    case value v=>exact use _ _ h2
    case skip=>exact use _ _ h2
    case enter f args=>
      exact Calls.mono h2 fun e w'' he=>by
        cases e with
        | returned v=>exact use _ _ he
        | panicked c=>exact he.elim
        | outgrown=>exact he.elim
  | halt x w'=>cases x <;> simp only [HB] at h2 ⊢ <;> exact h2.elim
def FinU (ops:List Oper) (m:Nat) (Ts:List XW) (G:List Gr) (F:Fr) (w:World) (B:List Nat) (ex:List Nat) (K:Fr→World→Prop):Prop:=
  ∀ F1 w1 (Bs:Nat→List Nat),Keep [] w w1→(∀ g,∀ b∈B,b∈Bs g)→(∀ g,∀ b∈Bs g,b∈B∨(w.heap.size≤b∧b<w1.heap.size))→(∀ g h b,Nat.beq g h=false→w.heap.size≤b→b<w1.heap.size→b∉Bs g→b∈Bs h)→
    (∀ i d,depAt' ops i d=true→i<m→ex.contains i=false→aliveB G m i=true→prU Ts i (Bs (SL G i).g) (F1 d) w1)→(∀ t,OG ops m t=true→F1 t=F t)→K F1 w1
theorem UInv.fin {ops:List Oper} {m:Nat} {Ts:List XW} {G:List Gr} {F:Fr} {w:World} {B ex:List Nat} {K:Fr→World→Prop} {listed:Array Bool} {F1:Fr} {w1:World} (hi:UInv ops m Ts G F w.drew B listed F1 w1) (hall:∀ i,i<m→ex.contains i=false→listed[i]? = some true) (hno:∀ j,m≤j→listed[j]?≠some true) (fin:FinU ops m Ts G F w B ex K):K F1 w1:=by
  obtain ⟨lab,hf⟩:=hi.fact
  refine fin F1 w1 (fun g=>avo lab w.heap.size w1.heap.size g++B) ((Keep.drew [] w).trans hi.keep) (fun g b hb=>List.mem_append_right _ hb) (fun g b hb=>?_) (fun g h b hgh h1 h2 hb=>?_) (fun i d hdp him hex hal=>?_) (fun t ht=>hi.free t (fun j o hj ho e=>?_))
  · rcases List.mem_append.1 hb with h|h
    · exact .inr ⟨(JR.1 h).2.1,(JR.1 h).1⟩
    · exact .inl h
  · refine List.mem_append_left _ (JR.2 ⟨h2,h1,fun e=>?_⟩)
    exact hb (List.mem_append_left _ (JR.2 ⟨h2,h1,fun e'=>by rw [← e',e,Nat.beq_refl] at hgh;cases hgh⟩))
  · unfold depAt' at hdp
    cases ho:ops[i]? with
    | none=>rw [ho] at hdp;cases hdp
    | some o=>
      rw [ho] at hdp
      simp only [Option.bind_some] at hdp
      cases hd':o.dst with
      | none=>rw [hd'] at hdp;cases hdp
      | some e=>
        rw [hd'] at hdp
        have:=Nat.eq_of_beq_eq_true hdp
        subst this
        refine hf i o e him (hall i him hex) (fun q hq _=>?_) ho hd'
        have:=List.all_eq_true.1 hal q (by simpa using hq)
        simpa using this
  · rcases Nat.lt_or_ge j m with h1|h1
    · unfold OG at ht
      have h3:=List.all_eq_true.1 ht o (List.mem_of_getElem? (by rw [List.getElem?_take,if_pos h1];exact ho))
      rw [e] at h3;simp at h3
    · exact absurd hj (hno j h1)
theorem UInv.start {ops:List Oper} {m:Nat} {Ts:List XW} {G:List Gr} {F:Fr} {w:World} {B:List Nat}:UInv ops m Ts G F w B (Array.replicate ops.length false) F w:=by
  refine ⟨Keep.refl _ _,fun i hi=>?_,fun _ _=>rfl,fun _=>0,fun i o d _ hi=>?_⟩ <;> simp_all [Array.getElem?_replicate]
theorem YE {id:Nat} {ops:List Oper} {F:Fr} {w:World} (m:Nat) (late:List Nat) (pre:List Oper) (om:Oper) (tl:List Oper) (Ts:List XW) (G:List Gr) (B:List Nat) (hm:P.follows .mixedOrders=true) (hok:ops.all (PI n ops)=true) (hd:RD ops m late=true) (hlen:(Nat.beq Ts.length m && Nat.beq G.length m && Nat.ble m ops.length)=true) (hgr:VA ops m G=true) (hnd:late.Nodup)
    (hpre:ops.take m=pre) (hom:ops[m]? = some om) (htl:DG ops (CS ops m)=tl) (hst:VE Ts G) (hs:QV P ops m Ts G F w.drew B 0 pre Ts)
    (fin:FinU ops m Ts G F w B [] (WL false P ops Q (om :: tl))) (finL:∀ c,c<late.length→FinU ops m Ts G F w B (late.drop c) (WL false P ops Q (om :: (DG ops (late.drop c)++tl)))):CW P (ro:=none) n (.region id ops.toArray true) Q F w:=by
  subst hpre;subst htl
  simp only [Bool.and_eq_true] at hlen
  have hTl:Ts.length=m:=Nat.eq_of_beq_eq_true hlen.1.1
  have hGl:G.length=Ts.length:=by rw [hTl];exact Nat.eq_of_beq_eq_true hlen.1.2
  have hle:m≤ops.length:=Nat.le_of_ble_eq_true hlen.2
  have hdr:({ w with drawn:=w.drawn+1 }:World)=w.drew:=rfl
  have hd':=hd
  unfold RD at hd'
  simp only [Bool.and_eq_true] at hd'
  obtain ⟨⟨⟨⟨⟨⟨⟨⟨⟨d1,d2⟩,d3⟩,d4⟩,d5⟩,d6⟩,d7⟩,d8⟩,d9⟩,d10⟩:=hd'
  have hdist:∀ (i j:Nat) (oi oj:Oper),i<m→j<m→i≠j→ops[i]? = some oi→ops[j]? = some oj→oi.dst≠none→oi.dst≠oj.dst:=by
    intro i j oi oj hi hj hij hoi hoj hne
    have:=List.all_eq_true.1 (List.all_eq_true.1 d1 i (by simpa using hi)) j (by simpa using hj)
    simp only [Bool.or_eq_true] at this
    rcases this with h5|h5
    · exact absurd (Nat.eq_of_beq_eq_true h5) hij
    · rw [hoi,hoj] at h5
      intro e
      cases hd:oi.dst with
      | none=>exact hne hd
      | some d=>
        rw [hd] at e
        simp only [Option.bind_some,hd,← e] at h5
        simp at h5
  refine wpIn_wide.2 (wp_region_any hm ?_)
  rw [hdr,List.size_toArray]
  refine draw_runM (UInv ops m Ts G F w.drew B) hd hnd hok hom (fun listed F1 w1 h=>h.down) (fun listed F1 w1 i o hsz h him ho hnl haft=>stepU hdist hTl hGl hle hgr hst hs hsz h him ho hnl haft)
    (fun listed F1 w1 hi hall hno=>hi.fin (fun i him _=>hall i him) hno fin) (fun c hc listed F1 w1 hi hall hno=>hi.fin (fun i him hex=>(hall i him).2 (by simpa using hex)) hno (finL c hc)) ops.length _ F w.drew (by simp) ?_ (fun j _=>?_) UInv.start
  · unfold OL;exact Nat.le_trans (List.countP_le_length) (by simp)
  · simp [Array.getElem?_replicate]
theorem QB {w w1:World} {B1:List Nat} {wr:Bool}:∀ b∈([]:List Nat),wr=true∧w.heap.size≤b∧b<w1.heap.size∧b∉B1:=fun _ h=>by cases h
theorem St.adoptL {w0 w w':World} {O0 B B1:List Nat} (s:St w0 O0 w B) (k:Keep [] w w') (hl:∀ b∈B1,b∈B∨(w.heap.size≤b∧b<w'.heap.size)):St w0 O0 w' B1:=
  ⟨(s.call k).keep,fun b hb=>by
    rcases hl b hb with h|h
    · exact ⟨(s.new b h).1,Nat.lt_of_lt_of_le (s.new b h).2 k.size⟩
    · exact ⟨Nat.le_trans s.keep.size h.1,h.2⟩,s.old⟩
theorem Mv.adoptL {w w':World} {B B1:List Nat} (k:Keep [] w w') (hl:∀ b∈B1,b∈B∨(w.heap.size≤b∧b<w'.heap.size)):Mv B w B1 w':=
  ⟨k.nil,fun b hb=>(hl b hb).imp id (·.1)⟩
theorem Mv.at_ {w:World} {B B1:List Nat} (h:∀ b∈B1,b∈B):Mv B w B1 w:=⟨Keep.refl _ _,fun b hb=>.inl (h b hb)⟩
def UA (u:World) (t:TypeId) (cs:List Value):XW:=fun B v w=>∃ b,v = .pointer (some ⟨b,0,none⟩)∧u.heap.size≤b∧b∉B∧IB w b t cs
theorem UA.st {u:World} {t:TypeId} {cs:List Value}:∀ B B' v w w',UA u t cs B v w→Mv B w B' w'→UA u t cs B' v w':=fun B B' v w w' ⟨b,e,lo,hn,hb⟩ m=>
  ⟨b,e,lo,fun h=>by rcases m.new b h with h1|h1;exact hn h1;have:=hb.lt;omega,hb.keep m.keep hn⟩
def TOw {α:Type} (u:World) (base:Nat) (O:List Nat) (E:Enc α) (e:TypeId) (l:List α):XW:=fun B v w=>(∀ b,v.ownBlock=some b→u.heap.size≤b∧b∉B)∧ED E e base ((v.ownBlock.toList++B)++O) w v l
theorem Mv.app {w w':World} {B B':List Nat} (m:Mv B w B' w') (L:List Nat):Mv (L++B) w (L++B') w':=
  ⟨m.keep.mono (fun x hx=>.inl (List.mem_append_right _ hx)),fun x hx=>by
    rcases List.mem_append.1 hx with h|h
    · exact .inl (List.mem_append_left _ h)
    · exact (m.new x h).imp (List.mem_append_right _) id⟩
theorem TOw.st {α:Type} {u:World} {base:Nat} {O:List Nat} {E:Enc α} {e:TypeId} {l:List α}:∀ B B' v w w',TOw u base O E e l B v w→Mv B w B' w'→TOw u base O E e l B' v w':=fun B B' v w w' ⟨hb,ho⟩ m=>
  ⟨fun b h=>⟨(hb b h).1,fun h2=>by
    rcases m.new b h2 with h1|h1
    · exact (hb b h).2 h1
    · have:=(ho.lt b h).2;omega⟩,ho.mv (m.app _) m.keep (fun c hc=>(hb c hc).2)⟩
theorem TOw.rd {α:Type} {u:World} {base:Nat} {O:List Nat} {E:Enc α} {e:TypeId} {l:List α} {B:List Nat} {v:Value} {w:World} (h:TOw u base O E e l B v w) (hO:∀ x∈O,x<u.heap.size):BB E w (B++O) v l:=by
  refine h.2.rd (fun x hx=>.inl ?_) (fun c hc hx=>?_)
  · rcases List.mem_append.1 hx with h1|h1
    · exact List.mem_append_left _ (List.mem_append_right _ h1)
    · exact List.mem_append_right _ h1
  · rcases List.mem_append.1 hx with h1|h1
    · exact (h.1 c hc).2 h1
    · have:=hO _ h1;have:=(h.1 c hc).1;omega
theorem TOw.one {α:Type} {u:World} {base b:Nat} {O B:List Nat} {E:Enc α} {e:TypeId} {l:List α} {v:Value} {w:World} (hb:v.ownBlock=some b) (lo:u.heap.size≤b) (hn:b∉B) (h:ED E e base ((b :: B)++O) w v l):TOw u base O E e l B v w:=
  ⟨fun c hc=>by rw [hb] at hc;cases hc;exact ⟨lo,hn⟩,by rw [hb];exact h⟩
theorem lt_of {w1:World} {B1:List Nat} {w0:World} {O0:List Nat} (s:St w0 O0 w1 B1):∀ x∈B1,x<w1.heap.size:=fun x hx=>(s.new x hx).2
theorem TOw.call {α:Type} {u w1 w2:World} {base:Nat} {O B1:List Nat} {E:Enc α} {e:TypeId} {l:List α} {v:Value} (hu:u.heap.size≤w1.heap.size) (hbase:base≤w1.heap.size) (hlt:∀ x∈B1,x<w1.heap.size) (hv:∀ b,v.ownBlock=some b→w1.heap.size≤b) (h:ED E e w1.heap.size (v.ownBlock.toList++(B1++O)) w2 v l):TOw u base O E e l B1 v w2:=
  ⟨fun b hb=>⟨Nat.le_trans hu (hv b hb),fun hx=>by have:=hlt _ hx;have:=hv b hb;omega⟩,by
    obtain ⟨css,h1,h2,h3⟩:=h
    refine ⟨css,h1,⟨h2.1,?_⟩,fun i cs x hi hx=>by rw [List.append_assoc];exact h3 i cs x hi hx⟩
    rcases h2.2 with h|⟨g,cap,cur,rfl,hbg,r⟩
    · exact .inl h
    · exact .inr ⟨g,cap,cur,rfl,Nat.le_trans hbase hbg,r⟩⟩
section
variable {ty:TypeId} {F:Fr} {w:World} {K:Value→World→Prop} {Z:List PanicEntry→World→Prop} {x y:Operand}
end
end
open Go.RowKit
section
variable {P:Program} {w:World}
variable {ty yt:TypeId} {F:Fr} {K:Value→World→Prop} {Z:List PanicEntry→World→Prop} {x y:Operand}
def mfind {κ:Type} [BEq κ] (l:List (κ × Value)) (k:κ):Option Value:=(l.findIdx? (fun x=>k == x.1)).bind fun j=>(l[j]?).map (·.2)
def MapV {κ α:Type} [BEq κ] (enc:κ→Value) (venc:α→Value) (w:World) (r:Nat) (M:κ→Option α):Prop:=
  ∃ es c,∃ l:List (κ × Value),Ob w r (.map es c)∧es.toList.map (fun e=>(e.key,e.val))=l.map (fun x=>(enc x.1,x.2))∧∀ k,mfind l k=(M k).map venc
section
variable {κ α:Type} [BEq κ] {enc:κ→Value} {venc:α→Value} {r:Nat} {M:κ→Option α}
theorem MapV.lt (h:MapV enc venc w r M):r<w.heap.size:=let ⟨_,_,_,h,_⟩:=h;h.lt
theorem MapV.keep {w':World} {O:List Nat} (h:MapV enc venc w r M) (k:Keep O w w') (hb:r∉O):MapV enc venc w' r M:=let ⟨es,c,l,h1,h2⟩:=h;⟨es,c,l,h1.keep k hb,h2⟩
variable {w0:World} {O0 B:List Nat} {z:Operand}
variable [LawfulBEq κ]
end
section
variable {κ:Type} [BEq κ] [LawfulBEq κ]
end
end
open Go.RowKit
section
variable {P:Program} {n:Nat} {Q:Exit→Fr→World→Prop}
def KN (op:Op) (F:Fr):Option Value:=
  match op with
  | .extract x i=>(match CU F x with | .tuple vs=>vs[i]? | _=>none)
  | .move x=>some (CU F x)
  | .assign x=>some (CU F x)
  | _=>none
def MS (op:Op) (d:Tmp):Bool:=
  match op with
  | .extract (.tmp s) _=>!Nat.beq s d
  | .move (.tmp s)=>!Nat.beq s d
  | .assign (.tmp s)=>!Nat.beq s d
  | .assign (.const _)=>true
  | _=>false
theorem NB {op:Op} {d:Tmp} {ty:TypeId} {F:Fr} {w:World} {K:Value→World→Prop} {Z:List PanicEntry→World→Prop} (hp:MS op d=true) (h:DY P op ty F w K Z):∃ v,KN op F=some v∧K v w:=by
  unfold MS at hp
  split at hp
  · rename_i s i
    unfold DY at h
    have e:CU F (.tmp s)=F s:=rfl
    simp only [execOp,e] at h
    unfold KN
    simp only [e]
    cases hF:F s with
    | tuple vs=>
      rw [hF] at h
      cases hv:vs[i]? with
      | some v=>refine ⟨v,hv,?_⟩;simpa [Instr.extract,hv,HB] using h
      | none=>exfalso;simp [Instr.extract,hv,HB] at h
    | _=>exfalso;rw [hF] at h;simp [Instr.extract,HB] at h
  · unfold DY at h;simp only [execOp] at h;exact ⟨_,rfl,by simpa [HB] using h⟩
  · unfold DY at h;simp only [execOp] at h;exact ⟨_,rfl,by simpa [HB] using h⟩
  · unfold DY at h;simp only [execOp] at h;exact ⟨_,rfl,by simpa [HB] using h⟩
  · cases hp
theorem JM {op:Op} {v:Value} {ty:TypeId} {F:Fr} {w:World} {K:Value→World→Prop} {Z:List PanicEntry→World→Prop} (hv:KN op F=some v) (h:K v w):DY P op ty F w K Z:=by
  unfold KN at hv
  split at hv
  · split at hv
    · rename_i vs e;exact AN (vs:=vs) v e hv h
    · cases hv
  · exact AE v (Option.some.inj hv) h
  · exact AD v (Option.some.inj hv) h
  · cases hv
def exOk (ops:List Oper) (a b:Nat):Bool:=
  match ops[a]?,ops[b]? with
  | some oa,some ob=>oa.guard.isNone && ob.guard.isNone && (match oa.dst,ob.dst with
    | some da,some db=>!Nat.beq da db && MS oa.op db && MS ob.op da
    | _,_=>false)
  | _,_=>false
theorem nbeq {a b:Nat} (h:(!Nat.beq a b)=true):a≠b:=fun e=>by subst e;simp at h
theorem beq_ne {a b:Nat} (h:a≠b):Nat.beq a b=false:=by
  cases e:Nat.beq a b with
  | false=>rfl
  | true=>exact absurd (Nat.eq_of_beq_eq_true e) h
theorem YM {F:Fr} {d t:Nat} {v:Value} (h:t≠d):GI F d v t=F t:=by
  unfold GI;rw [beq_ne h];rfl
theorem upd_swap {F:Fr} {a b:Nat} {v u:Value} (h:a≠b):GI (GI F a v) b u=GI (GI F b u) a v:=by
  funext t
  unfold GI
  cases e1:Nat.beq t a with
  | false=>cases e2:Nat.beq t b <;> rfl
  | true=>
    have h1:=Nat.eq_of_beq_eq_true e1
    subst h1
    rw [beq_ne h];rfl
theorem JJ {op:Op} {d:Tmp} {F:Fr} {u:Value} (hp:MS op d=true):KN op (GI F d u)=KN op F:=by
  unfold MS at hp
  unfold KN
  have e:∀ s:Tmp,(!Nat.beq s d)=true→CU (GI F d u) (.tmp s)=CU F (.tmp s):=fun s hs=>YM (nbeq hs)
  split at hp
  · simp only [e _ hp]
  · simp only [e _ hp]
  · simp only [e _ hp]
  · rfl
  · cases hp
theorem wl_swap {ops:List Oper} {a b:Nat} {oa ob:Oper} {rest:List Oper} {F:Fr} {w:World} (hx:exOk ops a b=true) (ha:ops[a]? = some oa) (hb:ops[b]? = some ob) (h:WL false P ops Q (oa :: ob :: rest) F w):WL false P ops Q (ob :: oa :: rest) F w:=by
  unfold exOk at hx
  rw [ha,hb] at hx
  obtain ⟨d1,p1,t1,q1,f1,g1⟩:=oa
  obtain ⟨d2,p2,t2,q2,f2,g2⟩:=ob
  simp only [Bool.and_eq_true] at hx
  obtain ⟨⟨h1,h2⟩,h3⟩:=hx
  cases g1 with
  | some _=>simp at h1
  | none=>
  cases g2 with
  | some _=>simp at h2
  | none=>
  cases d1 with
  | none=>simp at h3
  | some da=>
  cases d2 with
  | none=>simp at h3
  | some db=>
    simp only [Bool.and_eq_true] at h3
    obtain ⟨⟨h3,h4⟩,h5⟩:=h3
    have n1:=nbeq h3
    unfold WL at h
    rw [if_pos (by rfl)] at h
    obtain ⟨v,hv,h⟩:=NB h4 (h.resolve_right (fun e=>by cases e.1))
    unfold WL at h
    rw [if_pos (by rfl)] at h
    obtain ⟨x,hxv,h⟩:=NB h5 (h.resolve_right (fun e=>by cases e.1))
    have hxv':KN p2 F=some x:=(JJ (F:=F) (u:=v) h5).symm.trans hxv
    unfold WL
    rw [if_pos (by rfl)]
    refine .inl (JM hxv' ?_)
    unfold WL
    rw [if_pos (by rfl)]
    refine .inl (JM (v:=v) ((JJ (F:=F) (u:=x) h4).trans hv) ?_)
    have e:HU (HU F (some db) x) (some da) v=HU (HU F (some da) v) (some db) x:=(upd_swap (F:=F) (v:=v) (u:=x) n1).symm
    rw [e];exact h
def NV (ops:List Oper):Nat→List Nat→Bool
  | _,[]=>true
  | 0,_=>false
  | _+1,[a]=>(KD ops a).all fun j=>!Nat.beq j a
  | f+1,a :: b :: t=>(KD ops a).all (fun j=>!(a :: b :: t).contains j) && t.all (fun x=>DT ops x a) && NV ops f (b :: t) &&
      (DT ops b a || (exOk ops a b && (KD ops b).all (fun j=>!(a :: b :: t).contains j) && NV ops f (a :: t)))
theorem RX {ops:List Oper} (hok:ops.all (PI n ops)=true) {i fuel:Nat} {listed:Array Bool} {F1:Fr} {w1:World} {rest:List Oper} (hil:i<ops.length) (h:WL false P ops Q (ops[i] :: rest) F1 w1)
    (ih:∀ F w,WL false P ops Q rest F w→wpAny P .any ops.toArray (KS n Q) fuel (listed.setIfInBounds i true) (mk n F) w):wpOp P ops.toArray (KS n Q) i (wpAny P .any ops.toArray (KS n Q) fuel (listed.setIfInBounds i true)) (mk n F1) w1:=by
  have ho:ops[i]? = some ops[i]:=List.getElem?_eq_getElem hil
  refine MA (K:=fun F w=>WL false P ops Q rest F w) hok ho ih (fun hw=>?_) (fun hw=>?_)
  · unfold WL at h;rw [if_pos hw] at h;exact h.resolve_right (fun e=>by cases e.1)
  · unfold WL at h;rw [if_neg (by rw [hw];simp)] at h;exact h
theorem HE {ops:List Oper} {i:Nat} {t:List Nat} (hil:i<ops.length):DG ops (i :: t)=ops[i] :: DG ops t:=by
  unfold DG;rw [List.filterMap_cons,List.getElem?_eq_getElem hil]
theorem forced_runC {ops:List Oper} (hok:ops.all (PI n ops)=true) (hin:∀ k,k<ops.length→∀ j∈KD ops k,j<ops.length):∀ (g:Nat) (seq:List Nat) (fuel:Nat) (listed:Array Bool) (F1:Fr) (w1:World),listed.size=ops.length→OL ops listed≤fuel→
    (∀ j,j<ops.length→(listed[j]? = some true↔j∉seq))→(∀ j∈seq,j<ops.length)→seq.Nodup→NV ops g seq=true→(∀ i,listed[i]? = some true→∀ j∈KD ops i,listed[j]? = some true)→
    WL false P ops Q (DG ops seq) F1 w1→wpAny P .any ops.toArray (KS n Q) fuel listed (mk n F1) w1:=by
  intro g
  induction g with
  | zero=>
    intro seq fuel listed F1 w1 hsz hfu hl hlt hnd hf hdown h
    cases seq with
    | nil=>exact GF hok hin [] fuel listed F1 w1 hsz hfu hl hlt hnd rfl hdown h
    | cons a t=>cases t <;> simp [NV] at hf
  | succ g ihg=>
    intro seq fuel listed F1 w1 hsz hfu hl hlt hnd hf hdown h
    match seq,hl,hlt,hnd,hf,h with
    | [],hl,hlt,hnd,hf,h=>exact GF hok hin [] fuel listed F1 w1 hsz hfu hl hlt hnd rfl hdown h
    | [a],hl,hlt,hnd,hf,h=>
      refine GF hok hin [a] fuel listed F1 w1 hsz hfu hl hlt hnd ?_ hdown h
      unfold NV at hf
      unfold LE LE
      simp only [List.all_nil,Bool.true_and,Bool.and_true]
      refine List.all_eq_true.2 fun j hj=>?_
      have:=nbeq (List.all_eq_true.1 hf j hj)
      simpa using this
    | a :: b :: t,hl,hlt,hnd,hf,h=>
      unfold NV at hf
      simp only [Bool.and_eq_true] at hf
      obtain ⟨⟨⟨f1,f2⟩,f3⟩,f4⟩:=hf
      have ha:a<ops.length:=hlt a (by simp)
      have hb:b<ops.length:=hlt b (by simp)
      obtain ⟨hat,hnd'⟩:=List.nodup_cons.1 hnd
      obtain ⟨hbt,hnd''⟩:=List.nodup_cons.1 hnd'
      have hunl:∀ q,q<ops.length→q∈a :: b :: t→listed[q]? = some false:=fun q hq hm=>by
        have h1:¬ listed[q]? = some true:=fun e=>((hl q hq).1 e) hm
        have:q<listed.size:=by omega
        rw [Array.getElem?_eq_getElem this] at h1 ⊢
        simpa using h1
      have han:=hunl a ha (by simp)
      have hbn:=hunl b hb (by simp)
      have hula:=HZ ha hsz han
      have hulb:=HZ hb hsz hbn
      obtain ⟨fuel,rfl⟩:∃ f,fuel=f+1:=⟨fuel - 1,by omega⟩
      have haq:∀ j∈KD ops a,listed[j]? = some true:=fun j hj=>by
        have h1:=List.all_eq_true.1 f1 j hj
        exact (hl j (hin a ha j hj)).2 (by simpa using h1)
      have hset:∀ i,i<ops.length→∀ j,(listed.setIfInBounds i true)[j]? = some true↔j=i∨listed[j]? = some true:=fun i hi j=>by
        rw [Array.getElem?_setIfInBounds]
        by_cases hji:i=j
        · subst hji;simp;omega
        · rw [if_neg hji];exact ⟨fun h=>.inr h,fun h=>h.resolve_left (fun e=>hji e.symm)⟩
      refine ⟨fun h0=>?_,fun i hi=>?_⟩
      · have:=ready_of' hsz ha han haq
        rw [h0] at this;cases this
      · obtain ⟨hnl,hil⟩:=KG hi hsz
        have hmem:i∈a :: b :: t:=Classical.byContradiction fun hc=>by have:=(hl i hil).2 hc;rw [hnl] at this;cases this
        have hready:=HR (List.getElem?_eq_getElem hil) hi hsz (hin i hil)
        have hwait:∀ q,DT ops i q=true→listed[q]? = some true:=fun q hq=>by
          unfold DT at hq
          exact HC (D:=fun j=>listed[j]? = some true) hdown _ _ hready q (by simpa using hq)
        rcases List.mem_cons.1 hmem with rfl|hmem
        · rw [HE ha] at h
          refine RX hok ha h fun F w hK=>ihg (b :: t) fuel _ F w (by simpa using hsz) (by omega) (fun j hj=>?_) (fun j hj=>hlt j (List.mem_cons_of_mem _ hj)) hnd' f3 (fun j hj x hx=>?_) hK
          · rw [hset i ha j,hl j hj]
            constructor
            · rintro (rfl|h1)
              · exact hat
              · exact fun h2=>h1 (List.mem_cons_of_mem _ h2)
            · intro h1
              by_cases hji:j=i
              · exact .inl hji
              · exact .inr fun h2=>by rcases List.mem_cons.1 h2 with h3|h3;exact hji h3;exact h1 h3
          · rw [hset i ha x]
            rcases (hset i ha j).1 hj with h1|h1
            · subst h1;exact .inr (haq x hx)
            · exact .inr (hdown j h1 x hx)
        · rcases List.mem_cons.1 hmem with rfl|hmem
          · -- the second comes first
            simp only [Bool.or_eq_true,Bool.and_eq_true] at f4
            rcases f4 with f4|⟨⟨f4,f5⟩,f6⟩
            · have:=hwait a f4;rw [han] at this;cases this
            · rw [HE ha,HE hb] at h
              have h':=wl_swap f4 (List.getElem?_eq_getElem ha) (List.getElem?_eq_getElem hb) h
              rw [← HE (t:=t) ha] at h'
              refine RX hok hb h' fun F w hK=>ihg (a :: t) fuel _ F w (by simpa using hsz) (by omega) (fun j hj=>?_) (fun j hj=>hlt j (by rcases List.mem_cons.1 hj with h1|h1;exact h1 ▸ List.mem_cons_self;exact List.mem_cons_of_mem _ (List.mem_cons_of_mem _ h1))) (List.nodup_cons.2 ⟨fun h2=>hat (List.mem_cons_of_mem _ h2),hnd''⟩) f6 (fun j hj x hx=>?_) hK
              · rw [hset i hb j,hl j hj]
                constructor
                · rintro (rfl|h1)
                  · intro h2
                    rcases List.mem_cons.1 h2 with h3|h3
                    · exact hat (h3 ▸ List.mem_cons_self)
                    · exact hbt h3
                  · intro h2
                    apply h1
                    rcases List.mem_cons.1 h2 with h3|h3
                    · rw [h3];exact List.mem_cons_self
                    · exact List.mem_cons_of_mem _ (List.mem_cons_of_mem _ h3)
                · intro h1
                  by_cases hji:j=i
                  · exact .inl hji
                  · refine .inr fun h2=>?_
                    rcases List.mem_cons.1 h2 with h3|h3
                    · exact h1 (h3 ▸ List.mem_cons_self)
                    · rcases List.mem_cons.1 h3 with h4|h4
                      · exact hji h4
                      · exact h1 (List.mem_cons_of_mem _ h4)
              · rw [hset i hb x]
                rcases (hset i hb j).1 hj with h1|h1
                · subst h1
                  have h5:=List.all_eq_true.1 f5 x hx
                  exact .inr ((hl x (hin j hb x hx)).2 (by simpa using h5))
                · exact .inr (hdown j h1 x hx)
          · have:=hwait a (List.all_eq_true.1 f2 i hmem)
            rw [han] at this;cases this
def drawOkC (ops:List Oper) (m:Nat):Bool:=
  (List.range m).all (fun i=>(List.range m).all fun j=>Nat.beq i j || (match (ops[i]?).bind (·.dst),(ops[j]?).bind (·.dst) with|some a,some b=>!Nat.beq a b | _,_=>true)) &&
  ((List.range ops.length).drop m).all (fun k=>(List.range m).all fun j=>DT ops k j) &&
  (List.range ops.length).all (fun k=>(KD ops k).all fun j=>Nat.blt j k) && Nat.ble m ops.length && NV ops ops.length ((List.range ops.length).drop m)
end
open Go.RowKit
section
variable {P:Program} {n:Nat} {Q:Exit→Fr→World→Prop}
theorem RR {ρ σ:Operand→Value} (o:Oper) (h2:(match o.op with | .select ..=>false | _=>true)=true) (key:∀ x∈o.op.operands.toList,ρ x=σ x):execOp ρ o=execOp σ o:=by
  have keyA:∀ (xs:Array Operand),(∀ x∈xs.toList,x∈o.op.operands.toList)→xs.map ρ=xs.map σ:=fun xs hx=>
    Array.map_congr_left fun x hm=>key x (hx x (by simpa using hm))
  have keyO:∀ (x:Option Operand),(∀ y,x=some y→y∈o.op.operands.toList)→x.map ρ=x.map σ:=fun x hx=>by
    cases x with
    | none=>rfl
    | some y=>simp [key y (hx y rfl)]
  obtain ⟨d,op,ty,pos,after,g⟩:=o
  simp only at key keyA keyO
  have call:∀ (c:Call),c.operands=op.operands→(∀ t,resolve ρ c t=resolve σ c t):=fun c hc t=>by
    obtain ⟨callee,args,ats⟩:=c
    have ha:args.map ρ=args.map σ:=keyA args (fun x hx=>by rw [← hc];simp [Call.operands];exact .inr (by simpa using hx))
    unfold resolve
    simp only [ha]
    cases callee with
    | value f=>simp only [key f (by rw [← hc];simp [Call.operands])]
    | invoke r m=>simp only [key r (by rw [← hc];simp [Call.operands])]
    | builtin b=>rfl
  cases op with
  | select cs b=>simp at h2
  | build t ps=>
    simp only [execOp]
    have:ps.map (fun p=>(p.1,ρ p.2))=ps.map (fun p=>(p.1,σ p.2)):=Array.map_congr_left fun p hp=>by rw [key p.2 (by have hp:p∈ps.toList:=(by simpa using hp);simp only [Op.operands,List.mem_map];exact ⟨p,hp,rfl⟩)]
    rw [this]
  | buildSlice t len ps=>
    simp only [execOp]
    have:ps.map (fun p=>(p.1,ρ p.2))=ps.map (fun p=>(p.1,σ p.2)):=Array.map_congr_left fun p hp=>by rw [key p.2 (by have hp:p∈ps.toList:=(by simpa using hp);simp only [Op.operands,List.mem_map];exact ⟨p,hp,rfl⟩)]
    rw [this]
  | call c=>simp only [execOp,call c rfl]
  | go c=>simp only [execOp,call c rfl]
  | defer c=>simp only [execOp,call c rfl]
  | makeFunc fn first captured=>
    simp only [execOp]
    rw [keyA first (fun x hx=>by simp [Op.operands];exact .inl (by simpa using hx)),keyA captured (fun x hx=>by simp [Op.operands];exact .inr (by simpa using hx))]
  | makeMap t r=>
    simp only [execOp]
    rw [keyO r (fun y hy=>by subst hy;simp [Op.operands])]
  | slice t x lo hi mx=>
    simp only [execOp]
    rw [key x (by simp [Op.operands]),keyO lo (fun y hy=>by subst hy;simp [Op.operands]),keyO hi (fun y hy=>by subst hy;simp [Op.operands]),keyO mx (fun y hy=>by subst hy;simp [Op.operands])]
  | alloc t=>rfl
  | ready g=>rfl
  | waits g=>rfl
  | move x|assign x|box _ x|load _ x|nilCheck x|unOp _ _ x|convert _ _ x|sliceToArrayPointer _ x|makeInterface _ x|makeChan _ x|fieldAddr _ x _|field _ x _|range _ x|next x _|entry x|typeAssert x _ _ _|extract x _|panic x|recv _ x _=>
    simp only [execOp,key x (by simp [Op.operands])]
  | pick c a b=>simp only [execOp,key c (by simp [Op.operands]),key a (by simp [Op.operands]),key b (by simp [Op.operands])]
  | store _ a v|binOp _ _ a v _|makeSlice _ a v|indexAddr _ a v|index _ a v|lookup _ a v _|mapEntry _ a v|send a v=>
    simp only [execOp,key a (by simp [Op.operands]),key v (by simp [Op.operands])]
  | mapUpdate _ m k v|entryStore _ m k v|insert _ m k v=>
    simp only [execOp,key m (by simp [Op.operands]),key k (by simp [Op.operands]),key v (by simp [Op.operands])]
def offB (op:Op) (d:Tmp):Bool:=op.operands.toList.all (fun x=>match x with | .tmp t=>!Nat.beq t d | _=>true) && (match op with | .select ..=>false | .defer ..=>false | _=>true)
theorem evF_off {F:Fr} {d:Tmp} {v:Value} {x:Operand} (h:(match x with | .tmp t=>!Nat.beq t d | _=>true)=true):CU (GI F d v) x=CU F x:=by
  cases x with
  | tmp t=>exact YM (nbeq h)
  | _=>rfl
theorem opw_off {op:Op} {d:Tmp} {v:Value} {ty:TypeId} {F:Fr} {w:World} {K:Value→World→Prop} {Z:List PanicEntry→World→Prop} (h:offB op d=true):DY P op ty (GI F d v) w K Z↔DY P op ty F w K Z:=by
  unfold offB at h
  simp only [Bool.and_eq_true] at h
  unfold DY
  rw [RR (ρ:=CU (GI F d v)) (σ:=CU F) ⟨none,op,ty,"",#[],none⟩ (by have:=h.2;cases op <;> first|rfl|(simp at this)) (fun x hx=>evF_off (List.all_eq_true.1 h.1 x hx))]
theorem opw_mono {op:Op} {ty:TypeId} {F:Fr} {w:World} {K K':Value→World→Prop} {Z Z':List PanicEntry→World→Prop} (h:DY P op ty F w K Z) (hk:∀ v w',K v w'→K' v w') (hz:∀ c w',Z c w'→Z' c w'):DY P op ty F w K' Z':=by
  unfold DY at h ⊢
  generalize (execOp (CU F) ⟨none,op,ty,"",#[],none⟩).run P w=r at h ⊢
  cases r with
  | ok x w'=>
    cases x <;> simp only [HB] at h ⊢ <;> try exact h.elim
    case value v=>exact hk _ _ h
    case skip=>exact hk _ _ h
    case enter f args=>
      exact Calls.mono h fun e w'' he=>by
        cases e with
        | returned v=>exact hk _ _ he
        | panicked c=>exact hz _ _ he
        | outgrown=>exact he.elim
  | halt x w'=>
    cases x <;> simp only [HB] at h ⊢ <;> try exact h.elim
    case panic v=>exact hz _ _ h
def TK (op:Op) (d:Tmp):Bool:=
  match op with
  | .move (.tmp s)=>!Nat.beq s d
  | .assign (.tmp s)=>!Nat.beq s d
  | _=>false
theorem MQ {op:Op} {d:Tmp} (h:TK op d=true):MS op d=true:=by
  unfold TK at h;unfold MS
  split at h <;> first|exact h|cases h
theorem moveOp_val {op:Op} {d:Tmp} (h:TK op d=true) (F:Fr):∃ v,KN op F=some v:=by
  unfold TK at h;unfold KN
  split at h <;> first|exact ⟨_,rfl⟩|cases h
def exOk2 (ops:List Oper) (a b:Nat):Bool:=
  match ops[a]?,ops[b]? with
  | some oa,some ob=>oa.guard.isNone && ob.guard.isNone && (match oa.dst,ob.dst with
    | some da,some db=>!Nat.beq da db && ((TK oa.op db && offB ob.op da) || (TK ob.op da && offB oa.op db) || (MS oa.op db && MS ob.op da))
    | _,_=>false)
  | _,_=>false
theorem wl_swap2 {ops:List Oper} {a b:Nat} {oa ob:Oper} {rest:List Oper} {F:Fr} {w:World} (hx:exOk2 ops a b=true) (ha:ops[a]? = some oa) (hb:ops[b]? = some ob) (hok:ops.all (PI n ops)=true) (hq:∀ c F d v w,d<n→(Q (.panic c) (GI F d v) w↔Q (.panic c) F w)) (h:WL false P ops Q (oa :: ob :: rest) F w):WL false P ops Q (ob :: oa :: rest) F w:=by
  have hda:=KM (List.all_eq_true.1 hok _ (List.mem_of_getElem? ha))
  have hdb:=KM (List.all_eq_true.1 hok _ (List.mem_of_getElem? hb))
  unfold exOk2 at hx
  rw [ha,hb] at hx
  obtain ⟨d1,p1,t1,q1,f1,g1⟩:=oa
  obtain ⟨d2,p2,t2,q2,f2,g2⟩:=ob
  simp only [Bool.and_eq_true] at hx
  obtain ⟨⟨h1,h2⟩,h3⟩:=hx
  cases g1 with
  | some _=>simp at h1
  | none=>
  cases g2 with
  | some _=>simp at h2
  | none=>
  cases d1 with
  | none=>simp at h3
  | some da=>
  cases d2 with
  | none=>simp at h3
  | some db=>
    simp only [Bool.and_eq_true,Bool.or_eq_true] at h3
    obtain ⟨h3,h4⟩:=h3
    have n1:=nbeq h3
    have e:∀ (F:Fr) (v x:Value),HU (HU F (some db) x) (some da) v=HU (HU F (some da) v) (some db) x:=fun F v x=>(upd_swap (F:=F) (v:=v) (u:=x) n1).symm
    rcases h4 with (⟨h4,h5⟩|⟨h4,h5⟩)|⟨h4,h5⟩
    · unfold WL at h
      rw [if_pos (by rfl)] at h
      obtain ⟨v,hv,h⟩:=NB (MQ h4) (h.resolve_right (fun e=>by cases e.1))
      unfold WL at h
      rw [if_pos (by rfl)] at h
      have h:=(opw_off h5).1 (h.resolve_right (fun e=>by cases e.1))
      unfold WL
      rw [if_pos (by rfl)]
      refine .inl (opw_mono h (fun x w' hk=>?_) (fun c w' hz=>(hq _ _ _ _ _ (blt hda)).1 hz))
      unfold WL
      rw [if_pos (by rfl)]
      exact .inl (JM (v:=v) ((JJ (F:=F) (u:=x) (MQ h4)).trans hv) (by rw [e];exact hk))
    · unfold WL at h
      rw [if_pos (by rfl)] at h
      have h:=h.resolve_right (fun e=>by cases e.1)
      obtain ⟨x,hxv⟩:=moveOp_val h4 F
      unfold WL
      rw [if_pos (by rfl)]
      refine .inl (JM hxv ?_)
      unfold WL
      rw [if_pos (by rfl)]
      refine .inl ((opw_off h5).2 (opw_mono h (fun v w' hk=>?_) (fun c w' hz=>(hq _ _ _ _ _ (blt hdb)).2 hz)))
      unfold WL at hk
      rw [if_pos (by rfl)] at hk
      obtain ⟨x',hx',hk⟩:=NB (MQ h4) (hk.resolve_right (fun e=>by cases e.1))
      have:x'=x:=by
        have:=(JJ (F:=F) (u:=v) (MQ h4)).symm.trans hx'
        rw [hxv] at this;exact (Option.some.inj this).symm
      subst this
      have:=e F v x'
      show WL false P ops Q rest (HU (HU F (some db) x') (some da) v) w'
      rw [this];exact hk
    · unfold WL at h
      rw [if_pos (by rfl)] at h
      obtain ⟨v,hv,h⟩:=NB h4 (h.resolve_right (fun e=>by cases e.1))
      unfold WL at h
      rw [if_pos (by rfl)] at h
      obtain ⟨x,hx2,h⟩:=NB h5 (h.resolve_right (fun e=>by cases e.1))
      unfold WL
      rw [if_pos (by rfl)]
      refine .inl (JM (v:=x) ((JJ (F:=F) (u:=v) h5).symm.trans hx2) ?_)
      unfold WL
      rw [if_pos (by rfl)]
      exact .inl (JM (v:=v) ((JJ (F:=F) (u:=x) h4).trans hv) (by rw [e];exact h))
def KY (ops:List Oper):Nat→List Nat→Bool
  | _,[]=>true
  | 0,_=>false
  | _+1,[a]=>(KD ops a).all fun j=>!Nat.beq j a
  | f+1,a :: b :: t=>(KD ops a).all (fun j=>!(a :: b :: t).contains j) && t.all (fun x=>DT ops x a) && KY ops f (b :: t) &&
      (DT ops b a || (exOk2 ops a b && (KD ops b).all (fun j=>!(a :: b :: t).contains j) && KY ops f (a :: t)))
theorem RP {ops:List Oper} (hok:ops.all (PI n ops)=true) (hqp:∀ c F d v w,d<n→(Q (.panic c) (GI F d v) w↔Q (.panic c) F w)) (hin:∀ k,k<ops.length→∀ j∈KD ops k,j<ops.length):∀ (g:Nat) (seq:List Nat) (fuel:Nat) (listed:Array Bool) (F1:Fr) (w1:World),listed.size=ops.length→OL ops listed≤fuel→
    (∀ j,j<ops.length→(listed[j]? = some true↔j∉seq))→(∀ j∈seq,j<ops.length)→seq.Nodup→KY ops g seq=true→(∀ i,listed[i]? = some true→∀ j∈KD ops i,listed[j]? = some true)→
    WL false P ops Q (DG ops seq) F1 w1→wpAny P .any ops.toArray (KS n Q) fuel listed (mk n F1) w1:=by
  intro g
  induction g with
  | zero=>
    intro seq fuel listed F1 w1 hsz hfu hl hlt hnd hf hdown h
    cases seq with
    | nil=>exact GF hok hin [] fuel listed F1 w1 hsz hfu hl hlt hnd rfl hdown h
    | cons a t=>cases t <;> simp [KY] at hf
  | succ g ihg=>
    intro seq fuel listed F1 w1 hsz hfu hl hlt hnd hf hdown h
    match seq,hl,hlt,hnd,hf,h with
    | [],hl,hlt,hnd,hf,h=>exact GF hok hin [] fuel listed F1 w1 hsz hfu hl hlt hnd rfl hdown h
    | [a],hl,hlt,hnd,hf,h=>
      refine GF hok hin [a] fuel listed F1 w1 hsz hfu hl hlt hnd ?_ hdown h
      unfold KY at hf
      unfold LE LE
      simp only [List.all_nil,Bool.true_and,Bool.and_true]
      refine List.all_eq_true.2 fun j hj=>?_
      have:=nbeq (List.all_eq_true.1 hf j hj)
      simpa using this
    | a :: b :: t,hl,hlt,hnd,hf,h=>
      unfold KY at hf
      simp only [Bool.and_eq_true] at hf
      obtain ⟨⟨⟨f1,f2⟩,f3⟩,f4⟩:=hf
      have ha:a<ops.length:=hlt a (by simp)
      have hb:b<ops.length:=hlt b (by simp)
      obtain ⟨hat,hnd'⟩:=List.nodup_cons.1 hnd
      obtain ⟨hbt,hnd''⟩:=List.nodup_cons.1 hnd'
      have hunl:∀ q,q<ops.length→q∈a :: b :: t→listed[q]? = some false:=fun q hq hm=>by
        have h1:¬ listed[q]? = some true:=fun e=>((hl q hq).1 e) hm
        have:q<listed.size:=by omega
        rw [Array.getElem?_eq_getElem this] at h1 ⊢
        simpa using h1
      have han:=hunl a ha (by simp)
      have hbn:=hunl b hb (by simp)
      have hula:=HZ ha hsz han
      have hulb:=HZ hb hsz hbn
      obtain ⟨fuel,rfl⟩:∃ f,fuel=f+1:=⟨fuel - 1,by omega⟩
      have haq:∀ j∈KD ops a,listed[j]? = some true:=fun j hj=>by
        have h1:=List.all_eq_true.1 f1 j hj
        exact (hl j (hin a ha j hj)).2 (by simpa using h1)
      have hset:∀ i,i<ops.length→∀ j,(listed.setIfInBounds i true)[j]? = some true↔j=i∨listed[j]? = some true:=fun i hi j=>by
        rw [Array.getElem?_setIfInBounds]
        by_cases hji:i=j
        · subst hji;simp;omega
        · rw [if_neg hji];exact ⟨fun h=>.inr h,fun h=>h.resolve_left (fun e=>hji e.symm)⟩
      refine ⟨fun h0=>?_,fun i hi=>?_⟩
      · have:=ready_of' hsz ha han haq
        rw [h0] at this;cases this
      · obtain ⟨hnl,hil⟩:=KG hi hsz
        have hmem:i∈a :: b :: t:=Classical.byContradiction fun hc=>by have:=(hl i hil).2 hc;rw [hnl] at this;cases this
        have hready:=HR (List.getElem?_eq_getElem hil) hi hsz (hin i hil)
        have hwait:∀ q,DT ops i q=true→listed[q]? = some true:=fun q hq=>by
          unfold DT at hq
          exact HC (D:=fun j=>listed[j]? = some true) hdown _ _ hready q (by simpa using hq)
        rcases List.mem_cons.1 hmem with rfl|hmem
        · rw [HE ha] at h
          refine RX hok ha h fun F w hK=>ihg (b :: t) fuel _ F w (by simpa using hsz) (by omega) (fun j hj=>?_) (fun j hj=>hlt j (List.mem_cons_of_mem _ hj)) hnd' f3 (fun j hj x hx=>?_) hK
          · rw [hset i ha j,hl j hj]
            constructor
            · rintro (rfl|h1)
              · exact hat
              · exact fun h2=>h1 (List.mem_cons_of_mem _ h2)
            · intro h1
              by_cases hji:j=i
              · exact .inl hji
              · exact .inr fun h2=>by rcases List.mem_cons.1 h2 with h3|h3;exact hji h3;exact h1 h3
          · rw [hset i ha x]
            rcases (hset i ha j).1 hj with h1|h1
            · subst h1;exact .inr (haq x hx)
            · exact .inr (hdown j h1 x hx)
        · rcases List.mem_cons.1 hmem with rfl|hmem
          · -- the second comes first
            simp only [Bool.or_eq_true,Bool.and_eq_true] at f4
            rcases f4 with f4|⟨⟨f4,f5⟩,f6⟩
            · have:=hwait a f4;rw [han] at this;cases this
            · rw [HE ha,HE hb] at h
              have h':=wl_swap2 f4 (List.getElem?_eq_getElem ha) (List.getElem?_eq_getElem hb) hok hqp h
              rw [← HE (t:=t) ha] at h'
              refine RX hok hb h' fun F w hK=>ihg (a :: t) fuel _ F w (by simpa using hsz) (by omega) (fun j hj=>?_) (fun j hj=>hlt j (by rcases List.mem_cons.1 hj with h1|h1;exact h1 ▸ List.mem_cons_self;exact List.mem_cons_of_mem _ (List.mem_cons_of_mem _ h1))) (List.nodup_cons.2 ⟨fun h2=>hat (List.mem_cons_of_mem _ h2),hnd''⟩) f6 (fun j hj x hx=>?_) hK
              · rw [hset i hb j,hl j hj]
                constructor
                · rintro (rfl|h1)
                  · intro h2
                    rcases List.mem_cons.1 h2 with h3|h3
                    · exact hat (h3 ▸ List.mem_cons_self)
                    · exact hbt h3
                  · intro h2
                    apply h1
                    rcases List.mem_cons.1 h2 with h3|h3
                    · rw [h3];exact List.mem_cons_self
                    · exact List.mem_cons_of_mem _ (List.mem_cons_of_mem _ h3)
                · intro h1
                  by_cases hji:j=i
                  · exact .inl hji
                  · refine .inr fun h2=>?_
                    rcases List.mem_cons.1 h2 with h3|h3
                    · exact h1 (h3 ▸ List.mem_cons_self)
                    · rcases List.mem_cons.1 h3 with h4|h4
                      · exact hji h4
                      · exact h1 (List.mem_cons_of_mem _ h4)
              · rw [hset i hb x]
                rcases (hset i hb j).1 hj with h1|h1
                · subst h1
                  have h5:=List.all_eq_true.1 f5 x hx
                  exact .inr ((hl x (hin j hb x hx)).2 (by simpa using h5))
                · exact .inr (hdown j h1 x hx)
          · have:=hwait a (List.all_eq_true.1 f2 i hmem)
            rw [han] at this;cases this
theorem qp_end {fn:Func} {R:Ending→World→Prop}:∀ (c:List PanicEntry) (F:Fr) (d:Tmp) (v:Value) (w:World),d<n→(VX P fn n R (.panic c) (GI F d v) w↔VX P fn n R (.panic c) F w):=fun c F d v w hd=>by
  show (UI (GI F d v n)=[]∧_)↔(UI (F n)=[]∧_);rw [HV F d v (Nat.ne_of_gt hd)]
def subs:List Nat→List (List Nat)
  | []=>[[]]
  | a :: l=>(subs l).map (a :: ·)++subs l
theorem PC (p:Nat→Bool):∀ l:List Nat,l.filter p∈subs l
  | []=>by simp [subs]
  | a :: l=>by
    unfold subs
    rw [List.mem_append,List.filter_cons]
    split
    · exact .inl (List.mem_map.2 ⟨_,PC p l,rfl⟩)
    · exact .inr (PC p l)
def upB (ops:List Oper) (U S:List Nat):Bool:=S.all fun a=>U.all fun b=>!DT ops b a || S.contains b
def lat (lates:List (List Nat)) (c:Nat):List Nat:=(lates[c]?).getD []
def UM (ops:List Oper) (m:Nat) (late:List Nat) (lates:List (List Nat)):Bool:=
  (List.range m).all (fun i=>(List.range m).all fun j=>Nat.beq i j || (match (ops[i]?).bind (·.dst),(ops[j]?).bind (·.dst) with|some a,some b=>!Nat.beq a b | _,_=>true)) &&
  (List.range m).all (fun j=>late.contains j || DT ops m j) && (CS ops m).all (fun k=>DT ops k m) &&
  (List.range ops.length).all (fun k=>(KD ops k).all fun j=>Nat.blt j k) && Nat.blt m ops.length && lates.all (fun S=>S.all (Nat.blt · m)) &&
  (subs late).all (fun S=>S.isEmpty || !upB ops late S || lates.any (fun L=>L.all S.contains && S.all L.contains)) &&
  KY ops (ops.length+1) (m :: CS ops m) && lates.all (fun S=>KY ops (ops.length+1) (S++CS ops m))
theorem draw_runN {ops:List Oper} {m:Nat} {late:List Nat} {lates:List (List Nat)} {om:Oper} (INV:Array Bool→Fr→World→Prop) (hqp:∀ c F d v w,d<n→(Q (.panic c) (GI F d v) w↔Q (.panic c) F w)) (hd:UM ops m late lates=true) (hndl:∀ S∈lates,S.Nodup) (hok:ops.all (PI n ops)=true) (hom:ops[m]? = some om)
    (hdown:∀ listed F1 w1,INV listed F1 w1→∀ i,listed[i]? = some true→∀ j∈KD ops i,listed[j]? = some true)
    (hstep:∀ (listed:Array Bool) (F1:Fr) (w1:World) (i:Nat) (o:Oper),listed.size=ops.length→INV listed F1 w1→i<m→ops[i]? = some o→listed[i]? = some false→(∀ j∈KD ops i,listed[j]? = some true)→
      (Region.wanted o (DS ops F1)=true→DY P o.op o.type F1 w1 (fun v w2=>INV (listed.setIfInBounds i true) (HU F1 o.dst v) w2) (fun _ _=>False))∧
      (Region.wanted o (DS ops F1)=false→INV (listed.setIfInBounds i true) (HU F1 o.dst undef) w1))
    (fin:∀ listed F1 w1,INV listed F1 w1→(∀ j,j<m→listed[j]? = some true)→(∀ j,m≤j→listed[j]?≠some true)→WL false P ops Q (om :: DG ops (CS ops m)) F1 w1)
    (finL:∀ c,c<lates.length→∀ listed F1 w1,INV listed F1 w1→(∀ j,j<m→(listed[j]? = some true↔j∉lat lates c))→(∀ j,m≤j→listed[j]?≠some true)→WL false P ops Q (om :: (DG ops (lat lates c)++DG ops (CS ops m))) F1 w1) :
    ∀ (fuel:Nat) (listed:Array Bool) (F1:Fr) (w1:World),listed.size=ops.length→OL ops listed≤fuel→(∀ j,m≤j→listed[j]?≠some true)→INV listed F1 w1→wpAny P .any ops.toArray (KS n Q) fuel listed (mk n F1) w1:=by
  unfold UM at hd
  simp only [Bool.and_eq_true] at hd
  obtain ⟨⟨⟨⟨⟨⟨⟨⟨d1,d2⟩,d3⟩,d4⟩,d5⟩,d6⟩,d7⟩,d8⟩,d9⟩:=hd
  have hml:m<ops.length:=blt d5
  have hback:∀ k,k<ops.length→∀ j∈KD ops k,j<k:=fun k hk j hj=>blt (List.all_eq_true.1 (List.all_eq_true.1 d4 k (by simpa using hk)) j hj)
  have hin:∀ k,k<ops.length→∀ j∈KD ops k,j<ops.length:=fun k hk j hj=>Nat.lt_trans (hback k hk j hj) hk
  have hlm:∀ S∈lates,∀ j∈S,j<m:=fun S hS j hj=>blt (List.all_eq_true.1 (List.all_eq_true.1 d6 S hS) j hj)
  have htl:∀ j,j∈CS ops m↔m<j∧j<ops.length:=fun j=>by
    unfold CS
    rw [List.mem_iff_getElem?]
    simp only [List.getElem?_drop]
    constructor
    · rintro ⟨i,hi⟩
      have:=(List.getElem?_eq_some_iff.1 hi)
      obtain ⟨h1,h2⟩:=this
      simp at h1 h2;omega
    · rintro ⟨h1,h2⟩
      exact ⟨j - (m+1),by rw [List.getElem?_eq_getElem (by simp;omega)];simp;omega⟩
  have hndt:(CS ops m).Nodup:=by unfold CS;exact List.Nodup.sublist (List.drop_sublist _ _) List.nodup_range
  intro fuel
  induction fuel with
  | zero=>
    intro listed F1 w1 hsz hfu hno hi
    exfalso
    have h0:OL ops listed=0:=by omega
    unfold OL at h0
    have:=List.countP_eq_zero.1 h0 m (by simpa using hml)
    exact hno m (Nat.le_refl _) (by simpa using this)
  | succ fuel ih=>
    intro listed F1 w1 hsz hfu hno hi
    have hmn:listed[m]? = some false:=by
      have h1:=hno m (Nat.le_refl _)
      have:m<listed.size:=by omega
      rw [Array.getElem?_eq_getElem this] at h1 ⊢
      simpa using h1
    by_cases hall:∀ j,j<m→listed[j]? = some true
    · -- all of the first part have been carried out
      have e:DG ops (m :: CS ops m)=om :: DG ops (CS ops m):=by unfold DG;rw [List.filterMap_cons,hom]
      refine RP hok hqp hin (ops.length+1) (m :: CS ops m) (fuel+1) listed F1 w1 hsz hfu (fun j hj=>⟨fun h=>?_,fun h=>?_⟩) (fun j hj=>?_) (List.nodup_cons.2 ⟨fun h=>by have:=(htl m).1 h;omega,hndt⟩) d8 (hdown _ _ _ hi) (by
        rw [e]
        exact fin listed F1 w1 hi hall hno)
      · intro hm'
        have:m≤j:=by rcases List.mem_cons.1 hm' with h1|h1;omega;have:=(htl j).1 h1;omega
        exact hno j this h
      · exact hall j (by
          rcases Nat.lt_or_ge j m with h1|h1
          · exact h1
          · exfalso;apply h
            rcases Nat.eq_or_lt_of_le h1 with h2|h2
            · subst h2;simp
            · exact List.mem_cons_of_mem _ ((htl j).2 ⟨h2,hj⟩))
      · rcases List.mem_cons.1 hj with h1|h1
        · omega
        · exact ((htl j).1 h1).2
    · have hex:∃ j,j<m∧listed[j]?≠some true:=by
        refine Classical.byContradiction fun hc=>hall fun j hj=>Classical.byContradiction fun hn=>hc ⟨j,hj,hn⟩
      have hmin:∀ q j,q=j→j<m→listed[j]?≠some true→∃ k,k<m∧listed[k]?≠some true∧∀ i,i<k→listed[i]? = some true:=by
        intro q
        induction q using Nat.strongRecOn with
        | _ q ihq=>
          intro j hqj hj hn
          by_cases hb:∀ i,i<j→listed[i]? = some true
          · exact ⟨j,hj,hn,hb⟩
          · have:∃ i,i<j∧listed[i]?≠some true:=Classical.byContradiction fun hc=>hb fun i hi=>Classical.byContradiction fun hn=>hc ⟨i,hi,hn⟩
            obtain ⟨i,hij,hni⟩:=this
            exact ihq i (by omega) i rfl (by omega) hni
      obtain ⟨j0,hj0,hn0⟩:=hex
      obtain ⟨k,hkm,hkn,hkb⟩:=hmin j0 j0 rfl hj0 hn0
      have hkf:listed[k]? = some false:=by
        have:k<listed.size:=by omega
        rw [Array.getElem?_eq_getElem this] at hkn ⊢
        simpa using hkn
      refine ⟨fun h0=>?_,fun i hir=>?_⟩
      · have:=ready_of' hsz (by omega) hkf (fun j hj=>hkb j (hback k (by omega) j hj))
        rw [h0] at this;cases this
      · obtain ⟨hnl,hil⟩:=KG hir hsz
        have ho:ops[i]? = some ops[i]:=List.getElem?_eq_getElem hil
        have haft:=HR ho hir hsz (hin i hil)
        have hclose:∀ j,DT ops i j=true→listed[j]? = some true:=fun j hj=>by
          unfold DT at hj
          exact HC (D:=fun j=>listed[j]? = some true) (hdown _ _ _ hi) _ _ haft j (by simpa using hj)
        rcases Nat.lt_or_ge i m with him|hge
        · have hsp:=hstep listed F1 w1 i ops[i] hsz hi him ho hnl haft
          have hno':∀ j,m≤j→(listed.setIfInBounds i true)[j]?≠some true:=fun j hj=>by
            rw [Array.getElem?_setIfInBounds,if_neg (by omega)];exact hno j hj
          refine MA (K:=fun F2 w2=>INV (listed.setIfInBounds i true) F2 w2) hok ho (fun F2 w2 hK=>ih _ F2 w2 (by simpa using hsz) (by have:=HZ hil hsz hnl;omega) hno' hK) (fun hw=>?_) (fun hw=>hsp.2 hw)
          have h1:=hsp.1 hw
          unfold DY at h1 ⊢
          generalize (execOp (CU F1) ⟨none,ops[i].op,ops[i].type,"",#[],none⟩).run P w1=r at h1 ⊢
          cases r with
          | ok x w'=>
            cases x <;> simp only [HB] at h1 ⊢ <;> try exact h1.elim
            case value v=>exact h1
            case skip=>exact h1
            case enter f args=>
              exact Calls.mono h1 fun e w'' he=>by
                cases e with
                | returned v=>exact he
                | panicked c=>exact he.elim
                | outgrown=>exact he.elim
          | halt x w'=>cases x <;> simp only [HB] at h1 ⊢ <;> exact h1.elim
        · -- operation m comes ahead of some late ones
          have him:i=m:=by
            rcases Nat.eq_or_lt_of_le hge with h1|h1
            · exact h1.symm
            · have h2:=hclose m (List.all_eq_true.1 d3 i ((htl i).2 ⟨h1,hil⟩))
              rw [hmn] at h2;cases h2
          subst him
          have hnl':∀ j,j<i→j∉late→listed[j]? = some true:=fun j hj hjl=>by
            have h1:=List.all_eq_true.1 d2 j (by simpa using hj)
            simp only [Bool.or_eq_true,List.contains_iff_mem] at h1
            exact hclose j (h1.resolve_left hjl)
          have hcw:∀ b a,listed[b]? = some true→DT ops b a=true→listed[a]? = some true:=fun b a hb hba=>by
            unfold DT at hba
            exact HC (D:=fun j=>listed[j]? = some true) (hdown _ _ _ hi) _ _ ((hdown _ _ _ hi) b hb) a (by simpa using hba)
          have hS:=List.all_eq_true.1 d7 _ (PC (fun j=>listed[j]? != some true) late)
          have hmS:∀ j,j∈late.filter (fun j=>listed[j]? != some true)↔j∈late∧listed[j]?≠some true:=fun j=>by simp [List.mem_filter]
          generalize late.filter (fun j=>listed[j]? != some true)=S at hS hmS
          simp only [Bool.or_eq_true] at hS
          have hne:¬ S.isEmpty=true:=fun h=>by
            have h1:j0∈late:=Classical.byContradiction fun hc=>hn0 (hnl' j0 hj0 hc)
            have:=(hmS j0).2 ⟨h1,hn0⟩
            rw [List.isEmpty_iff.1 h] at this;simp at this
          have hup:upB ops late S=true:=by
            unfold upB
            refine List.all_eq_true.2 fun a ha=>List.all_eq_true.2 fun b hb=>?_
            simp only [Bool.or_eq_true,List.contains_iff_mem]
            cases hw:DT ops b a with
            | false=>exact .inl rfl
            | true=>exact .inr ((hmS b).2 ⟨hb,fun h=>((hmS a).1 ha).2 (hcw b a h hw)⟩)
          rw [hup] at hS
          have hS:=(hS.resolve_left (fun h=>h.elim hne (fun h=>by cases h)))
          obtain ⟨L,hL,hLS⟩:=List.any_eq_true.1 hS
          simp only [Bool.and_eq_true] at hLS
          obtain ⟨c,hc⟩:=List.mem_iff_getElem?.1 hL
          have hcl:c<lates.length:=(List.getElem?_eq_some_iff.1 hc).1
          have hlat:lat lates c=L:=by unfold lat;rw [hc];rfl
          have hmL:∀ j,j∈L↔j∈late∧listed[j]?≠some true:=fun j=>by
            rw [← hmS j]
            exact ⟨fun h=>by simpa using List.all_eq_true.1 hLS.1 j h,fun h=>by simpa using List.all_eq_true.1 hLS.2 j h⟩
          have hdropn:∀ j∈lat lates c,¬ listed[j]? = some true:=fun j hj=>by rw [hlat] at hj;exact ((hmL j).1 hj).2
          have hdropm:∀ j,j<i→(listed[j]? = some true↔j∉lat lates c):=fun j hj=>by
            constructor
            · intro h1 h2;exact hdropn j h2 h1
            · intro h1
              by_cases hjl:j∈late
              · exact Classical.byContradiction fun h2=>h1 (by rw [hlat];exact (hmL j).2 ⟨hjl,h2⟩)
              · exact hnl' j hj hjl
          have hK:=finL c hcl listed F1 w1 hi hdropm hno
          have hom':om=ops[i]:=by rw [ho] at hom;exact (Option.some.inj hom).symm
          have hso:DG ops (lat lates c)++DG ops (CS ops i)=DG ops (lat lates c++CS ops i):=by unfold DG;rw [List.filterMap_append]
          rw [hso,hom'] at hK
          have hset:∀ j,(listed.setIfInBounds i true)[j]? = some true↔j=i∨listed[j]? = some true:=fun j=>by
            rw [Array.getElem?_setIfInBounds]
            by_cases hji:i=j
            · subst hji;simp;omega
            · rw [if_neg hji];exact ⟨fun h=>.inr h,fun h=>h.resolve_left (fun e=>hji e.symm)⟩
          refine MA (K:=fun F w=>WL false P ops Q (DG ops (lat lates c++CS ops i)) F w) hok ho (fun F2 w2 hK2=>RP hok hqp hin (ops.length+1) (lat lates c++CS ops i) fuel _ F2 w2 (by simpa using hsz) (by have:=HZ hil hsz hnl;omega) (fun j hj=>?_) (fun j hj=>?_) ?_ (by rw [hlat];exact List.all_eq_true.1 d9 L hL) (fun j hj q hq=>?_) hK2) (fun hw=>?_) (fun hw=>?_)
          · rw [hset j,List.mem_append,htl j]
            constructor
            · rintro (rfl|h1)
              · rintro (h2|h2)
                · have:=hlm L hL j (hlat ▸ h2);omega
                · omega
              · rintro (h2|h2)
                · exact hdropn j h2 h1
                · exact hno j (by omega) h1
            · intro h1
              rcases Nat.lt_trichotomy j i with h2|h2|h2
              · exact .inr ((hdropm j h2).2 (fun h3=>h1 (.inl h3)))
              · exact .inl h2
              · exact absurd (.inr ⟨h2,hj⟩) h1
          · rcases List.mem_append.1 hj with h1|h1
            · have:=hlm L hL j (hlat ▸ h1);omega
            · exact ((htl j).1 h1).2
          · refine List.nodup_append.2 ⟨hlat ▸ hndl L hL,hndt,fun a ha b hb e=>?_⟩
            have h1:=hlm L hL a (hlat ▸ ha)
            have h2:=(htl b).1 hb
            omega
          · rw [hset q]
            rcases (hset j).1 hj with rfl|h1
            · exact .inr (haft q hq)
            · exact .inr ((hdown _ _ _ hi) j h1 q hq)
          · unfold WL at hK;rw [if_pos hw] at hK;exact hK.resolve_right (fun e=>by cases e.1)
          · unfold WL at hK;rw [if_neg (by rw [hw];simp)] at hK;exact hK
theorem cw_drawUN {id:Nat} {ops:List Oper} {F:Fr} {w:World} (m:Nat) (late:List Nat) (lates:List (List Nat)) (hqp:∀ c F d v w,d<n→(Q (.panic c) (GI F d v) w↔Q (.panic c) F w)) (pre:List Oper) (om:Oper) (tl:List Oper) (Ts:List XW) (G:List Gr) (B:List Nat) (hm:P.follows .mixedOrders=true) (hok:ops.all (PI n ops)=true) (hd:UM ops m late lates=true) (hlen:(Nat.beq Ts.length m && Nat.beq G.length m && Nat.ble m ops.length)=true) (hgr:VA ops m G=true) (hnd:∀ S∈lates,S.Nodup)
    (hpre:ops.take m=pre) (hom:ops[m]? = some om) (htl:DG ops (CS ops m)=tl) (hst:VE Ts G) (hs:QV P ops m Ts G F w.drew B 0 pre Ts)
    (fin:FinU ops m Ts G F w B [] (WL false P ops Q (om :: tl))) (finL:∀ c,c<lates.length→FinU ops m Ts G F w B (lat lates c) (WL false P ops Q (om :: (DG ops (lat lates c)++tl)))):CW P (ro:=none) n (.region id ops.toArray true) Q F w:=by
  subst hpre;subst htl
  simp only [Bool.and_eq_true] at hlen
  have hTl:Ts.length=m:=Nat.eq_of_beq_eq_true hlen.1.1
  have hGl:G.length=Ts.length:=by rw [hTl];exact Nat.eq_of_beq_eq_true hlen.1.2
  have hle:m≤ops.length:=Nat.le_of_ble_eq_true hlen.2
  have hdr:({ w with drawn:=w.drawn+1 }:World)=w.drew:=rfl
  have hd':=hd
  unfold UM at hd'
  simp only [Bool.and_eq_true] at hd'
  obtain ⟨⟨⟨⟨⟨⟨⟨⟨d1,d2⟩,d3⟩,d4⟩,d5⟩,d6⟩,d7⟩,d8⟩,d9⟩:=hd'
  have hdist:∀ (i j:Nat) (oi oj:Oper),i<m→j<m→i≠j→ops[i]? = some oi→ops[j]? = some oj→oi.dst≠none→oi.dst≠oj.dst:=by
    intro i j oi oj hi hj hij hoi hoj hne
    have:=List.all_eq_true.1 (List.all_eq_true.1 d1 i (by simpa using hi)) j (by simpa using hj)
    simp only [Bool.or_eq_true] at this
    rcases this with h5|h5
    · exact absurd (Nat.eq_of_beq_eq_true h5) hij
    · rw [hoi,hoj] at h5
      intro e
      cases hd:oi.dst with
      | none=>exact hne hd
      | some d=>
        rw [hd] at e
        simp only [Option.bind_some,hd,← e] at h5
        simp at h5
  refine wpIn_wide.2 (wp_region_any hm ?_)
  rw [hdr,List.size_toArray]
  refine draw_runN (late:=late) (lates:=lates) (UInv ops m Ts G F w.drew B) hqp hd hnd hok hom (fun listed F1 w1 h=>h.down) (fun listed F1 w1 i o hsz h him ho hnl haft=>stepU hdist hTl hGl hle hgr hst hs hsz h him ho hnl haft)
    (fun listed F1 w1 hi hall hno=>hi.fin (fun i him _=>hall i him) hno fin) (fun c hc listed F1 w1 hi hall hno=>hi.fin (fun i him hex=>(hall i him).2 (by simpa using hex)) hno (finL c hc)) ops.length _ F w.drew (by simp) ?_ (fun j _=>?_) UInv.start
  · unfold OL;exact Nat.le_trans (List.countP_le_length) (by simp)
  · simp [Array.getElem?_replicate]
end
variable {P:Program} {ro:Option Nat} {n:Nat} {Q:Exit→Fr→World→Prop} {F:Fr} {w:World}
theorem cw_cut {x y:Code} (I:Fr→World→Prop) (h1:CW P (ro:=ro) n x (SI I Q) F w) (h2:∀ F w,I F w→CW P (ro:=ro) n y Q F w):CW P (ro:=ro) n (.seq x y) Q F w:=
  AF (wpIn_mono h1 fun e _ _ ⟨F,ha,hQ⟩=>⟨F,ha,by cases e <;> first|exact h2 _ _ hQ|exact hQ⟩)
open Go.RowKit
section
variable {P:Program} {ro:Option Nat} {n:Nat} {Q:Exit→Fr→World→Prop} {F:Fr} {w:World}
end
section
variable {P:Program}
theorem wl_yT {ops rest:List Oper} {Q:Exit→Fr→World→Prop} {F:Fr} {w:World} {d:Tmp} {ty:TypeId} {pos:String} {af:Array Edge} {xf:Operand} {xs:List Operand} {ats:Array TypeId} {j:Nat} {b:Bool} (hg:DS ops F j=some b) (l:Nat) (vs:List Value)
    (hf:CU F xf = .func (.yield l) #[] #[]) (hv:xs.map (CU F)=vs) (hy:ML P l vs w (fun v w'=>WL true P ops Q rest (GI F d v) w')) :
    WL true P ops Q (⟨some d, .call { callee:=.value xf,args:=xs.toArray,argTypes:=ats },ty,pos,af,some (j,b)⟩ :: rest) F w:=by
  unfold WL
  rw [if_pos (by simp [Region.wanted,hg])]
  refine .inr ⟨rfl,?_⟩
  unfold RoundW
  obtain ⟨fn,tmps,assign,body,h1,h2⟩:=hy
  have:(execOp (CU F) ⟨none, .call { callee:=.value xf,args:=xs.toArray,argTypes:=ats },ty,"",#[],none⟩).run P w = .ok (.round l fn tmps assign body) w:=by
    simp [execOp,resolve,Deferred.ofValue,invoke,hf,hv,h1]
  rw [this]
  exact h2.mono fun e w' ⟨v,he,hk⟩=>by subst he;exact hk
end
section
variable {P:Program} {t yt ty:TypeId} {x y:Operand} {F:Fr} {w:World} {K:Value→World→Prop} {Z:List PanicEntry→World→Prop}
end
def Enc.cells (n:Nat):Enc (List Value) where
  size:=n
  rd:=fun _ _ cs x=>cs=x∧x.length=n∧∀ u∈x,u.oneCell'=true
  len:=fun h=>h.1 ▸ h.2.1
  one:=fun h u hu=>h.2.2 u (h.1 ▸ hu)
  mv:=fun h _=>h
  sub:=fun h _=>h
open Go.RowKit
def vOp (op:Op):Bool:=
  match op with
  | .move _ | .assign _ | .pick .. | .load .. | .binOp .. | .unOp .. | .convert .. | .slice .. | .fieldAddr .. | .field .. | .indexAddr .. | .index .. | .extract ..=>true
  | .call c=>(match c.callee with | .builtin .len=>true | _=>false)
  | _=>false
theorem vOp_val {P:Program} {o:Oper} (h:vOp o.op=true) {ρ:Operand→Value} {w w':World} {r:Next} (e:(execOp ρ o).run P w = .ok r w'):∃ v,r = .value v:=by
  have key:∀ (s:Sem Value),(do pure (Next.value (← s)):Sem Next).run P w = .ok r w'→∃ v,r = .value v:=fun s e=>by
    simp only [Sem.run_bind] at e
    cases hs:s.run P w with
    | ok x w2=>rw [hs] at e;simp only [Result.andThen_ok,Sem.run_pure] at e;cases e;exact ⟨_,rfl⟩
    | halt x w2=>rw [hs] at e;cases e
  obtain ⟨d,op,ty,pos,af,g⟩:=o
  have h:vOp op=true:=h
  cases op with
  | move x=>simp only [execOp,Sem.run_pure] at e;cases e;exact ⟨_,rfl⟩
  | assign x=>simp only [execOp,Sem.run_pure] at e;cases e;exact ⟨_,rfl⟩
  | pick c a b=>
    refine key (do pure (if ← asBool (ρ c) then ρ a else ρ b)) ?_
    rw [← e]
    simp only [execOp,Sem.run_bind]
    cases (asBool (ρ c)).run P w <;> rfl
  | call c=>
    unfold vOp at h
    simp only at h
    split at h
    · rename_i hc
      simp only [execOp,resolve,invoke,hc,Sem.run_bind,Sem.run_pure,Result.andThen_ok,builtin] at e
      exact key (Builtin.len_ c.argTypes ty (Array.map ρ c.args)) (by simp only [Sem.run_bind,Sem.run_pure];exact e)
    · cases h
  | _=>first|exact key _ e|(exfalso;simp [vOp] at h)
def WP (P:Program) (ops:List Oper) (w0:World) (R:Fr→Prop):List Oper→Fr→World→Prop
  | [],F,w=>w=w0∧R F
  | o :: rest,F,w=>w=w0∧if Region.wanted o (DS ops F)=true then DY P o.op o.type F w (fun v w'=>WP P ops w0 R rest (HU F o.dst v) w') (fun _ _=>False) else WP P ops w0 R rest (HU F o.dst undef) w
section
variable {P:Program} {ops rest:List Oper} {w0:World} {R:Fr→Prop} {F:Fr} {d:Tmp} {op:Op} {ty:TypeId} {pos:String} {af:Array Edge} {j:Nat} {b:Bool}
theorem EQ (h:R F):WP P ops w0 R [] F w0:=⟨rfl,h⟩
theorem BM (h:DY P op ty F w0 (fun v w'=>WP P ops w0 R rest (GI F d v) w') (fun _ _=>False)):WP P ops w0 R (⟨some d,op,ty,pos,af,none⟩ :: rest) F w0:=by
  unfold WP;refine ⟨rfl,?_⟩;rw [if_pos (show Region.wanted _ _=true from rfl)];exact h
theorem DR (hy:DS ops F j=some b) (h:DY P op ty F w0 (fun v w'=>WP P ops w0 R rest (GI F d v) w') (fun _ _=>False)):WP P ops w0 R (⟨some d,op,ty,pos,af,some (j,b)⟩ :: rest) F w0:=by
  unfold WP;refine ⟨rfl,?_⟩;rw [if_pos (by simp [Region.wanted,hy])];exact h
theorem CD (hy:DS ops F j=some (!b)) (h:WP P ops w0 R rest (GI F d undef) w0):WP P ops w0 R (⟨some d,op,ty,pos,af,some (j,b)⟩ :: rest) F w0:=by
  unfold WP;refine ⟨rfl,?_⟩;rw [if_neg (by cases b <;> simp [Region.wanted,hy])];exact h
theorem GL (hy:DS ops F j=none) (h:WP P ops w0 R rest (GI F d undef) w0):WP P ops w0 R (⟨some d,op,ty,pos,af,some (j,b)⟩ :: rest) F w0:=by
  unfold WP;refine ⟨rfl,?_⟩;rw [if_neg (by cases b <;> simp [Region.wanted,hy])];exact h
end
def outP (P:Program) (ops:List Oper) (w0:World) (o:Oper) (F:Fr) (v:Value):Prop:=
  (Region.wanted o (DS ops F)=true∧(execOp (CU F) ⟨none,o.op,o.type,"",#[],none⟩).run P w0 = .ok (.value v) w0)∨(Region.wanted o (DS ops F)=false∧v=undef)
def RunP (P:Program) (ops:List Oper) (w0:World):List Oper→Fr→Fr→Prop
  | [],F,Fe=>Fe=F
  | o :: rest,F,Fe=>∃ v,outP P ops w0 o F v∧RunP P ops w0 rest (HU F o.dst v) Fe
theorem WP.world {P:Program} {ops l:List Oper} {w0 w:World} {R:Fr→Prop} {F:Fr} (h:WP P ops w0 R l F w):w=w0:=by
  cases l with
  | nil=>exact h.1
  | cons=>exact h.1
theorem WP.run {P:Program} {ops:List Oper} {w0:World} {R:Fr→Prop}:∀ (l:List Oper) (F:Fr),l.all (fun o=>vOp o.op)=true→WP P ops w0 R l F w0→∃ Fe,RunP P ops w0 l F Fe∧R Fe
  | [],F,_,h=>⟨F,rfl,h.2⟩
  | o :: rest,F,hv,h=>by
    simp only [List.all_cons,Bool.and_eq_true] at hv
    have h:=h.2
    by_cases hw:Region.wanted o (DS ops F)=true
    · rw [if_pos hw] at h
      unfold DY at h
      cases hr:(execOp (CU F) ⟨none,o.op,o.type,"",#[],none⟩).run P w0 with
      | ok r w'=>
        obtain ⟨v,rfl⟩:=vOp_val (o:=⟨none,o.op,o.type,"",#[],none⟩) hv.1 hr
        rw [hr] at h
        have h:WP P ops w0 R rest (HU F o.dst v) w':=h
        have e:=h.world
        subst e
        obtain ⟨Fe,h1,h2⟩:=WP.run rest _ hv.2 h
        exact ⟨Fe,⟨v, .inl ⟨hw,hr⟩,h1⟩,h2⟩
      | halt x w'=>
        rw [hr] at h
        cases x <;> exact h.elim
    · rw [if_neg hw] at h
      obtain ⟨Fe,h1,h2⟩:=WP.run rest _ hv.2 h
      exact ⟨Fe,⟨undef, .inr ⟨by simpa using hw,rfl⟩,h1⟩,h2⟩
theorem run_at {P:Program} {ops:List Oper} {w0:World}:∀ (l:List Oper) (F Fe:Fr),RunP P ops w0 l F Fe→l.Pairwise (fun a b=>a.dst≠b.dst)→(∀ o∈l,o.dst≠none)→
    (∀ t,(∀ o∈l,o.dst≠some t)→Fe t=F t)∧∀ i (hi:i<l.length),∃ Fi,(∀ t,(∀ j (hj:j<l.length),j<i→l[j].dst≠some t)→Fi t=F t)∧(∀ t j (hj:j<l.length),j<i→l[j].dst=some t→Fi t=Fe t)∧∃ v,outP P ops w0 l[i] Fi v∧∀ d,l[i].dst=some d→Fe d=v
  | [],F,Fe,h,_,_=>⟨fun t _=>by rw [show Fe=F from h],fun i hi=>absurd hi (by simp)⟩
  | o :: rest,F,Fe,⟨v,hv,h⟩,hp,hn=>by
    obtain ⟨hp1,hp2⟩:=List.pairwise_cons.1 hp
    obtain ⟨a1,a2⟩:=run_at rest _ Fe h hp2 (fun x hx=>hn x (List.mem_cons_of_mem _ hx))
    cases hd:o.dst with
    | none=>exact absurd hd (hn o List.mem_cons_self)
    | some d=>
      rw [hd] at h a1 a2
      have hFd:Fe d=v:=by
        rw [a1 d (fun x hx e=>hp1 x hx (by rw [hd,e]))]
        show GI F d v d=v
        exact HA _ _ _
      refine ⟨fun t ht=>?_,fun i hi=>?_⟩
      · have hne:t≠d:=fun e=>ht o List.mem_cons_self (by rw [hd,e])
        rw [a1 t (fun x hx=>ht x (List.mem_cons_of_mem _ hx))]
        show GI F d v t=F t
        exact HV _ _ _ hne
      · cases i with
        | zero=>exact ⟨F,fun t _=>rfl,fun t j _ hj=>absurd hj (by omega),v,hv,fun d' hd'=>by rw [show o.dst=some d' from hd'] at hd;cases hd;exact hFd⟩
        | succ i=>
          obtain ⟨Fi,b1,b2,b3⟩:=a2 i (by simpa using hi)
          refine ⟨Fi,fun t ht=>?_,fun t j hj hji hjt=>?_,b3⟩
          · have hne:t≠d:=fun e=>ht 0 (by simp) (by omega) (by rw [e];exact hd)
            rw [b1 t (fun j hj hji=>ht (j+1) (by simp;omega) (by omega))]
            show GI F d v t=F t
            exact HV _ _ _ hne
          · cases j with
            | zero=>
              have hdt:some d=some t:=by rw [← hd];exact hjt
              cases hdt
              rw [b1 d (fun j hj hji e=>hp1 _ (List.getElem_mem hj) (by rw [hd,e])),hFd]
              show GI F d v d=v
              exact HA _ _ _
            | succ j=>exact b2 t j (by simpa using hj) (by omega) hjt
def XS (ops:List Oper) (o:Oper):List Nat:=
  o.op.operands.toList.filterMap (fun x=>match x with | .tmp t=>some t | _=>none)++(match o.guard with|some (g,_)=>((ops[g]?).bind (·.dst)).toList|none=>[])
def TB (ops:List Oper) (m:Nat):Bool:=
  (ops.take m).all (fun o=>vOp o.op && o.dst.isSome) &&
  (List.range m).all fun i=>match ops[i]? with
    | some o=>(XS ops o).all fun t=>(List.range m).all fun j=>match (ops[j]?).bind (·.dst) with
      | some d=>!Nat.beq d t || ((KD ops i).contains j && Nat.blt j i)
      | none=>true
    | none=>true
section
variable {P:Program} {n:Nat} {Q:Exit→Fr→World→Prop}
theorem pure_dep {ops:List Oper} {m:Nat} (h:TB ops m=true) {i:Nat} (hi:i<m) {o:Oper} (ho:ops[i]? = some o) {t:Nat} (ht:t∈XS ops o) {j:Nat} (hj:j<m) {oj:Oper} (hoj:ops[j]? = some oj) (hd:oj.dst=some t):j∈KD ops i∧j<i:=by
  unfold TB at h
  simp only [Bool.and_eq_true] at h
  have h1:=List.all_eq_true.1 h.2 i (by simpa using hi)
  rw [ho] at h1
  have h2:=List.all_eq_true.1 (List.all_eq_true.1 h1 t ht) j (by simpa using hj)
  rw [hoj] at h2
  simp only [Option.bind_some,hd,Bool.or_eq_true,Bool.and_eq_true] at h2
  rcases h2 with h2|⟨h2,h3⟩
  · exact absurd rfl (nbeq h2)
  · exact ⟨by simpa using h2,blt h3⟩
theorem out_agree {ops:List Oper} {w0:World} {o:Oper} {F F':Fr} {v:Value} (hv:vOp o.op=true) (h:outP P ops w0 o F v) (hl:∀ t∈XS ops o,F' t=F t):outP P ops w0 o F' v:=by
  have hw:Region.wanted o (DS ops F')=Region.wanted o (DS ops F):=by
    unfold Region.wanted
    cases hg:o.guard with
    | none=>rfl
    | some p=>
      obtain ⟨g,b⟩:=p
      simp only
      have:DS ops F' g=DS ops F g:=by
        unfold DS
        cases hd:(ops[g]?).bind (·.dst) with
        | none=>rfl
        | some d=>simp only;rw [hl d (by unfold XS;rw [hg];simp only [hd];simp)]
      rw [this]
  have he:execOp (CU F') ⟨none,o.op,o.type,"",#[],none⟩ = execOp (CU F) ⟨none,o.op,o.type,"",#[],none⟩:=by
    refine RR _ (by revert hv;unfold vOp;cases o.op <;> intro hv <;> first|rfl|cases hv) fun x hx=>?_
    cases x with
    | tmp t=>exact hl t (by unfold XS;exact List.mem_append_left _ (List.mem_filterMap.2 ⟨.tmp t,hx,rfl⟩))
    | _=>rfl
  unfold outP at h ⊢
  rw [hw,he];exact h
structure PuInv (ops:List Oper) (m:Nat) (F Fe:Fr) (w0:World) (listed:Array Bool) (F1:Fr) (w1:World):Prop where
  world:w1=w0
  down:∀ i,listed[i]? = some true→∀ j∈KD ops i,listed[j]? = some true
  fact:∀ (j:Nat) (oj:Oper) (d:Tmp),j<m→listed[j]? = some true→ops[j]? = some oj→oj.dst=some d→F1 d=Fe d
  free:∀ t,(∀ (j:Nat) (oj:Oper),j<m→listed[j]? = some true→ops[j]? = some oj→oj.dst≠some t)→F1 t=F t
theorem draw_runP {ops:List Oper} {m:Nat} {F Fe:Fr} {w0:World} (hd:drawOkC ops m=true) (hok:ops.all (PI n ops)=true) (hp:TB ops m=true) (hr:RunP P ops w0 (ops.take m) F Fe)
    (fin:WL false P ops Q (DG ops ((List.range ops.length).drop m)) Fe w0) :
    ∀ (fuel:Nat) (listed:Array Bool) (F1:Fr) (w1:World),listed.size=ops.length→OL ops listed≤fuel→(∀ j,m≤j→listed[j]?≠some true)→PuInv ops m F Fe w0 listed F1 w1→wpAny P .any ops.toArray (KS n Q) fuel listed (mk n F1) w1:=by
  unfold drawOkC at hd
  simp only [Bool.and_eq_true] at hd
  obtain ⟨⟨⟨⟨d1,d3⟩,d4⟩,d5⟩,d8⟩:=hd
  have hml:m≤ops.length:=Nat.le_of_ble_eq_true d5
  have hback:∀ k,k<ops.length→∀ j∈KD ops k,j<k:=fun k hk j hj=>blt (List.all_eq_true.1 (List.all_eq_true.1 d4 k (by simpa using hk)) j hj)
  have hin:∀ k,k<ops.length→∀ j∈KD ops k,j<ops.length:=fun k hk j hj=>Nat.lt_trans (hback k hk j hj) hk
  have htl:∀ j,j∈(List.range ops.length).drop m↔m≤j∧j<ops.length:=fun j=>by
    rw [List.mem_iff_getElem?]
    simp only [List.getElem?_drop]
    constructor
    · rintro ⟨i,hi⟩
      have:=(List.getElem?_eq_some_iff.1 hi)
      obtain ⟨h1,h2⟩:=this
      simp at h1 h2;omega
    · rintro ⟨h1,h2⟩
      exact ⟨j - m,by rw [List.getElem?_eq_getElem (by simp;omega)];simp;omega⟩
  have hdist:∀ i j oi oj,i<m→j<m→i≠j→ops[i]? = some oi→ops[j]? = some oj→oi.dst≠none→oi.dst≠oj.dst:=by
    intro i j oi oj hi hj hij hoi hoj hne
    have:=List.all_eq_true.1 (List.all_eq_true.1 d1 i (by simpa using hi)) j (by simpa using hj)
    simp only [Bool.or_eq_true] at this
    rcases this with h5|h5
    · exact absurd (Nat.eq_of_beq_eq_true h5) hij
    · rw [hoi,hoj] at h5
      intro e
      cases hd:oi.dst with
      | none=>exact hne hd
      | some d=>
        rw [hd] at e
        simp only [Option.bind_some,hd,← e] at h5
        simp at h5
  have hndt:((List.range ops.length).drop m).Nodup:=List.Nodup.sublist (List.drop_sublist _ _) List.nodup_range
  have hm:=hml
  have hall0:∀ o∈ops.take m,vOp o.op=true∧o.dst≠none:=fun o ho=>by
    unfold TB at hp
    simp only [Bool.and_eq_true] at hp
    have:=List.all_eq_true.1 hp.1 o ho
    simp only [Bool.and_eq_true] at this
    exact ⟨this.1,fun e=>by rw [e] at this;simp at this⟩
  have hlen:(ops.take m).length=m:=by rw [List.length_take];omega
  have hget:∀ j (hj:j<m),(ops.take m)[j]'(by omega)=ops[j]'(by omega):=fun j hj=>List.getElem_take
  have hpw:(ops.take m).Pairwise (fun a b=>a.dst≠b.dst):=by
    rw [List.pairwise_iff_getElem]
    intro i j hi hj hij
    rw [hlen] at hi hj
    rw [hget i hi,hget j hj]
    exact hdist i j _ _ hi hj (by omega) (List.getElem?_eq_getElem (by omega)) (List.getElem?_eq_getElem (by omega)) (by have:=(hall0 _ (List.getElem_mem (l:=ops.take m) (n:=i) (by omega))).2;rw [hget i hi] at this;exact this)
  obtain ⟨r1,r2⟩:=run_at (ops.take m) F Fe hr hpw (fun o ho=>(hall0 o ho).2)
  have hend:∀ (listed:Array Bool) (F1:Fr) (w1:World),PuInv ops m F Fe w0 listed F1 w1→(∀ j,j<m→listed[j]? = some true)→F1=Fe:=fun listed F1 w1 hi hall=>by
    funext t
    by_cases c:∃ (j:Nat) (hj:j<m),(ops[j]'(by omega)).dst=some t
    · obtain ⟨j,hj,he⟩:=c
      exact hi.fact j _ t hj (hall j hj) (List.getElem?_eq_getElem (by omega)) he
    · rw [hi.free t (fun j oj hj _ hoj e=>c ⟨j,hj,by rw [List.getElem?_eq_getElem (by omega)] at hoj;cases hoj;exact e⟩)]
      refine (r1 t fun o ho e=>?_).symm
      obtain ⟨j,hj,rfl⟩:=List.getElem_of_mem ho
      rw [hlen] at hj
      exact c ⟨j,hj,by rw [← hget j hj];exact e⟩
  intro fuel
  have toTail:∀ (fuel:Nat) (listed:Array Bool) (F1:Fr) (w1:World),listed.size=ops.length→OL ops listed≤fuel→(∀ j,m≤j→listed[j]?≠some true)→PuInv ops m F Fe w0 listed F1 w1→(∀ j,j<m→listed[j]? = some true)→wpAny P .any ops.toArray (KS n Q) fuel listed (mk n F1) w1:=by
    intro fuel listed F1 w1 hsz hfu hno hi hall
    have e1:=hend listed F1 w1 hi hall
    have e2:=hi.world
    have hdn:=hi.down
    clear hi
    subst e1;subst e2
    refine forced_runC hok hin ops.length _ fuel listed F1 w1 hsz hfu (fun j hj=>⟨fun h hm'=>hno j ((htl j).1 hm').1 h,fun h=>hall j ?_⟩) (fun j hj=>((htl j).1 hj).2) hndt d8 hdn fin
    rcases Nat.lt_or_ge j m with h1|h1
    · exact h1
    · exact absurd ((htl j).2 ⟨h1,hj⟩) h
  induction fuel with
  | zero=>
    intro listed F1 w1 hsz hfu hno hi
    refine toTail 0 listed F1 w1 hsz hfu hno hi (fun j hj=>?_)
    have h0:OL ops listed=0:=by omega
    unfold OL at h0
    have:=List.countP_eq_zero.1 h0 j (by simp;omega)
    simpa using this
  | succ fuel ih=>
    intro listed F1 w1 hsz hfu hno hi
    by_cases hall:∀ j,j<m→listed[j]? = some true
    · exact toTail (fuel+1) listed F1 w1 hsz hfu hno hi hall
    · have hex:∃ j,j<m∧listed[j]?≠some true:=by
        refine Classical.byContradiction fun hc=>hall fun j hj=>Classical.byContradiction fun hn=>hc ⟨j,hj,hn⟩
      have hmin:∀ q j,q=j→j<m→listed[j]?≠some true→∃ k,k<m∧listed[k]?≠some true∧∀ i,i<k→listed[i]? = some true:=by
        intro q
        induction q using Nat.strongRecOn with
        | _ q ihq=>
          intro j hqj hj hn
          by_cases hb:∀ i,i<j→listed[i]? = some true
          · exact ⟨j,hj,hn,hb⟩
          · have:∃ i,i<j∧listed[i]?≠some true:=Classical.byContradiction fun hc=>hb fun i hi=>Classical.byContradiction fun hn=>hc ⟨i,hi,hn⟩
            obtain ⟨i,hij,hni⟩:=this
            exact ihq i (by omega) i rfl (by omega) hni
      obtain ⟨j0,hj0,hn0⟩:=hex
      obtain ⟨k,hkm,hkn,hkb⟩:=hmin j0 j0 rfl hj0 hn0
      have hkf:listed[k]? = some false:=by
        have:k<listed.size:=by omega
        rw [Array.getElem?_eq_getElem this] at hkn ⊢
        simpa using hkn
      refine ⟨fun h0=>?_,fun i hir=>?_⟩
      · have:=ready_of' hsz (by omega) hkf (fun j hj=>hkb j (hback k (by omega) j hj))
        rw [h0] at this;cases this
      · obtain ⟨hnl,hil⟩:=KG hir hsz
        have ho:ops[i]? = some ops[i]:=List.getElem?_eq_getElem hil
        have haft:=HR ho hir hsz (hin i hil)
        have hclose:∀ j,DT ops i j=true→listed[j]? = some true:=fun j hj=>by
          unfold DT at hj
          exact HC (D:=fun j=>listed[j]? = some true) hi.down _ _ haft j (by simpa using hj)
        have him:i<m:=by
          rcases Nat.lt_or_ge i m with h1|hge
          · exact h1
          · have h1:=hclose k (List.all_eq_true.1 (List.all_eq_true.1 d3 i ((htl i).2 ⟨hge,hil⟩)) k (by simpa using hkm))
            rw [hkf] at h1;cases h1
        have hno':∀ j,m≤j→(listed.setIfInBounds i true)[j]?≠some true:=fun j hj=>by
          rw [Array.getElem?_setIfInBounds,if_neg (by omega)];exact hno j hj
        have hset:∀ (j:Nat),(listed.setIfInBounds i true)[j]? = some true→j=i∨listed[j]? = some true:=by
          intro j hj
          by_cases hji:j=i
          · exact .inl hji
          · rw [Array.getElem?_setIfInBounds,if_neg (fun e=>hji e.symm)] at hj;exact .inr hj
        have hmono:∀ (j:Nat),listed[j]? = some true→(listed.setIfInBounds i true)[j]? = some true:=by
          intro j hj
          rw [Array.getElem?_setIfInBounds]
          split
          · rename_i e;subst e
            have:i<listed.size:=by omega
            simp [this]
          · exact hj
        obtain ⟨Fi,b1,b2,v,hv,hve⟩:=r2 i (by omega)
        rw [hget i him] at hv hve
        have hvo:=(hall0 (ops[i]) (by rw [← hget i him];exact List.getElem_mem _)).1
        have hlk:∀ t∈XS ops ops[i],F1 t=Fi t:=fun t ht=>by
          by_cases c:∃ (j:Nat) (hj:j<m),(ops[j]'(by omega)).dst=some t
          · obtain ⟨j,hj,he⟩:=c
            have hdp:=pure_dep hp him ho ht hj (List.getElem?_eq_getElem (by omega)) he
            rw [hi.fact j _ t hj (haft j hdp.1) (List.getElem?_eq_getElem (by omega)) he]
            exact (b2 t j (by omega) hdp.2 (by rw [hget j hj];exact he)).symm
          · rw [hi.free t (fun j oj hj _ hoj e=>c ⟨j,hj,by rw [List.getElem?_eq_getElem (by omega)] at hoj;cases hoj;exact e⟩)]
            refine (b1 t fun j hj hji e=>?_).symm
            rw [hlen] at hj
            exact c ⟨j,hj,by rw [← hget j hj];exact e⟩
        have hout:=out_agree hvo hv hlk
        have next:PuInv ops m F Fe w0 (listed.setIfInBounds i true) (HU F1 ops[i].dst v) w1:=by
          cases hdi:ops[i].dst with
          | none=>exact absurd hdi (hall0 (ops[i]) (by rw [← hget i him];exact List.getElem_mem _)).2
          | some d=>
            refine ⟨hi.world,fun j hj q hq=>?_,fun j oj d' hjm hj hoj hd'=>?_,fun t ht=>?_⟩
            · rcases hset j hj with rfl|hj
              · exact hmono q (haft q hq)
              · exact hmono q (hi.down j hj q hq)
            · show GI F1 d v d'=Fe d'
              by_cases hji:j=i
              · subst hji
                rw [ho] at hoj;cases hoj
                rw [hdi] at hd';cases hd'
                rw [HA];exact (hve d hdi).symm
              · have hjl:listed[j]? = some true:=(hset j hj).resolve_left hji
                have hne:d'≠d:=fun e=>by
                  subst e
                  exact hdist j i oj ops[i] hjm him hji hoj ho (by rw [hd'];simp) (by rw [hd',hdi])
                rw [HV _ _ _ hne]
                exact hi.fact j oj d' hjm hjl hoj hd'
            · have hne:t≠d:=fun e=>by
                subst e
                refine ht i ops[i] him ?_ ho hdi
                have:i<listed.size:=by omega
                simp [this]
              show GI F1 d v t=F t
              rw [HV _ _ _ hne]
              exact hi.free t (fun j oj hj hl hoj=>ht j oj hj (hmono j hl) hoj)
        refine MA (K:=fun F2 w2=>PuInv ops m F Fe w0 (listed.setIfInBounds i true) F2 w2) hok ho (fun F2 w2 hK=>ih _ F2 w2 (by simpa using hsz) (by have:=HZ hil hsz hnl;omega) hno' hK) (fun hw=>?_) (fun hw=>?_)
        · rcases hout with ⟨_,h1⟩|⟨h1,_⟩
          · unfold DY
            have ew:=hi.world
            subst ew
            rw [h1]
            exact next
          · rw [hw] at h1;cases h1
        · rcases hout with ⟨h1,_⟩|⟨_,h1⟩
          · rw [hw] at h1;cases h1
          · rw [← h1];exact next
theorem FJ {id:Nat} {ops:List Oper} {F:Fr} {w:World} (m:Nat) (pre tl:List Oper) (hm:P.follows .mixedOrders=true) (hok:ops.all (PI n ops)=true) (hd:drawOkC ops m=true) (hp:TB ops m=true) (hlen:Nat.ble m ops.length=true) (hpre:ops.take m=pre) (htl:ops.drop m=tl)
    (h:∀ w1,Keep [] w w1→WP P ops w1 (fun F1=>WL false P ops Q tl F1 w1) pre F w1):CW P (ro:=none) n (.region id ops.toArray true) Q F w:=by
  have hseq:DG ops ((List.range ops.length).drop m)=ops.drop m:=by
    unfold DG
    have:∀ (l:List Oper) (k:Nat),k≤l.length→((List.range l.length).drop k).filterMap (l[·]?)=l.drop k:=by
      intro l k hk
      induction hq:l.length - k generalizing k with
      | zero=>rw [List.drop_of_length_le (by simp;omega),List.drop_of_length_le (by omega)];rfl
      | succ q ih=>
        have hlt:k<l.length:=by omega
        rw [List.drop_eq_getElem_cons (by simpa using hlt),List.filterMap_cons]
        simp only [List.getElem_range,List.getElem?_eq_getElem hlt]
        rw [ih (k+1) (by omega) (by omega),← List.drop_eq_getElem_cons hlt]
    exact this ops m (Nat.le_of_ble_eq_true hlen)
  subst hpre;subst htl
  have hv:(ops.take m).all (fun o=>vOp o.op)=true:=by
    unfold TB at hp
    simp only [Bool.and_eq_true] at hp
    exact List.all_eq_true.2 fun o ho=>by have:=List.all_eq_true.1 hp.1 o ho;simp only [Bool.and_eq_true] at this;exact this.1
  obtain ⟨Fe,h1,h2⟩:=(h w.drew (Keep.drew [] w)).run _ _ hv
  refine wpIn_wide.2 (wp_region_any hm ?_)
  rw [show ({ w with drawn:=w.drawn+1 }:World)=w.drew from rfl,List.size_toArray]
  refine draw_runP hd hok hp h1 (by rw [hseq];exact h2) ops.length _ F w.drew (by simp) ?_ (fun j _=>?_) ⟨rfl,fun i hi=>?_,fun i o d _ hi=>?_,fun _ _=>rfl⟩
  · unfold OL;exact Nat.le_trans (List.countP_le_length) (by simp)
  all_goals simp_all [Array.getElem?_replicate]
end
end Go.Fw
namespace Go.Proofs.Ytjgfokolnkhafaa
open Go.Fw Go.RowKit
theorem OV:EE Try.prog 3=some 1:=by kernel_rfl
theorem z_3:IC Try.prog 3=some (.int .i64 0):=by kernel_rfl
theorem i_3:(Try.prog.info? 3).map (fun i=>(i.zero,i.size,i.bytes))=some (some (.int .i64 0),1,8):=by kernel_rfl
theorem z_4:IC Try.prog 4=some (.bool false):=by kernel_rfl
theorem GK:EE Try.prog 5=some 1:=by kernel_rfl
theorem VF:IC Try.prog 5=some (.int .u8 0):=by kernel_rfl
theorem RI:(Try.prog.info? 5).map (fun i=>(i.zero,i.size,i.bytes))=some (some (.int .u8 0),1,1):=by kernel_rfl
theorem s_22:EE Try.prog 22=some 1:=by kernel_rfl
theorem s_23:EE Try.prog 23=some 1:=by kernel_rfl
theorem z_23:IC Try.prog 23=some (.slice none 0 0):=by kernel_rfl
theorem i_23:(Try.prog.info? 23).map (fun i=>(i.zero,i.size,i.bytes))=some (some (.slice none 0 0),1,24):=by kernel_rfl
theorem s_26:EE Try.prog 26=some 1:=by kernel_rfl
theorem BR:EE Try.prog 28=some 5:=by kernel_rfl
theorem NN:IC Try.prog 28=some (.agg #[.int .i64 0, .int .i64 0, .int .i64 0, .slice none 0 0, .slice none 0 0]):=by kernel_rfl
theorem TM:OB Try.prog 28=some [(0,1),(1,1),(2,1),(3,1),(4,1)]:=by kernel_rfl
theorem MR:EJ Try.prog 28 0=some 0:=by kernel_rfl
theorem OQ:EJ Try.prog 28 1=some 1:=by kernel_rfl
theorem f_28_2:EJ Try.prog 28 2=some 2:=by kernel_rfl
theorem PK:EJ Try.prog 28 3=some 3:=by kernel_rfl
theorem FD:EJ Try.prog 28 4=some 4:=by kernel_rfl
theorem TE:EE Try.prog 29=some 1:=by kernel_rfl
theorem z_29:IC Try.prog 29=some (.int .i64 0):=by kernel_rfl
theorem s_32:EE Try.prog 32=some 1:=by kernel_rfl
theorem z_32:IC Try.prog 32=some (.slice none 0 0):=by kernel_rfl
theorem IE:EE Try.prog 68=some 5:=by kernel_rfl
theorem OW:IC Try.prog 68=some (.agg #[.int .i64 0, .int .i64 0, .int .i64 0, .slice none 0 0, .slice none 0 0]):=by kernel_rfl
theorem XC:(Try.prog.info? 68).map (fun i=>(i.zero,i.size,i.bytes))=some (some (.agg #[.int .i64 0, .int .i64 0, .int .i64 0, .slice none 0 0, .slice none 0 0]),5,72):=by kernel_rfl
theorem pl_68:OB Try.prog 68=some [(0,1),(1,1),(2,1),(3,1),(4,1)]:=by kernel_rfl
theorem f_68_0:EJ Try.prog 68 0=some 0:=by kernel_rfl
theorem QX:EJ Try.prog 68 1=some 1:=by kernel_rfl
theorem MV:EJ Try.prog 68 2=some 2:=by kernel_rfl
theorem SZ:EJ Try.prog 68 3=some 3:=by kernel_rfl
theorem f_68_4:EJ Try.prog 68 4=some 4:=by kernel_rfl
theorem CZ:EE Try.prog 70=some 5:=by kernel_rfl
theorem KU:IC Try.prog 70=some (.agg #[.int .i64 0, .int .i64 0, .int .i64 0, .int .i64 0, .slice none 0 0]):=by kernel_rfl
theorem i_70:(Try.prog.info? 70).map (fun i=>(i.zero,i.size,i.bytes))=some (some (.agg #[.int .i64 0, .int .i64 0, .int .i64 0, .int .i64 0, .slice none 0 0]),5,56):=by kernel_rfl
theorem pl_70:OB Try.prog 70=some [(0,1),(1,1),(2,1),(3,1),(4,1)]:=by kernel_rfl
theorem HD:EJ Try.prog 70 0=some 0:=by kernel_rfl
theorem KJ:EJ Try.prog 70 1=some 1:=by kernel_rfl
theorem HK:EJ Try.prog 70 2=some 2:=by kernel_rfl
theorem HF:EJ Try.prog 70 3=some 3:=by kernel_rfl
theorem EP:EJ Try.prog 70 4=some 4:=by kernel_rfl
theorem s_83:EE Try.prog 83=some 1:=by kernel_rfl
theorem z_83:IC Try.prog 83=some (.slice none 0 0):=by kernel_rfl
theorem z_113:IC Try.prog 113=some (.agg #[.int .i64 0, .int .i64 0, .int .i64 0, .slice none 0 0, .slice none 0 0]):=by kernel_rfl
theorem pl_113:OB Try.prog 113=some [(0,5)]:=by kernel_rfl
theorem IK:EJ Try.prog 113 0=some 0:=by kernel_rfl
theorem s_125:EE Try.prog 125=some 1:=by kernel_rfl
theorem SD:IC Try.prog 125=some (.agg #[.int .i64 0]):=by kernel_rfl
theorem OZ:OB Try.prog 125=some [(0,1)]:=by kernel_rfl
theorem f_125_0:EJ Try.prog 125 0=some 0:=by kernel_rfl
theorem s_132:EE Try.prog 132=some 1:=by kernel_rfl
theorem z_132:IC Try.prog 132=some (.map none):=by kernel_rfl
theorem s_134:EE Try.prog 134=some 8:=by kernel_rfl
theorem z_134:IC Try.prog 134=some (.agg #[.int .u8 0, .int .u8 0, .int .u8 0, .int .u8 0, .int .u8 0, .int .u8 0, .int .u8 0, .int .u8 0]):=by kernel_rfl
theorem enter_10 (xs:Array Value) (w:World):(callFunc 10 xs).run Try.prog w = .ok (.enter 10 xs) w:=AR Try.func10 (by kernel_rfl) rfl xs w
theorem RF (xs:Array Value) (w:World):(callFunc 11 xs).run Try.prog w = .ok (.enter 11 xs) w:=AR Try.func11 (by kernel_rfl) rfl xs w
theorem RQ (xs:Array Value) (w:World):(callFunc 14 xs).run Try.prog w = .ok (.enter 14 xs) w:=AR Try.func14 (by kernel_rfl) rfl xs w
theorem enter_15 (xs:Array Value) (w:World):(callFunc 15 xs).run Try.prog w = .ok (.enter 15 xs) w:=AR Try.func15 (by kernel_rfl) rfl xs w
theorem VB (xs:Array Value) (w:World):(callFunc 16 xs).run Try.prog w = .ok (.enter 16 xs) w:=AR Try.func16 (by kernel_rfl) rfl xs w
theorem WF (xs:Array Value) (w:World):(callFunc 18 xs).run Try.prog w = .ok (.enter 18 xs) w:=AR Try.func18 (by kernel_rfl) rfl xs w
theorem enter_19 (xs:Array Value) (w:World):(callFunc 19 xs).run Try.prog w = .ok (.enter 19 xs) w:=AR Try.func19 (by kernel_rfl) rfl xs w
theorem enter_20 (xs:Array Value) (w:World):(callFunc 20 xs).run Try.prog w = .ok (.enter 20 xs) w:=AR Try.func20 (by kernel_rfl) rfl xs w
theorem enter_21 (xs:Array Value) (w:World):(callFunc 21 xs).run Try.prog w = .ok (.enter 21 xs) w:=AR Try.func21 (by kernel_rfl) rfl xs w
theorem enter_22 (xs:Array Value) (w:World):(callFunc 22 xs).run Try.prog w = .ok (.enter 22 xs) w:=AR Try.func22 (by kernel_rfl) rfl xs w
theorem enter_24 (xs:Array Value) (w:World):(callFunc 24 xs).run Try.prog w = .ok (.enter 24 xs) w:=AR Try.func24 (by kernel_rfl) rfl xs w
theorem enter_28 (xs:Array Value) (w:World):(callFunc 28 xs).run Try.prog w = .ok (.enter 28 xs) w:=AR Try.func28 (by kernel_rfl) rfl xs w
theorem enter_30 (xs:Array Value) (w:World):(callFunc 30 xs).run Try.prog w = .ok (.enter 30 xs) w:=AR Try.func30 (by kernel_rfl) rfl xs w
theorem NC (xs:Array Value) (w:World):(callFunc 31 xs).run Try.prog w = .ok (.enter 31 xs) w:=AR Try.func31 (by kernel_rfl) rfl xs w
theorem VI (xs:Array Value) (w:World):(callFunc 32 xs).run Try.prog w = .ok (.enter 32 xs) w:=AR Try.func32 (by kernel_rfl) rfl xs w
theorem SC (xs:Array Value) (w:World):(callFunc 33 xs).run Try.prog w = .ok (.enter 33 xs) w:=AR Try.func33 (by kernel_rfl) rfl xs w
theorem enter_34 (xs:Array Value) (w:World):(callFunc 34 xs).run Try.prog w = .ok (.enter 34 xs) w:=AR Try.func34 (by kernel_rfl) rfl xs w
theorem enter_35 (xs:Array Value) (w:World):(callFunc 35 xs).run Try.prog w = .ok (.enter 35 xs) w:=AR Try.func35 (by kernel_rfl) rfl xs w
theorem enter_38 (xs:Array Value) (w:World):(callFunc 38 xs).run Try.prog w = .ok (.enter 38 xs) w:=AR Try.func38 (by kernel_rfl) rfl xs w
theorem UP (xs:Array Value) (w:World):(callFunc 39 xs).run Try.prog w = .ok (.enter 39 xs) w:=AR Try.func39 (by kernel_rfl) rfl xs w
theorem NI (xs:Array Value) (w:World):(callFunc 40 xs).run Try.prog w = .ok (.enter 40 xs) w:=AR Try.func40 (by kernel_rfl) rfl xs w
theorem enter_41 (xs:Array Value) (w:World):(callFunc 41 xs).run Try.prog w = .ok (.enter 41 xs) w:=AR Try.func41 (by kernel_rfl) rfl xs w
theorem enter_42 (xs:Array Value) (w:World):(callFunc 42 xs).run Try.prog w = .ok (.enter 42 xs) w:=AR Try.func42 (by kernel_rfl) rfl xs w
theorem enter_43 (xs:Array Value) (w:World):(callFunc 43 xs).run Try.prog w = .ok (.enter 43 xs) w:=AR Try.func43 (by kernel_rfl) rfl xs w
theorem enter_44 (xs:Array Value) (w:World):(callFunc 44 xs).run Try.prog w = .ok (.enter 44 xs) w:=AR Try.func44 (by kernel_rfl) rfl xs w
theorem enter_45 (xs:Array Value) (w:World):(callFunc 45 xs).run Try.prog w = .ok (.enter 45 xs) w:=AR Try.func45 (by kernel_rfl) rfl xs w
theorem enter_46 (xs:Array Value) (w:World):(callFunc 46 xs).run Try.prog w = .ok (.enter 46 xs) w:=AR Try.func46 (by kernel_rfl) rfl xs w
theorem WE (xs:Array Value) (w:World):(callFunc 47 xs).run Try.prog w = .ok (.enter 47 xs) w:=AR Try.func47 (by kernel_rfl) rfl xs w
theorem enter_48 (xs:Array Value) (w:World):(callFunc 48 xs).run Try.prog w = .ok (.enter 48 xs) w:=AR Try.func48 (by kernel_rfl) rfl xs w
theorem PB (xs:Array Value) (w:World):(callFunc 49 xs).run Try.prog w = .ok (.enter 49 xs) w:=AR Try.func49 (by kernel_rfl) rfl xs w
theorem enter_50 (xs:Array Value) (w:World):(callFunc 50 xs).run Try.prog w = .ok (.enter 50 xs) w:=AR Try.func50 (by kernel_rfl) rfl xs w
theorem WC (xs:Array Value) (w:World):(callFunc 51 xs).run Try.prog w = .ok (.enter 51 xs) w:=AR Try.func51 (by kernel_rfl) rfl xs w
theorem enter_53 (xs:Array Value) (w:World):(callFunc 53 xs).run Try.prog w = .ok (.enter 53 xs) w:=AR Try.func53 (by kernel_rfl) rfl xs w
theorem enter_54 (xs:Array Value) (w:World):(callFunc 54 xs).run Try.prog w = .ok (.enter 54 xs) w:=AR Try.func54 (by kernel_rfl) rfl xs w
theorem enter_55 (xs:Array Value) (w:World):(callFunc 55 xs).run Try.prog w = .ok (.enter 55 xs) w:=AR Try.func55 (by kernel_rfl) rfl xs w
theorem enter_56 (xs:Array Value) (w:World):(callFunc 56 xs).run Try.prog w = .ok (.enter 56 xs) w:=AR Try.func56 (by kernel_rfl) rfl xs w
theorem WM (xs:Array Value) (w:World):(callFunc 57 xs).run Try.prog w = .ok (.enter 57 xs) w:=AR Try.func57 (by kernel_rfl) rfl xs w
theorem enter_58 (xs:Array Value) (w:World):(callFunc 58 xs).run Try.prog w = .ok (.enter 58 xs) w:=AR Try.func58 (by kernel_rfl) rfl xs w
theorem enter_59 (xs:Array Value) (w:World):(callFunc 59 xs).run Try.prog w = .ok (.enter 59 xs) w:=AR Try.func59 (by kernel_rfl) rfl xs w
theorem enter_60 (xs:Array Value) (w:World):(callFunc 60 xs).run Try.prog w = .ok (.enter 60 xs) w:=AR Try.func60 (by kernel_rfl) rfl xs w
theorem enter_62 (xs:Array Value) (w:World):(callFunc 62 xs).run Try.prog w = .ok (.enter 62 xs) w:=AR Try.func62 (by kernel_rfl) rfl xs w
theorem enter_63 (xs:Array Value) (w:World):(callFunc 63 xs).run Try.prog w = .ok (.enter 63 xs) w:=AR Try.func63 (by kernel_rfl) rfl xs w
theorem enter_64 (xs:Array Value) (w:World):(callFunc 64 xs).run Try.prog w = .ok (.enter 64 xs) w:=AR Try.func64 (by kernel_rfl) rfl xs w
theorem NH (xs:Array Value) (w:World):(callFunc 65 xs).run Try.prog w = .ok (.enter 65 xs) w:=AR Try.func65 (by kernel_rfl) rfl xs w
theorem enter_66 (xs:Array Value) (w:World):(callFunc 66 xs).run Try.prog w = .ok (.enter 66 xs) w:=AR Try.func66 (by kernel_rfl) rfl xs w
theorem ND (xs:Array Value) (w:World):(callFunc 67 xs).run Try.prog w = .ok (.enter 67 xs) w:=AR Try.func67 (by kernel_rfl) rfl xs w
theorem enter_68 (xs:Array Value) (w:World):(callFunc 68 xs).run Try.prog w = .ok (.enter 68 xs) w:=AR Try.func68 (by kernel_rfl) rfl xs w
theorem enter_69 (xs:Array Value) (w:World):(callFunc 69 xs).run Try.prog w = .ok (.enter 69 xs) w:=AR Try.func69 (by kernel_rfl) rfl xs w
theorem enter_70 (xs:Array Value) (w:World):(callFunc 70 xs).run Try.prog w = .ok (.enter 70 xs) w:=AR Try.func70 (by kernel_rfl) rfl xs w
theorem enter_71 (xs:Array Value) (w:World):(callFunc 71 xs).run Try.prog w = .ok (.enter 71 xs) w:=AR Try.func71 (by kernel_rfl) rfl xs w
theorem KV (xs:Array Value) (w:World):(callFunc 72 xs).run Try.prog w = .ok (.enter 72 xs) w:=AR Try.func72 (by kernel_rfl) rfl xs w
theorem enter_73 (xs:Array Value) (w:World):(callFunc 73 xs).run Try.prog w = .ok (.enter 73 xs) w:=AR Try.func73 (by kernel_rfl) rfl xs w
theorem enter_74 (xs:Array Value) (w:World):(callFunc 74 xs).run Try.prog w = .ok (.enter 74 xs) w:=AR Try.func74 (by kernel_rfl) rfl xs w
theorem enter_75 (xs:Array Value) (w:World):(callFunc 75 xs).run Try.prog w = .ok (.enter 75 xs) w:=AR Try.func75 (by kernel_rfl) rfl xs w
theorem enter_76 (xs:Array Value) (w:World):(callFunc 76 xs).run Try.prog w = .ok (.enter 76 xs) w:=AR Try.func76 (by kernel_rfl) rfl xs w
theorem enter_81 (xs:Array Value) (w:World):(callFunc 81 xs).run Try.prog w = .ok (.enter 81 xs) w:=AR Try.func81 (by kernel_rfl) rfl xs w
theorem enter_82 (xs:Array Value) (w:World):(callFunc 82 xs).run Try.prog w = .ok (.enter 82 xs) w:=AR Try.func82 (by kernel_rfl) rfl xs w
theorem enter_83 (xs:Array Value) (w:World):(callFunc 83 xs).run Try.prog w = .ok (.enter 83 xs) w:=AR Try.func83 (by kernel_rfl) rfl xs w
theorem enter_84 (xs:Array Value) (w:World):(callFunc 84 xs).run Try.prog w = .ok (.enter 84 xs) w:=AR Try.func84 (by kernel_rfl) rfl xs w
theorem enter_85 (xs:Array Value) (w:World):(callFunc 85 xs).run Try.prog w = .ok (.enter 85 xs) w:=AR Try.func85 (by kernel_rfl) rfl xs w
theorem enter_86 (xs:Array Value) (w:World):(callFunc 86 xs).run Try.prog w = .ok (.enter 86 xs) w:=AR Try.func86 (by kernel_rfl) rfl xs w
theorem enter_87 (xs:Array Value) (w:World):(callFunc 87 xs).run Try.prog w = .ok (.enter 87 xs) w:=AR Try.func87 (by kernel_rfl) rfl xs w
theorem enter_88 (xs:Array Value) (w:World):(callFunc 88 xs).run Try.prog w = .ok (.enter 88 xs) w:=AR Try.func88 (by kernel_rfl) rfl xs w
theorem enter_89 (xs:Array Value) (w:World):(callFunc 89 xs).run Try.prog w = .ok (.enter 89 xs) w:=AR Try.func89 (by kernel_rfl) rfl xs w
theorem enter_90 (xs:Array Value) (w:World):(callFunc 90 xs).run Try.prog w = .ok (.enter 90 xs) w:=AR Try.func90 (by kernel_rfl) rfl xs w
theorem enter_91 (xs:Array Value) (w:World):(callFunc 91 xs).run Try.prog w = .ok (.enter 91 xs) w:=AR Try.func91 (by kernel_rfl) rfl xs w
theorem enter_92 (xs:Array Value) (w:World):(callFunc 92 xs).run Try.prog w = .ok (.enter 92 xs) w:=AR Try.func92 (by kernel_rfl) rfl xs w
theorem NF (xs:Array Value) (w:World):(callFunc 93 xs).run Try.prog w = .ok (.enter 93 xs) w:=AR Try.func93 (by kernel_rfl) rfl xs w
theorem enter_94 (xs:Array Value) (w:World):(callFunc 94 xs).run Try.prog w = .ok (.enter 94 xs) w:=AR Try.func94 (by kernel_rfl) rfl xs w
theorem enter_95 (xs:Array Value) (w:World):(callFunc 95 xs).run Try.prog w = .ok (.enter 95 xs) w:=AR Try.func95 (by kernel_rfl) rfl xs w
theorem enter_96 (xs:Array Value) (w:World):(callFunc 96 xs).run Try.prog w = .ok (.enter 96 xs) w:=AR Try.func96 (by kernel_rfl) rfl xs w
theorem enter_97 (xs:Array Value) (w:World):(callFunc 97 xs).run Try.prog w = .ok (.enter 97 xs) w:=AR Try.func97 (by kernel_rfl) rfl xs w
theorem enter_98 (xs:Array Value) (w:World):(callFunc 98 xs).run Try.prog w = .ok (.enter 98 xs) w:=AR Try.func98 (by kernel_rfl) rfl xs w
theorem enter_99 (xs:Array Value) (w:World):(callFunc 99 xs).run Try.prog w = .ok (.enter 99 xs) w:=AR Try.func99 (by kernel_rfl) rfl xs w
theorem enter_100 (xs:Array Value) (w:World):(callFunc 100 xs).run Try.prog w = .ok (.enter 100 xs) w:=AR Try.func100 (by kernel_rfl) rfl xs w
theorem enter_101 (xs:Array Value) (w:World):(callFunc 101 xs).run Try.prog w = .ok (.enter 101 xs) w:=AR Try.func101 (by kernel_rfl) rfl xs w
theorem enter_102 (xs:Array Value) (w:World):(callFunc 102 xs).run Try.prog w = .ok (.enter 102 xs) w:=AR Try.func102 (by kernel_rfl) rfl xs w
theorem GM (xs:Array Value) (w:World):(callFunc 103 xs).run Try.prog w = .ok (.enter 103 xs) w:=AR Try.func103 (by kernel_rfl) rfl xs w
theorem enter_104 (xs:Array Value) (w:World):(callFunc 104 xs).run Try.prog w = .ok (.enter 104 xs) w:=AR Try.func104 (by kernel_rfl) rfl xs w
theorem enter_105 (xs:Array Value) (w:World):(callFunc 105 xs).run Try.prog w = .ok (.enter 105 xs) w:=AR Try.func105 (by kernel_rfl) rfl xs w
theorem YA (xs:Array Value) (w:World):(callFunc 106 xs).run Try.prog w = .ok (.enter 106 xs) w:=AR Try.func106 (by kernel_rfl) rfl xs w
theorem enter_107 (xs:Array Value) (w:World):(callFunc 107 xs).run Try.prog w = .ok (.enter 107 xs) w:=AR Try.func107 (by kernel_rfl) rfl xs w
theorem enter_108 (xs:Array Value) (w:World):(callFunc 108 xs).run Try.prog w = .ok (.enter 108 xs) w:=AR Try.func108 (by kernel_rfl) rfl xs w
theorem enter_109 (xs:Array Value) (w:World):(callFunc 109 xs).run Try.prog w = .ok (.enter 109 xs) w:=AR Try.func109 (by kernel_rfl) rfl xs w
theorem enter_110 (xs:Array Value) (w:World):(callFunc 110 xs).run Try.prog w = .ok (.enter 110 xs) w:=AR Try.func110 (by kernel_rfl) rfl xs w
theorem enter_111 (xs:Array Value) (w:World):(callFunc 111 xs).run Try.prog w = .ok (.enter 111 xs) w:=AR Try.func111 (by kernel_rfl) rfl xs w
theorem KH (xs:Array Value) (w:World):(callFunc 112 xs).run Try.prog w = .ok (.enter 112 xs) w:=AR Try.func112 (by kernel_rfl) rfl xs w
theorem enter_113 (xs:Array Value) (w:World):(callFunc 113 xs).run Try.prog w = .ok (.enter 113 xs) w:=AR Try.func113 (by kernel_rfl) rfl xs w
theorem enter_114 (xs:Array Value) (w:World):(callFunc 114 xs).run Try.prog w = .ok (.enter 114 xs) w:=AR Try.func114 (by kernel_rfl) rfl xs w
theorem ov_115 (x y:Value) (w:World) (h:(Extern.SlicesOverlaps.overlaps #[22,22] #[4] #[x,y]).run Try.prog w = .ok (.bool false) w):(callFunc 115 #[x,y]).run Try.prog w = .ok (.value (.bool false)) w:=by
  rw [run_callFunc_extern Try.func115 (by kernel_rfl) (by kernel_rfl) (by kernel_rfl) (e:=Extern.SlicesOverlaps.overlaps #[22,22] #[4]) (by kernel_rfl),h];rfl
theorem enter_117 (xs:Array Value) (w:World):(callFunc 117 xs).run Try.prog w = .ok (.enter 117 xs) w:=AR Try.func117 (by kernel_rfl) rfl xs w
theorem enter_118 (xs:Array Value) (w:World):(callFunc 118 xs).run Try.prog w = .ok (.enter 118 xs) w:=AR Try.func118 (by kernel_rfl) rfl xs w
theorem enter_119 (xs:Array Value) (w:World):(callFunc 119 xs).run Try.prog w = .ok (.enter 119 xs) w:=AR Try.func119 (by kernel_rfl) rfl xs w
open Go.Fw Go.RowKit
set_option maxHeartbeats 4000000 in
set_option maxRecDepth 100000 in
theorem YC {O B:List Nat} {w0 w:World} (v u:Value) (l m:List Int) (i:Nat) (s0:St w0 O w B) (ho:ED Enc.int 3 w0.heap.size (B++O) w v l) (hu:ED Enc.int 3 w0.heap.size (B++O) w u m) (hB:∀ b,v.ownBlock=some b→b∈B) (d1:∀ b,u.ownBlock=some b→b∈B) (hne:∀ b,v.ownBlock=some b→u.ownBlock≠some b) (hm:0<m.length) (hi:i≤l.length) (hlen:(l.length+m.length)*8≤140737488355328) (c2:l.length+m.length≤maxLen):Calls Try.prog 106 [v,vI (i:Int),u].toArray w (fun e w'=>∃ (v':Value) (B':List Nat),e = .returned v'∧(∀ b,v'.ownBlock=some b→b∈B')∧(∀ b,v'.ownBlock=some b→v.ownBlock=some b∨w.heap.size≤b)∧(∀ b∈B,b∈B')∧St w0 O w' B'∧Mv B w B' w'∧Keep v.ownBlock.toList w w'∧ED Enc.int 3 w0.heap.size (B'++O) w' v' (l.take i++m++l.drop i)):= by
  have ms:Mv B w B w:=Mv.refl _ _
  have ks:Keep v.ownBlock.toList w w:=Keep.refl _ _
  have g1:=c2
  simp only [maxLen] at g1
  refine CG 95 Try.func106 rfl rfl oT (fun F0=>AF (AB kR (AA (AD (nS) rfl (AG (AC (AF (AB kR (AA (AE (v) rfl (AA (AE (vI (i:Int)) rfl (AA (VW U22_ OV i .i64 (i:Int) rfl rfl rfl oM ho fun g9 g2=>(AG (AC (AF (AB kR (AA (AE (u) rfl (AA (SO U22_ rfl hu (AA (AD (vI (m.length:Int)) rfl (AG (AC (AF (AF (AB kR (AA (AE (vI (m.length:Int)) rfl (AA (GO .i64 (m.length:Int) (0:Int) rfl rfl (AG (AC (?_))))))))))))))))))))))))))))))))))))
  have d2:((m.length:Int) == (0:Int))=false:=(by rw [beq_eq_false_iff_ne];omega)
  rw [d2]
  refine AJ false rfl rfl (fun h=>by cases h) (fun _=>AO (AC (AF (AB kR (AA (AE (v) rfl (AA (SO U22_ rfl ho (AA (AD (vI (l.length:Int)) rfl (AG (AC (AF (AF (AB kR (AA (AE (vI (i:Int)) rfl (AA (AE (vI (l.length:Int)) rfl (AA (GO .i64 (i:Int) (l.length:Int) rfl rfl (AG (AC (AJ ((i:Int) == (l.length:Int)) rfl rfl (fun a7=>?_) (fun a7=>?_)))))))))))))))))))))))))
  · have g3:(i:Int)=(l.length:Int):=by simpa using a7
    refine AF (AB kR (AA (AE (v) rfl (AA (AE (u) rfl (AA (o_appendOO (E:=Enc.int) (l:=l) (m:=m) U22_ i_3 rfl (by decide) rfl rfl ho hu  hB hlen c2 s0 fun b2 h0 c3 d3 b8 b0 e2 c4 c5 b9=>(?_))))))))
    have g4:∀ b,u.ownBlock=some b→b2.ownBlock≠some b:=fun b hb e=>by rcases b8 with e1|e1 <;> rw [e1] at e <;> first|(cases e;have:=(hu.lt _ hb).2;omega)|(exact absurd e ((fun b hb e=>hne b e hb) b hb))
    have d1:∀ b,u.ownBlock=some b→b∈c3:=fun b hb=>b0 b (d1 b hb)
    have hu:=hu.mv c4 c5 (fun b hb=>by simp only [Option.mem_toList];exact (fun b hb e=>hne b e hb) b hb)
    have ms:=ms.trans c4
    have ks:=ks.step0 c5 (fun b hb=>by exact .inl hb)
    refine AA (AD (b2) rfl (AG (AC (AM (AK (AS rfl (CN rfl rfl rfl) (?_)))))))
    rw [show l++m=l.take i++m++l.drop i from by rw [show i=l.length from by omega,List.take_length,List.drop_length,List.append_nil]] at b9
    exact ⟨b2,c3,rfl,d3,fun b hb=>by rcases b8 with e1|e1 <;> rw [e1] at hb;exact .inl hb;cases hb;exact .inr (Nat.le_refl _),b0,e2,ms,ks,b9⟩
  have g5:(i:Int)≠(l.length:Int):=by simpa using a7
  obtain ⟨g,c,cur,css,rfl,hgb,bg,hnc,hcm,hcl,hcss,hrd⟩:=own_open ho oM
  obtain ⟨gu,cu,curu,cssu,rfl,hgub,bgu,hncu,hcmu,hclu,hcssu,b3⟩:=own_open hu oM
  have hgB:g∈B:=hB g rfl
  have hguB:gu∈B:=d1 gu rfl
  have hgg:g≠gu:=fun e=>hne g rfl (by rw [e];rfl)
  have hns:l.length*Enc.int.size≤cur.length:=by rw [hcl];exact Nat.mul_le_mul_right _ hnc
  have c6:m.length*Enc.int.size≤curu.length:=by rw [hclu];exact Nat.mul_le_mul_right _ hncu
  have one1:=ones_drop hrd hcss hi hns
  have one2:=ones_all b3 hcssu
  have hfm:=b3.flen
  refine AO (AC (AF (AF (AB kR (AA (AE (vI (l.length:Int)) rfl (AA (AE (vI (m.length:Int)) rfl (AA (DC .i64 (l.length:Int) (m.length:Int) (((l.length+m.length:Nat):Int)) rfl rfl (FQ oM oM) (AA (AE (vS (some ⟨g,0,none⟩) l.length c) rfl (AA (o_cap _ _ c U22_ rfl (AA (GQ .i64 ((l.length+m.length:Nat):Int) ((c:Nat):Int) rfl rfl (AG (AC (AJ (decide (((c:Nat):Int)<((l.length+m.length:Nat):Int))) rfl rfl (fun a8=>?_) (fun a8=>?_))))))))))))))))))))
  · have g6:((c:Nat):Int)<((l.length+m.length:Nat):Int):=by simpa using a8
    refine AF (AB kR (AA (AE (vS (some ⟨g,0,none⟩) l.length c) rfl (AA (AE (vI (i:Int)) rfl (AA (XJ (size:=Enc.int.size) U22_ OV g 0 l.length c i .i64 (i:Int) rfl rfl rfl oM (AA (AE (vI (l.length:Int)) rfl (AA (AE (vI (m.length:Int)) rfl (AA (DC .i64 (l.length:Int) (m.length:Int) (((l.length+m.length:Nat):Int)) rfl rfl (FQ oM oM) (AA (AE (vI (i:Int)) rfl (AA (IA .i64 ((l.length+m.length:Nat):Int) (i:Int) ((((l.length+m.length) - i:Nat):Int)) rfl rfl (FQ oM oM) (AA (o_appendZ (size:=Enc.int.size) (i:=i) ((l.length+m.length) - i) (l.length+m.length) (((l.length+m.length) - i:Nat):Int) oM U22_ U3_ i_3 rfl (by decide) rfl rfl rfl bg (by rw [hcl];exact Nat.mul_le_mul_right _ oM) oM oM hlen c2 s0 fun a0 a1 b1 h1 e3 d4 e4 e5 b4 d5 a2 g7 d6 d7=>(?_))))))))))))))))))))
    have c0:g≠a0:=by have:=bg.lt;omega
    have c1:gu≠a0:=by have:=bgu.lt;omega
    have b5:w.heap.size≤a0:=by have:=ks.size;omega
    clear e3
    have bg:=bg.keep b4 (by simp)
    have bgu:=bgu.keep b4 (by simp)
    have ms:=ms.trans e5
    have ks:=ks.step0 b4 (fun b hb=>by (simp at hb;done))
    refine AA (AD (vS (some ⟨a0,0,none⟩) (l.length+m.length) a1) rfl (AG (AC (AF (AB kR (AA (AE (vS (some ⟨a0,0,none⟩) (l.length+m.length) a1) rfl (AA (AE (vI (i:Int)) rfl (AA (KL (size:=Enc.int.size) U22_ OV a0 (l.length+m.length) a1 i .i64 (i:Int) rfl rfl rfl oM oM oM (AA (AE (vS (some ⟨gu,0,none⟩) m.length cu) rfl (AA (PW (size:=Enc.int.size) m.length U22_ OV rfl rfl d5 bgu (by repeat (constructor)) (by simp only [Nat.min_def];split <;> omega) (by rw [a2,← Nat.add_mul];exact Nat.mul_le_mul_right _ oM) (by rw [Nat.zero_add];exact c6) one2 e4 fun e6 e7 e8 b6 a9=>(?_))))))))))))))))
    have a5:(HG b1 (i*Enc.int.size) ((curu.drop 0).take (m.length*Enc.int.size))).length=a1*Enc.int.size:=by rw [NW (by rw [List.length_take,List.length_drop,Nat.min_eq_left (by have h2:=((by rw [Nat.zero_add];exact c6):0+m.length*Enc.int.size≤curu.length);omega)];exact (by rw [a2,← Nat.add_mul];exact Nat.mul_le_mul_right _ oM))];exact a2
    have bg:=bg.keep b6 (BC c0)
    have bgu:=bgu.keep b6 (BC c1)
    have ms:=ms.trans e8
    have ks:=ks.step0 b6 (fun b hb=>by (simp only [List.mem_singleton] at hb;subst hb;(right;omega)))
    refine AG (AC (AF (FJ 8 _ _ kR kR kR kR kR rfl rfl fun e9 a3=>?_)))
    have f0:=e7.call a3
    have f1:Mv (a0 :: B) e6 (a0 :: B) e9:=Mv.of_keep a3
    have bg:=bg.keep a3 (by simp)
    have bgu:=bgu.keep a3 (by simp)
    have a9:=a9.keep a3 (by simp)
    have ms:=ms.trans f1
    have ks:=ks.step0 a3 (fun b hb=>by (simp at hb;done))
    refine BM (AE (vS (some ⟨a0,0,none⟩) (l.length+m.length) a1) rfl (BM (AE (vI (i:Int)) rfl (BM (AE (vI (m.length:Int)) rfl (BM (DC .i64 (i:Int) (m.length:Int) (((i+m.length:Nat):Int)) rfl rfl (FQ oM oM) (BM (KL (size:=Enc.int.size) U22_ OV a0 (l.length+m.length) a1 (i+m.length) .i64 ((i+m.length:Nat):Int) rfl rfl rfl oM oM oM (BM (AE (vS (some ⟨g,0,none⟩) l.length c) rfl (BM (AE (vI (i:Int)) rfl (BM (KL (size:=Enc.int.size) U22_ OV g l.length c i .i64 (i:Int) rfl rfl rfl oM oM oM (EQ (AA (PW (size:=Enc.int.size) (l.length - i) U22_ OV rfl rfl a9 bg (by repeat (constructor)) (by simp only [Nat.min_def];split <;> omega) (by rw [a5,← Nat.add_mul];exact Nat.mul_le_mul_right _ oM) (by rw [← Nat.add_mul];exact Nat.le_trans (Nat.mul_le_mul_right _ oM) hns) one1 f0 fun h3 f2 f3 b7 d8=>(?_)))))))))))))))))))
    have c9:(HG (HG b1 (i*Enc.int.size) ((curu.drop 0).take (m.length*Enc.int.size))) ((i+m.length)*Enc.int.size) ((cur.drop (i*Enc.int.size)).take ((l.length - i)*Enc.int.size))).length=a1*Enc.int.size:=by rw [NW (by rw [List.length_take,List.length_drop,Nat.min_eq_left (by have h2:=((by rw [← Nat.add_mul];exact Nat.le_trans (Nat.mul_le_mul_right _ oM) hns):(i*Enc.int.size)+(l.length - i)*Enc.int.size≤cur.length);omega)];exact (by rw [a5,← Nat.add_mul];exact Nat.mul_le_mul_right _ oM))];exact a5
    have bg:=bg.keep b7 (BC c0)
    have bgu:=bgu.keep b7 (BC c1)
    have ms:=ms.trans f3
    have ks:=ks.step0 b7 (fun b hb=>by (simp only [List.mem_singleton] at hb;subst hb;(right;omega)))
    refine AG (AC (AF (AB kR (AA (AE (vS (some ⟨a0,0,none⟩) (l.length+m.length) a1) rfl (AA (AD (vS (some ⟨a0,0,none⟩) (l.length+m.length) a1) rfl (AG (AC (AM (AK (AS rfl (CN rfl rfl rfl) (?_)))))))))))))
    exact ⟨_,(a0 :: B),rfl,fun b hb=>by cases hb;exact (by repeat (constructor)),fun b hb=>by cases hb;exact .inr b5,fun b hb=>List.mem_cons_of_mem _ hb,f2,ms,ks,ED.ins hrd b3 ms d8 d4 hi c9 oM d6 (tk_grow hcss hrd.lens hrd.1 hi hns hcssu hfm d7 (by rw [a2];exact Nat.mul_le_mul_right _ oM))⟩
  have g8:((l.length+m.length:Nat):Int)≤((c:Nat):Int):=by simpa using a8
  refine AO (AC (AF (AB kR (AA (AE (vS (some ⟨g,0,none⟩) l.length c) rfl (AA (AE (vI (l.length:Int)) rfl (AA (AE (vI (m.length:Int)) rfl (AA (DC .i64 (l.length:Int) (m.length:Int) (((l.length+m.length:Nat):Int)) rfl rfl (FQ oM oM) (AA (XJ (size:=Enc.int.size) U22_ OV g 0 l.length c (l.length+m.length) .i64 ((l.length+m.length:Nat):Int) rfl rfl rfl oM (AA (AD (vS (some ⟨g,0,none⟩) (l.length+m.length) c) rfl (AG (AC (AF (AF (AB kR (AA (AE (vS (some ⟨gu,0,none⟩) m.length cu) rfl (AA (AE (vS (some ⟨g,0,none⟩) (l.length+m.length) c) rfl (AA (AE (vI (i:Int)) rfl (AA (AE (vI (m.length:Int)) rfl (AA (DC .i64 (i:Int) (m.length:Int) (((i+m.length:Nat):Int)) rfl rfl (FQ oM oM) (AA (KL (size:=Enc.int.size) U22_ OV g (l.length+m.length) c (i+m.length) .i64 ((i+m.length:Nat):Int) rfl rfl rfl oM oM oM (AA (o_overlaps (size:=Enc.int.size) ov_115 U22_ OV rfl bgu bg (Ne.symm hgg) (by rw [hcl];exact Nat.mul_pos oM (by decide)) (AA (HP false rfl (AG (AC (AJ true rfl rfl (fun _=>AF (FJ 8 _ _ kR kR kR kR kR rfl rfl fun f4 a4=>?_)) (fun h=>by cases h))))))))))))))))))))))))))))))))))))))))
  have f5:=s0.call a4
  have f6:Mv B w B f4:=Mv.of_keep a4
  have bg:=bg.keep a4 (by simp)
  have bgu:=bgu.keep a4 (by simp)
  have ms:=ms.trans f6
  have ks:=ks.step0 a4 (fun b hb=>by (simp at hb;done))
  refine BM (AE (vS (some ⟨g,0,none⟩) (l.length+m.length) c) rfl (BM (AE (vI (i:Int)) rfl (BM (AE (vI (m.length:Int)) rfl (BM (DC .i64 (i:Int) (m.length:Int) (((i+m.length:Nat):Int)) rfl rfl (FQ oM oM) (BM (KL (size:=Enc.int.size) U22_ OV g (l.length+m.length) c (i+m.length) .i64 ((i+m.length:Nat):Int) rfl rfl rfl oM oM oM (BM (AE (vS (some ⟨g,0,none⟩) (l.length+m.length) c) rfl (BM (AE (vI (i:Int)) rfl (BM (KL (size:=Enc.int.size) U22_ OV g (l.length+m.length) c i .i64 (i:Int) rfl rfl rfl oM oM oM (EQ (AA (PW (size:=Enc.int.size) (l.length - i) U22_ OV rfl rfl bg bg (by repeat (assumption)) (by simp only [Nat.min_def];split <;> omega) (by rw [hcl,← Nat.add_mul];exact Nat.mul_le_mul_right _ oM) (by rw [← Nat.add_mul];exact Nat.le_trans (Nat.mul_le_mul_right _ oM) hns) one1 f5 fun h4 f7 f8 c7 d9=>(?_)))))))))))))))))))
  have a6:(HG cur ((i+m.length)*Enc.int.size) ((cur.drop (i*Enc.int.size)).take ((l.length - i)*Enc.int.size))).length=c*Enc.int.size:=by rw [NW (by rw [List.length_take,List.length_drop,Nat.min_eq_left (by have h2:=((by rw [← Nat.add_mul];exact Nat.le_trans (Nat.mul_le_mul_right _ oM) hns):(i*Enc.int.size)+(l.length - i)*Enc.int.size≤cur.length);omega)];exact (by rw [hcl,← Nat.add_mul];exact Nat.mul_le_mul_right _ oM))];exact hcl
  have bgu:=bgu.keep c7 (BC (Ne.symm hgg))
  have ms:=ms.trans f8
  have ks:=ks.step0 c7 (fun b hb=>by exact .inl hb)
  refine AG (AC (AF (AB kR (AA (AE (vS (some ⟨g,0,none⟩) (l.length+m.length) c) rfl (AA (AE (vI (i:Int)) rfl (AA (KL (size:=Enc.int.size) U22_ OV g (l.length+m.length) c i .i64 (i:Int) rfl rfl rfl oM oM oM (AA (AE (vS (some ⟨gu,0,none⟩) m.length cu) rfl (AA (PW (size:=Enc.int.size) m.length U22_ OV rfl rfl d9 bgu (by repeat (assumption)) (by simp only [Nat.min_def];split <;> omega) (by rw [a6,← Nat.add_mul];exact Nat.mul_le_mul_right _ oM) (by rw [Nat.zero_add];exact c6) one2 f7 fun h5 f9 g0 c8 e0=>(?_))))))))))))))
  have d0:(HG (HG cur ((i+m.length)*Enc.int.size) ((cur.drop (i*Enc.int.size)).take ((l.length - i)*Enc.int.size))) (i*Enc.int.size) ((curu.drop 0).take (m.length*Enc.int.size))).length=c*Enc.int.size:=by rw [NW (by rw [List.length_take,List.length_drop,Nat.min_eq_left (by have h2:=((by rw [Nat.zero_add];exact c6):0+m.length*Enc.int.size≤curu.length);omega)];exact (by rw [a6,← Nat.add_mul];exact Nat.mul_le_mul_right _ oM))];exact a6
  have bgu:=bgu.keep c8 (BC (Ne.symm hgg))
  have ms:=ms.trans g0
  have ks:=ks.step0 c8 (fun b hb=>by exact .inl hb)
  refine AG (AC (AF (AB kR (AA (AE (vS (some ⟨g,0,none⟩) (l.length+m.length) c) rfl (AA (AD (vS (some ⟨g,0,none⟩) (l.length+m.length) c) rfl (AG (AC (AM (AK (AS rfl (CN rfl rfl rfl) (?_)))))))))))))
  exact ⟨_,B,rfl,fun b hb=>by cases hb;exact (by repeat (assumption)),fun b hb=>by cases hb;exact .inl rfl,fun b hb=>hb,f9,ms,ks,ED.ins hrd b3 ms e0 hgb hi d0 oM hcm (tk_shift hcss hrd.lens hrd.1 hi (by rw [hcl];exact Nat.mul_le_mul_right _ oM) hcssu hfm)⟩
open Go.Fw
def MC (l:List Int) (k:Nat):Int:=if k=0 then -1 else l[k - 1]!
def LC (l:List Int) (k:Nat):Bool:=decide (l[k]!≤MC l k) || decide (4096≤l[k]!)
def KI (l:List Int):Bool:=EX (fun k=>if LC l k then some false else none) true 0 (l.length - 0)
def DA (d f:Int):Bool:=decide (f≤d) && decide (d<1024)
def FZ (r:Recovery):Bool:=
  if (decide (r.state<0) || decide (2<r.state)) || !KI r.approved then false
  else if r.state == 2 then ((r.vetoed.length:Int) == 1) && DA r.vetoed[0]! r.asked else (r.vetoed.length:Int) == 0
def HX (l:List Recovery) (k:Nat):Int:=if k=0 then 0 else l[k - 1]!.asked
def FP (l:List Recovery) (k:Nat):Bool:=
  ((l[k]!.no != (k:Int) || !DA l[k]!.asked (HX l k)) || !FZ l[k]!) || (l[k]!.state == 0 && decide ((k:Int)<(l.length:Int) - 1))
def ET (c:Circle):Bool:=
  (((((((decide (c.epoch<0) || decide (1048576<c.epoch)) || decide ((c.guardians.length:Int)<1)) || decide (8<(c.guardians.length:Int))) || !KI c.guardians) || decide (c.threshold<1)) || decide ((c.guardians.length:Int)<c.threshold)) || !DA c.wait 0) || decide (1024<(c.recs.length:Int))
def AQ (c:Circle):Int:=if ET c then 450 else EX (fun k=>if FP c.recs k then some 450 else none) 0 0 (c.recs.length - 0)
def EU:Circle:=⟨0,0,0,[],[]⟩
def MF (l:List Int) (t w:Int):Circle × Int:=if AQ ⟨0,t,w,l,[]⟩ != 0 then (EU,AQ ⟨0,t,w,l,[]⟩) else (⟨0,t,w,l,[]⟩,0)
def OS (c:Circle):Recovery:=if 0<c.recs.length then c.recs[c.recs.length - 1]! else ⟨0,0,1,[],[]⟩
def CJ (c:Circle) (day:Int):Circle × Int × Int:=
  if AQ c != 0 then (EU,0,AQ c) else if !DA day (OS c).asked then (EU,0,1) else if (OS c).state == 0 then (EU,0,451) else if (c.recs.length:Int) == 1024 then (EU,0,2)
  else (⟨c.epoch,c.threshold,c.wait,c.guardians,c.recs++[⟨(c.recs.length:Int),day,0,[],[]⟩]⟩,(c.recs.length:Int),0)
def CR (c:Circle) (no:Int) (f:Recovery→Except Int Recovery):Circle × Int:=
  if AQ c != 0 then (EU,AQ c) else if no<0∨(c.recs.length:Int)≤no then (EU,1)
  else match f c.recs[no.toNat]! with | .error e=>(EU,e) | .ok r=>(⟨c.epoch,c.threshold,c.wait,c.guardians,c.recs.set no.toNat r⟩,0)
def idxI (l:List Int) (x:Int):Int:=EX (fun k=>if x == l[k]! then some (k:Int) else none) (-1) 0 (l.length - 0)
def tw (l:List Int) (x:Int):Nat:=(l.takeWhile (fun y=>decide (y<x))).length
def WX (l:List Int) (x:Int):Bool:=decide (tw l x<l.length) && (l[tw l x]! == x)
def putIn (l:List Int) (x:Int):List Int:=l.take (tw l x)++[x]++l.drop (tw l x)
def JE (l g:List Int) (k:Nat):Nat:=((g.take k).filter (fun x=>l.contains x)).length
def MG (c:Circle) (r:Recovery):Bool:=decide (c.threshold≤(JE r.approved c.guardians c.guardians.length:Int))
def BS (c:Circle) (g:Int) (r:Recovery):Except Int Recovery:=
  if r.state == 2 then .error 452 else if r.state == 1 then .error 1 else if !(c.guardians.contains g) then .error 450 else if WX r.approved g then .ok r else .ok ⟨r.no,r.asked,r.state,putIn r.approved g,r.vetoed⟩
def CH (c:Circle) (day:Int) (r:Recovery):Except Int Recovery:=
  if r.state == 2 then .error 452 else if r.state == 1 then .error 1 else if !DA day 0 then .error 1 else if !MG c r then .error 450 else if decide (day<r.asked+c.wait) then .error 451 else .ok ⟨r.no,r.asked,1,r.approved,r.vetoed⟩
theorem scan_if {β:Type} {p:Nat→Bool} {d r:β} (hne:r≠d):∀ {m i:Nat},EX (fun k=>if p k then some r else none) d i m=d↔∀ k,i≤k→k<i+m→p k=false
  | 0,i=>by simp [EX];intro k h1 h2;omega
  | m+1,i=>by
    unfold EX
    cases hp:p i with
    | true=>
      simp only [if_true]
      refine ⟨fun h=>absurd h hne,fun h=>?_⟩
      have:=h i (Nat.le_refl _) (by omega)
      rw [hp] at this;cases this
    | false=>
      simp only [Bool.false_eq_true,if_false]
      rw [scan_if hne]
      refine ⟨fun h k h1 h2=>?_,fun h k h1 h2=>h k (by omega) (by omega)⟩
      by_cases hk:k=i
      · subst hk;exact hp
      · exact h k (by omega) (by omega)
theorem inc_iff (l:List Int):KI l=true↔∀ k,k<l.length→LC l k=false:=by
  unfold KI
  rw [scan_if (by simp)]
  exact ⟨fun h k hk=>h k (by omega) (by omega),fun h k _ hk=>h k (by omega)⟩
theorem VP {l:List Int} {k:Nat}:LC l k=false↔MC l k<l[k]!∧l[k]! < 4096:=by
  simp [LC]
theorem RA {l:List Int} (h:KI l=true):∀ p q,p<q→q<l.length→l[p]! < l[q]!:=by
  intro p q hpq hq
  induction q with
  | zero=>omega
  | succ q ih=>
    have h1:=(VP.1 ((inc_iff l).1 h (q+1) hq)).1
    simp only [MC,Nat.add_one_ne_zero,if_false,Nat.add_sub_cancel] at h1
    by_cases hp:p=q
    · subst hp;exact h1
    · have:=ih (by omega) (by omega);omega
theorem XO {l:List Int} (h:KI l=true):∀ q,q<l.length→0≤l[q]!∧l[q]! < 4096:=by
  intro q hq
  have h2:=(VP.1 ((inc_iff l).1 h q hq))
  refine ⟨?_,h2.2⟩
  have h0:=(VP.1 ((inc_iff l).1 h 0 (by omega))).1
  simp only [MC,if_true] at h0
  by_cases hq0:q=0
  · subst hq0;omega
  · have:=RA h 0 q (by omega) hq;omega
theorem inc_ge {l:List Int} (h:KI l=true):∀ q,q<l.length→(q:Int)≤l[q]!:=by
  intro q hq
  induction q with
  | zero=>exact (XO h 0 hq).1
  | succ q ih=>have:=ih (by omega);have:=RA h q (q+1) (by omega) hq;omega
theorem NX {l:List Int} (h:KI l=true):l.length≤4096:=by
  by_cases h0:l.length=0
  · omega
  · have h1:=inc_ge h (l.length - 1) (by omega)
    have h2:=(XO h (l.length - 1) (by omega)).2
    omega
theorem QF (c:Circle):AQ c=0↔ET c=false∧∀ k,k<c.recs.length→FP c.recs k=false:=by
  unfold AQ
  cases hh:ET c with
  | true=>simp
  | false=>
    simp only [Bool.false_eq_true,if_false,true_and]
    rw [scan_if (by decide)]
    exact ⟨fun h k hk=>h k (by omega) (by omega),fun h k _ hk=>h k (by omega)⟩
theorem GS {r:Recovery} (h:FZ r=true):0≤r.state∧r.state≤2∧KI r.approved=true:=by
  unfold FZ at h
  split at h
  · cases h
  · rename_i hh
    have hh':((decide (r.state<0) || decide (2<r.state)) || !KI r.approved)=false:=by simpa using hh
    simp only [dbs] at hh'
    exact ⟨by omega,by omega,by simpa using hh'.2⟩
theorem OE {c:Circle} (h:AQ c=0) {k:Nat} (hk:k<c.recs.length):FZ c.recs[k]! = true:=by
  have:=((QF c).1 h).2 k hk
  simp only [FP,dbs] at this
  exact this.1.2
theorem TS {c:Circle} (h:AQ c=0) {no:Int} (h1:0≤no) (h2:no<c.recs.length):c.recs[no.toNat]!.state=0∨c.recs[no.toNat]!.state=1∨c.recs[no.toNat]!.state=2:=by
  have:=GS (OE h (k:=no.toNat) (by omega))
  omega
theorem UB {c:Circle} (h:AQ c=0) {no:Int} (h1:0≤no) (h2:no<c.recs.length):∀ p q,p<q→q<c.recs[no.toNat]!.approved.length→c.recs[no.toNat]!.approved[p]! < c.recs[no.toNat]!.approved[q]!:=
  RA (GS (OE h (k:=no.toNat) (by omega))).2.2
theorem tw_le (l:List Int) (x:Int):tw l x≤l.length:=by
  unfold tw
  exact (List.takeWhile_sublist _).length_le
theorem tw_eq {x:Int}:∀ {l:List Int} {k:Nat},k≤l.length→(∀ q,q<k→l[q]! < x)→(k<l.length→x≤l[k]!)→tw l x=k
  | [],k,hk,_,_=>by simp at hk;subst hk;rfl
  | a :: l,0,_,_,h2=>by
    have:=h2 (by simp)
    simp at this
    have hn:¬ (a<x):=by omega
    simp [tw,hn]
  | a :: l,k+1,hk,h1,h2=>by
    have h0:=h1 0 (by omega)
    simp at h0
    have ih:=tw_eq (x:=x) (l:=l) (k:=k) (by simpa using hk) (fun q hq=>by have:=h1 (q+1) (by omega);simpa using this) (fun hk2=>by have:=h2 (by simpa using hk2);simpa using this)
    unfold tw at ih ⊢
    simp [h0,ih]
theorem bsF_1 {l:List Int} {x:Int} {k:Nat} (ht:tw l x=k) (h:(l.length:Int)≤k):WX l x=false:=by
  have:¬ (k<l.length):=by omega
  simp [WX,ht,this]
theorem bsF_2 {l:List Int} {x:Int} {k:Nat} (ht:tw l x=k) (h:l[k]!≠x):WX l x=false:=by
  unfold WX;rw [ht]
  have:(l[k]! == x)=false:=by simpa using h
  rw [this,Bool.and_false]
theorem bsF_t {l:List Int} {x:Int} {k:Nat} (ht:tw l x=k) (h:(k:Int)<l.length) (he:l[k]! = x):WX l x=true:=by
  unfold WX;rw [ht]
  have:(l[k]! == x)=true:=by simpa using he
  rw [this,Bool.and_true];simpa using h
theorem bs_lo {l:List Int} {x:Int} {h:Nat} (hs:∀ p q,p<q→q<l.length→l[p]! < l[q]!) (h1:l[h]! < x) (hh:h<l.length):∀ q,q<h+1→l[q]! < x:=by
  intro q hq
  by_cases hqh:q=h
  · subst hqh;exact h1
  · have:=hs q h (by omega) hh;omega
theorem bs_hi {l:List Int} {x:Int} {h:Nat} (hs:∀ p q,p<q→q<l.length→l[p]! < l[q]!) (h1:x≤l[h]!):∀ q,h≤q→q<l.length→x≤l[q]!:=by
  intro q hq hql
  by_cases hqh:q=h
  · subst hqh;exact h1
  · have:=hs h q (by omega) hql;omega
theorem idxI_pos (l:List Int) (x:Int):decide ((0:Int)≤idxI l x)=l.contains x:=by
  have key:∀ (m i:Nat),m+i=l.length→decide ((0:Int)≤EX (fun k=>if x == l[k]! then some (k:Int) else none) (-1) i m)=(l.drop i).contains x:=by
    intro m
    induction m with
    | zero=>intro i hi;rw [List.drop_eq_nil_of_le (by omega)];rfl
    | succ m ih=>
      intro i hi
      unfold EX
      have hil:i<l.length:=by omega
      have hd:l.drop i=l[i]! :: l.drop (i+1):=by rw [getElem!_pos l i hil];exact List.drop_eq_getElem_cons hil
      rw [hd,List.contains_cons]
      cases hx:(x == l[i]!) with
      | true=>simp
      | false=>simp only [Bool.false_eq_true,if_false,Bool.false_or];exact ih (i+1) (by omega)
  have:=key l.length 0 (by omega)
  rw [List.drop_zero] at this
  exact this
theorem TU {l g:List Int} {k:Nat} (h:k<g.length):JE l g (k+1)=JE l g k+(if l.contains g[k]! then 1 else 0):=by
  unfold JE
  rw [List.take_add_one,List.getElem?_eq_getElem h,getElem!_pos g k h]
  simp only [Option.toList_some,List.filter_append,List.length_append]
  by_cases hc:g[k]∈l <;> simp [List.filter,hc]
theorem countM_le (l g:List Int) (k:Nat):JE l g k≤k:=by
  unfold JE
  exact Nat.le_trans (List.length_filter_le _ _) (List.length_take_le _ _)
theorem recs_le {c:Circle} (h:AQ c=0):c.recs.length≤1024:=by
  have:=((QF c).1 h).1
  simp only [ET,dbs] at this
  omega
theorem SA {l:List Int} {t w:Int} (h:AQ ⟨0,t,w,l,[]⟩≠0):MF l t w=(EU,AQ ⟨0,t,w,l,[]⟩):=by
  unfold MF;rw [if_pos (by simpa using h)]
theorem UF {l:List Int} {t w:Int} (h:AQ ⟨0,t,w,l,[]⟩ = 0):MF l t w=(⟨0,t,w,l,[]⟩,0):=by
  unfold MF;rw [if_neg (by simp [h])]
theorem VL {c:Circle} {day:Int} (h:AQ c≠0):CJ c day=(EU,0,AQ c):=by
  unfold CJ;rw [if_pos (by simpa using h)]
theorem MY {c:Circle} {day:Int} (h:AQ c=0) (h1:DA day (OS c).asked=false):CJ c day=(EU,0,1):=by
  unfold CJ;rw [if_neg (by simp [h]),if_pos (by simp [h1])]
theorem SQ {c:Circle} {day:Int} (h:AQ c=0) (h1:DA day (OS c).asked=true) (h2:(OS c).state=0):CJ c day=(EU,0,451):=by
  unfold CJ;rw [if_neg (by simp [h]),if_neg (by simp [h1]),if_pos (by simp [h2])]
theorem LO {c:Circle} {day:Int} (h:AQ c=0) (h1:DA day (OS c).asked=true) (h2:(OS c).state≠0) (h3:(c.recs.length:Int)=1024):CJ c day=(EU,0,2):=by
  unfold CJ;rw [if_neg (by simp [h]),if_neg (by simp [h1]),if_neg (by simpa using h2),if_pos (by simpa using h3)]
theorem IX {c:Circle} {day:Int} (h:AQ c=0) (h1:DA day (OS c).asked=true) (h2:(OS c).state≠0) (h3:(c.recs.length:Int)≠1024) :
    CJ c day=(⟨c.epoch,c.threshold,c.wait,c.guardians,c.recs++[⟨(c.recs.length:Int),day,0,[],[]⟩]⟩,(c.recs.length:Int),0):=by
  unfold CJ;rw [if_neg (by simp [h]),if_neg (by simp [h1]),if_neg (by simpa using h2),if_neg (by simpa using h3)]
theorem gAct_bad {c:Circle} {no:Int} {f:Recovery→Except Int Recovery} (h:AQ c≠0):CR c no f=(EU,AQ c):=by
  unfold CR;rw [if_pos (by simpa using h)]
theorem gAct_no {c:Circle} {no:Int} {f:Recovery→Except Int Recovery} (h:AQ c=0) (hn:no<0∨(c.recs.length:Int)≤no):CR c no f=(EU,1):=by
  unfold CR;rw [if_neg (by simp [h]),if_pos hn]
theorem KP {c:Circle} {no:Int} {f:Recovery→Except Int Recovery} {e:Int} (h:AQ c=0) (h1:0≤no) (h2:no<c.recs.length) (hf:f c.recs[no.toNat]! = .error e):CR c no f=(EU,e):=by
  unfold CR;rw [if_neg (by simp [h]),if_neg (by omega),hf]
theorem gAct_ok {c:Circle} {no:Int} {f:Recovery→Except Int Recovery} {r:Recovery} (h:AQ c=0) (h1:0≤no) (h2:no<c.recs.length) (hf:f c.recs[no.toNat]! = .ok r):CR c no f=(⟨c.epoch,c.threshold,c.wait,c.guardians,c.recs.set no.toNat r⟩,0):=by
  unfold CR;rw [if_neg (by simp [h]),if_neg (by omega),hf]
theorem fin_bad {c:Circle} {no:Int} {day:Int} (h:AQ c≠0):CR c no (CH c day)=(EU,AQ c):=gAct_bad h
theorem fin_no {c:Circle} {no:Int} {day:Int} (h:AQ c=0) (hn:no<0∨(c.recs.length:Int)≤no):CR c no (CH c day)=(EU,1):=gAct_no h hn
theorem app_bad {c:Circle} {no:Int} {g:Int} (h:AQ c≠0):CR c no (BS c g)=(EU,AQ c):=gAct_bad h
theorem app_no {c:Circle} {no:Int} {g:Int} (h:AQ c=0) (hn:no<0∨(c.recs.length:Int)≤no):CR c no (BS c g)=(EU,1):=gAct_no h hn
theorem fin_dead {c:Circle} {no day:Int} (hok:AQ c=0) (h1:0≤no) (h2:no<c.recs.length) (hs:c.recs[no.toNat]!.state=2):CR c no (CH c day)=(EU,452):=
  KP hok h1 h2 (by revert hs;generalize c.recs[no.toNat]! = r;intro hs;simp [CH,hs])
theorem fin_done {c:Circle} {no day:Int} (hok:AQ c=0) (h1:0≤no) (h2:no<c.recs.length) (hs:c.recs[no.toNat]!.state=1):CR c no (CH c day)=(EU,1):=
  KP hok h1 h2 (by revert hs;generalize c.recs[no.toNat]! = r;intro hs;simp [CH,hs])
theorem fin_day {c:Circle} {no day:Int} (hok:AQ c=0) (h1:0≤no) (h2:no<c.recs.length) (hs:c.recs[no.toNat]!.state=0) (hd:DA day 0=false):CR c no (CH c day)=(EU,1):=
  KP hok h1 h2 (by revert hs hd;generalize c.recs[no.toNat]! = r;intro hs hd;simp [CH,hs,hd])
theorem fin_few {c:Circle} {no day:Int} (hok:AQ c=0) (h1:0≤no) (h2:no<c.recs.length) (hs:c.recs[no.toNat]!.state=0) (hd:DA day 0=true) (ha:MG c c.recs[no.toNat]! = false):CR c no (CH c day)=(EU,450):=
  KP hok h1 h2 (by revert hs hd ha;generalize c.recs[no.toNat]! = r;intro hs hd ha;simp [CH,hs,hd,ha])
theorem fin_wait {c:Circle} {no day:Int} (hok:AQ c=0) (h1:0≤no) (h2:no<c.recs.length) (hs:c.recs[no.toNat]!.state=0) (hd:DA day 0=true) (ha:MG c c.recs[no.toNat]! = true) (hw:day<c.recs[no.toNat]!.asked+c.wait):CR c no (CH c day)=(EU,451):=
  KP hok h1 h2 (by revert hs hd ha hw;generalize c.recs[no.toNat]! = r;intro hs hd ha hw;simp [CH,hs,hd,ha];omega)
theorem fin_open {c:Circle} {no day:Int} (hok:AQ c=0) (h1:0≤no) (h2:no<c.recs.length) (hs:c.recs[no.toNat]!.state=0) (hd:DA day 0=true) (ha:MG c c.recs[no.toNat]! = true) (hw:c.recs[no.toNat]!.asked+c.wait≤day):CR c no (CH c day)=(⟨c.epoch,c.threshold,c.wait,c.guardians,c.recs.set no.toNat ⟨c.recs[no.toNat]!.no,c.recs[no.toNat]!.asked,1,c.recs[no.toNat]!.approved,c.recs[no.toNat]!.vetoed⟩⟩,0):=
  gAct_ok hok h1 h2 (by revert hs hd ha hw;generalize c.recs[no.toNat]! = r;intro hs hd ha hw;simp [CH,hs,hd,ha];omega)
theorem app_dead {c:Circle} {no g:Int} (hok:AQ c=0) (h1:0≤no) (h2:no<c.recs.length) (hs:c.recs[no.toNat]!.state=2):CR c no (BS c g)=(EU,452):=
  KP hok h1 h2 (by revert hs;generalize c.recs[no.toNat]! = r;intro hs;simp [BS,hs])
theorem app_done {c:Circle} {no g:Int} (hok:AQ c=0) (h1:0≤no) (h2:no<c.recs.length) (hs:c.recs[no.toNat]!.state=1):CR c no (BS c g)=(EU,1):=
  KP hok h1 h2 (by revert hs;generalize c.recs[no.toNat]! = r;intro hs;simp [BS,hs])
theorem app_not {c:Circle} {no g:Int} (hok:AQ c=0) (h1:0≤no) (h2:no<c.recs.length) (hs:c.recs[no.toNat]!.state=0) (hg:c.guardians.contains g=false):CR c no (BS c g)=(EU,450):=
  KP hok h1 h2 (by revert hs hg;generalize c.recs[no.toNat]! = r;intro hs hg;simp only [BS,hs,hg];simp [hs,hg])
theorem app_had {c:Circle} {no g:Int} (hok:AQ c=0) (h1:0≤no) (h2:no<c.recs.length) (hs:c.recs[no.toNat]!.state=0) (hg:c.guardians.contains g=true) (hb:WX c.recs[no.toNat]!.approved g=true):CR c no (BS c g)=(⟨c.epoch,c.threshold,c.wait,c.guardians,c.recs.set no.toNat c.recs[no.toNat]!⟩,0):=
  gAct_ok hok h1 h2 (by revert hs hg hb;generalize c.recs[no.toNat]! = r;intro hs hg hb;simp only [BS,hs,hg,hb];simp [hs,hg,hb])
theorem UL {c:Circle} {no g:Int} (hok:AQ c=0) (h1:0≤no) (h2:no<c.recs.length) (hs:c.recs[no.toNat]!.state=0) (hg:c.guardians.contains g=true) (hb:WX c.recs[no.toNat]!.approved g=false):CR c no (BS c g)=(⟨c.epoch,c.threshold,c.wait,c.guardians,c.recs.set no.toNat ⟨c.recs[no.toNat]!.no,c.recs[no.toNat]!.asked,c.recs[no.toNat]!.state,putIn c.recs[no.toNat]!.approved g,c.recs[no.toNat]!.vetoed⟩⟩,0):=
  gAct_ok hok h1 h2 (by revert hs hg hb;generalize c.recs[no.toNat]! = r;intro hs hg hb;simp only [BS,hs,hg,hb];simp [hs,hg,hb])
theorem WO {l:List Recovery} {k:Nat}:FP l k=false↔l[k]!.no=(k:Int)∧DA l[k]!.asked (HX l k)=true∧FZ l[k]! = true∧(l[k]!.state≠0∨(l.length:Int) - 1≤(k:Int)):=by
  simp only [FP,dbs]
  constructor
  · rintro ⟨⟨⟨h1,h2⟩,h3⟩,h4⟩;exact ⟨by omega,by simpa using h2,by simpa using h3,by omega⟩
  · rintro ⟨h1,h2,h3,h4⟩;exact ⟨⟨⟨by omega,by simpa using h2⟩,by simpa using h3⟩,by omega⟩
theorem PN {d f:Int}:DA d f=true↔f≤d∧d<1024:=by simp [DA]
theorem asked_ge {l:List Recovery} {n:Nat} (h:∀ k,k<n→FP l k=false):∀ k,k<n→0≤l[k]!.asked:=by
  intro k hk
  induction k with
  | zero=>
    have:=(PN.1 (WO.1 (h 0 hk)).2.1).1
    simpa [HX] using this
  | succ k ih=>
    have h1:=(PN.1 (WO.1 (h (k+1) hk)).2.1).1
    simp only [HX,Nat.add_one_ne_zero,if_false,Nat.add_sub_cancel] at h1
    have:=ih (by omega)
    omega
theorem act_bounds {c:Circle} (h:AQ c=0) {no:Int} (h1:0≤no) (h2:no<c.recs.length):0≤c.recs[no.toNat]!.asked∧c.recs[no.toNat]!.asked<1024∧0≤c.wait∧c.wait<1024:=by
  have hh:=(QF c).1 h
  have ha:=asked_ge hh.2 no.toNat (by omega)
  have hd:=(PN.1 (WO.1 (hh.2 no.toNat (by omega))).2.1).2
  have hw:=hh.1
  simp only [ET,dbs] at hw
  have:=PN.1 (show DA c.wait 0=true by simpa using hw.1.2)
  omega
section
variable {l:List Int} {k:Nat}
end
open Go.Fw Go.RowKit
set_option maxHeartbeats 4000000 in
set_option maxRecDepth 100000 in
theorem c_isNaN {O:List Nat} (x:Int) (w:World) (hO:∀ b∈O,b<w.heap.size):CE Try.prog 119 [vI x] w (fun v _=>v = .bool (false)):= by
 have s0:St w O w []:=St.start hO
 refine BI 6 Try.func119 rfl rfl oT (fun F0=>AF (AB kR (AA (AD (vO false) rfl (AG (AC (AF (AB kR (AA (AE (vI x) rfl (AA (AE (vI x) rfl (AA (CT .i64 x x rfl rfl (AA (AD (vO (x != x)) rfl (AG (AC (AM (AS rfl (CN rfl rfl rfl) (?_)))))))))))))))))))))
 have e:false=(x != x):=by simp
 exact ⟨_,rfl,s0.keep,(by exact congrArg vO e.symm)⟩
set_option maxHeartbeats 4000000 in
set_option maxRecDepth 100000 in
theorem c_isNaN2 {O:List Nat} (x:Int) (w:World) (hO:∀ b∈O,b<w.heap.size):CE Try.prog 114 [vI x] w (fun v _=>v = .bool (false)):= by
 have s0:St w O w []:=St.start hO
 refine BI 6 Try.func114 rfl rfl oT (fun F0=>AF (AB kR (AA (AD (vO false) rfl (AG (AC (AF (AB kR (AA (AE (vI x) rfl (AA (AE (vI x) rfl (AA (CT .i64 x x rfl rfl (AA (AD (vO (x != x)) rfl (AG (AC (AM (AS rfl (CN rfl rfl rfl) (?_)))))))))))))))))))))
 have e:false=(x != x):=by simp
 exact ⟨_,rfl,s0.keep,(by exact congrArg vO e.symm)⟩
set_option maxHeartbeats 4000000 in
set_option maxRecDepth 100000 in
theorem c_less {O:List Nat} (x:Int) (y:Int) (w:World) (hO:∀ b∈O,b<w.heap.size):CE Try.prog 113 [vI x,vI y] w (fun v _=>v = .bool (decide (x<y))):= by
 have s0:St w O w []:=St.start hO
 refine BI 17 Try.func113 rfl rfl oT (fun F0=>AF (AB kR (AA (AD (vO false) rfl (AG (AC (AF (AB kR (AA (AE (vI x) rfl (AA (AZ (vs:=[vI x]) enter_119 (c_isNaN (O:=[]++O) x w s0.lt) rfl s0 fun a2 a3 a0 a4 a5 a1=>(?_)))))))))))))
 obtain rfl:=a1
 refine AA (AE (vO false) rfl (AT rfl (AT rfl (AT rfl (AA (BX (vO false) rfl rfl (AA (AE (vO false) rfl (BJ rfl (AE (vI x) rfl (BJ rfl (AE (vI y) rfl (BJ rfl (DO .i64 x y rfl rfl (AA (BX (vO (decide (x<y))) rfl rfl (AA (AD (vO (decide (x<y))) rfl (AG (AC (AM (AS rfl (CN rfl rfl rfl) (?_)))))))))))))))))))))))
 exact ⟨_,rfl,a0.keep,rfl⟩
set_option maxHeartbeats 4000000 in
set_option maxRecDepth 100000 in
theorem c_bs {O:List Nat} (l_v:Value) (l:List Int) (x:Int) (w:World) (a0:BB Enc.int w O l_v l) (hpre0:∀ p q,p<q→q<l.length→l[p]! < l[q]!) (hpre1:l.length≤4611686018427387903) (hO:∀ b∈O,b<w.heap.size):CE Try.prog 105 [l_v,vI x] w (fun v _=>v = .tuple #[vI ((tw l x:Nat):Int), .bool (WX l x)]):= by
 have d0:=a0.len_le
 have a0:BB Enc.int w ([]++O) l_v l:=a0
 have s0:St w O w []:=St.start hO
 refine BI 54 Try.func105 rfl rfl oT (fun F0=>AF (AB kR (AA (AD (vI 0) rfl (AA (AD (vO false) rfl (AG (AC (AF (AB kR (AA (AE (l_v) rfl (AA (CA U22_ rfl a0 (AA (AD (vI (l.length:Int)) rfl (AG (AC (AF (AB kR (AA (AE (vI (l.length:Int)) rfl (AA (AD (vI 0) rfl (AA (AD (vI (l.length:Int)) rfl (AG (AC (AF (BA (CX (fun mI FI wI=>∃ (lo:Nat) (hi:Nat) (B:List Nat),lo≤hi∧hi≤l.length∧(∀ q,q<lo→l[q]! < x)∧(∀ q,hi≤q→q<l.length→x≤l[q]!)∧mI=hi - lo∧(∃ F1,FI=FR F1 [(0,l_v),(1,vI x),(6,vI (l.length:Int)),(7,vI ((lo:Nat):Int)),(8,vI ((hi:Nat):Int)),(54,undef)])∧St w O wI B∧BB Enc.int wI (B++O) (l_v) (l)) ((l.length) - (0)) ?_ ?_)))))))))))))))))))))))))))))))
 ·exact ⟨(0),(l.length),[],oM,oM,(fun q hq=>by omega),(fun q h1 h2=>by omega),rfl,⟨_,AP _ ⟨rfl,rfl,rfl,(by rfl),(by rfl),rfl,trivial⟩⟩,s0,a0⟩
 intro e1 F c1 hI
 clear a0
 obtain ⟨lo,hi,a6,hr0_0,hr0_1,hr0_2,hr0_3,e2,⟨e3,rfl⟩,a3,a0⟩:=hI
 refine AF (AF (AB kR (AA (AE (vI ((lo:Nat):Int)) rfl (AA (AE (vI ((hi:Nat):Int)) rfl (AA (DO .i64 ((lo:Nat):Int) ((hi:Nat):Int) rfl rfl (AG (AC (AJ (decide (((lo:Nat):Int)<((hi:Nat):Int))) rfl rfl (fun a1=>?_) (fun a1=>?_))))))))))))
 ·have c2:((lo:Nat):Int)<((hi:Nat):Int):=by simpa using a1
  refine AO (AC (BA (AF (AB kR (AA (AE (vI ((lo:Nat):Int)) rfl (AA (AE (vI ((hi:Nat):Int)) rfl (AA (DC .i64 ((lo:Nat):Int) ((hi:Nat):Int) (((lo+hi:Nat):Int)) rfl rfl (FQ oM oM) (AA (WN .i64 .u64 U3_ U135_ ((lo+hi:Nat):Int) (((lo+hi):Nat):Int) rfl (wrap_u64 oM) (AA (o_shrU .u64 (lo+hi) 1 oM rfl rfl (AA (WN .u64 .i64 U135_ U3_ (((lo+hi) / 2 ^ 1:Nat):Int) ((((lo+hi) / 2 ^ 1):Nat):Int) rfl (FQ oM rfl) (AA (AD (vI (((lo+hi) / 2 ^ 1:Nat):Int)) rfl (AG (AC (AF (AB kR (AA (AE (l_v) rfl (AA (AE (vI (((lo+hi) / 2 ^ 1:Nat):Int)) rfl (AA (CP U22_ OV .i64 (((lo+hi) / 2 ^ 1:Nat):Int) ((lo+hi) / 2 ^ 1) rfl rfl rfl a0 oM fun d1 a8=>(AA (CC U3_ rfl rfl a8 (AA (AE (vI x) rfl (AA (AZ (vs:=[vI (l[(lo+hi) / 2 ^ 1]!),vI x]) enter_113 (c_less (O:=a6++O) (l[(lo+hi) / 2 ^ 1]!) x c1 a3.lt) rfl a3 fun d2 d3 a7 b1 d4 b2=>(?_)))))))))))))))))))))))))))))))))))
  obtain rfl:=b2
  have a0:=a0.mv b1
  refine AG (AC (AJ (decide (l[(lo+hi) / 2 ^ 1]! < x)) rfl rfl (fun a2=>?_) (fun a2=>?_)))
  ·have c3:l[(lo+hi) / 2 ^ 1]! < x:=by simpa using a2
   refine AB kR (AA (AE (vI (((lo+hi) / 2 ^ 1:Nat):Int)) rfl (AA (DC .i64 (((lo+hi) / 2 ^ 1:Nat):Int) (1:Int) ((((lo+hi) / 2 ^ 1+1:Nat):Int)) rfl rfl (FQ oM oM) (AA (AD (vI (((lo+hi) / 2 ^ 1+1:Nat):Int)) rfl (AG (BZ (AC (?_))))))))))
   exact ⟨_,oM,((lo+hi) / 2 ^ 1+1),(hi),a6,oM,oM,(by exact bs_lo hpre0 aS oM),(by exact hr0_3),rfl,⟨_,AP _ ⟨rfl,rfl,rfl,(by rfl),(by rfl),rfl,trivial⟩⟩,a7,a0⟩
  have c4:x≤l[(lo+hi) / 2 ^ 1]!:=by simpa using a2
  refine AB kR (AA (AE (vI (((lo+hi) / 2 ^ 1:Nat):Int)) rfl (AA (AD (vI (((lo+hi) / 2 ^ 1:Nat):Int)) rfl (AG (BZ (AC (?_))))))))
  exact ⟨_,oM,(lo),((lo+hi) / 2 ^ 1),a6,oM,oM,(by exact hr0_2),(by exact bs_hi hpre0 aS),rfl,⟨_,AP _ ⟨rfl,rfl,rfl,(by rfl),(by rfl),rfl,trivial⟩⟩,a7,a0⟩
 have c5:((hi:Nat):Int)≤((lo:Nat):Int):=by simpa using a1
 obtain rfl:lo=hi:=by omega
 have htw:tw l x=lo:=tw_eq oM hr0_2 (fun h=>hr0_3 lo oM h)
 refine CV (BL (BL (CL (AC (AF (AB kR (AA (AE (vI ((lo:Nat):Int)) rfl (AA (AE (vI ((lo:Nat):Int)) rfl (AA (AE (vI (l.length:Int)) rfl (AA (DO .i64 ((lo:Nat):Int) (l.length:Int) rfl rfl (AA (AE (vO (decide (((lo:Nat):Int)<(l.length:Int)))) rfl (?_)))))))))))))))))
 cases a4:(decide (((lo:Nat):Int)<(l.length:Int)))
 ·have c6:(l.length:Int)≤((lo:Nat):Int):=by simpa using a4
  refine AT rfl (AT rfl (AT rfl (AT rfl (AT rfl (AT rfl (AT rfl (KC rfl (KC rfl (KC rfl (KC rfl (KC rfl (KC rfl (KC rfl (KC rfl (KC rfl (AT rfl (AA (BX (vO false) rfl rfl (AA (AD (vI ((lo:Nat):Int)) rfl (AA (AD (vO false) rfl (AG (AC (AM (AS rfl (EA rfl rfl rfl rfl) (?_)))))))))))))))))))))))))))
  have b3:(tw l x)=lo:=by exact htw
  have b4:(WX l x)=false:=by exact bsF_1 htw oM
  exact ⟨_,rfl,a3.keep,by rw [b3,b4];exact rfl⟩
 have c7:((lo:Nat):Int)<(l.length:Int):=by simpa using a4
 refine BJ rfl (AE (l_v) rfl (BJ rfl (AE (vI ((lo:Nat):Int)) rfl (BJ rfl (CP U22_ OV .i64 ((lo:Nat):Int) lo rfl rfl rfl a0 oM fun d5 a9=>(BJ rfl (CC U3_ rfl rfl a9 (BJ rfl (AE (vI x) rfl (BJ rfl (GO .i64 (l[lo]!) x rfl rfl (BJ rfl (AE (vO ((l[lo]!) == x)) rfl (?_))))))))))))))
 cases a5:((l[lo]!) == x)
 ·have c8:l[lo]!≠x:=by simpa using a5
  refine BJ rfl (AE (l_v) rfl (BJ rfl (AE (vI ((lo:Nat):Int)) rfl (BJ rfl (CP U22_ OV .i64 ((lo:Nat):Int) lo rfl rfl rfl a0 oM fun d6 b0=>(BJ rfl (CC U3_ rfl rfl b0 (BJ rfl (AZ (vs:=[vI (l[lo]!)]) enter_114 (c_isNaN2 (O:=a6++O) (l[lo]!) c1 a3.lt) rfl a3 fun d7 d8 b5 d9 e0 b6=>(?_))))))))))
  obtain rfl:=b6
  refine BJ rfl (AE (vO false) rfl (AT rfl (AT rfl (BJ rfl (BX (vO false) rfl rfl (BJ rfl (BX (vO false) rfl rfl (AA (AX (vO false) rfl rfl (AA (AD (vI ((lo:Nat):Int)) rfl (AA (AD (vO false) rfl (AG (AC (AM (AS rfl (EA rfl rfl rfl rfl) (?_))))))))))))))))))
  have b7:(tw l x)=lo:=by exact htw
  have b8:(WX l x)=false:=by exact bsF_2 htw aS
  exact ⟨_,rfl,b5.keep,by rw [b7,b8];exact rfl⟩
 have c9:l[lo]! = x:=by simpa using a5
 refine AT rfl (AT rfl (AT rfl (AT rfl (AT rfl (AT rfl (KC rfl (KC rfl (AT rfl (BJ rfl (AX (vO true) rfl rfl (AA (AX (vO true) rfl rfl (AA (AD (vI ((lo:Nat):Int)) rfl (AA (AD (vO true) rfl (AG (AC (AM (AS rfl (EA rfl rfl rfl rfl) (?_)))))))))))))))))))))
 have b9:(tw l x)=lo:=by exact htw
 have c0:(WX l x)=true:=by exact bsF_t htw oM aS
 exact ⟨_,rfl,a3.keep,by rw [b9,c0];exact rfl⟩
set_option maxHeartbeats 4000000 in
set_option maxRecDepth 100000 in
theorem c_idx {O:List Nat} (l_v:Value) (l:List Int) (x:Int) (w:World) (a2:BB Enc.int w O l_v l) (hO:∀ b∈O,b<w.heap.size):CE Try.prog 104 [l_v,vI x] w (fun v _=>v=vI (idxI l x)):= by
 have a8:=a2.len_le
 have a2:BB Enc.int w ([]++O) l_v l:=a2
 have s0:St w O w []:=St.start hO
 refine BI 19 Try.func104 rfl rfl oT (fun F0=>AF (AB kR (AA (AD (vI 0) rfl (AG (AC (AF (AF (AB kR (AA (AE (l_v) rfl (AA (CA U22_ rfl a2 (AA (AE (vI 0) rfl (AG (AC (BA (CX (fun mI FI wI=>∃ (k:Nat),k≤l.length∧idxI l x=EX (fun k=>if x == l[k]! then some (k:Int) else none) (-1) k (l.length - k)∧mI=l.length - k∧(∃ F1,FI=FR F1 [(0,l_v),(1,vI x),(7,vI (l.length:Int)),(8,vI ((k:Nat):Int)),(19,undef)])∧w=wI) (l.length - (0)) ?_ ?_)))))))))))))))))))
 ·exact ⟨(0),oM,rfl,rfl,⟨_,AP _ ⟨rfl,rfl,rfl,(by rfl),rfl,trivial⟩⟩,rfl⟩
 rintro b0 F b1 ⟨k,hr0_0,hr0_1,b2,⟨b3,rfl⟩,rfl⟩
 refine AF (AB kR (AA (DO .i64 ((k:Nat):Int) (l.length:Int) rfl rfl (AG (AC (AF (AJ (decide (((k:Nat):Int)<(l.length:Int))) rfl rfl (fun a0=>?_) (fun a0=>?_))))))))
 ·have a4:((k:Nat):Int)<(l.length:Int):=by simpa using a0
  refine AO (AC (AF (BA (AF (AB kR (AA (AE (vI ((k:Nat):Int)) rfl (AA (AD (vI ((k:Nat):Int)) rfl (AG (AC (AF (AB kR (AA (AE (vI x) rfl (AA (AE (l_v) rfl (AA (AE (vI ((k:Nat):Int)) rfl (AA (CP U22_ OV .i64 ((k:Nat):Int) k rfl rfl rfl a2 oM fun a9 a3=>(AA (CC U3_ rfl rfl a3 (AA (GO .i64 x (l[k]!) rfl rfl (AG (AC (AJ (x == (l[k]!)) rfl rfl (fun a1=>?_) (fun a1=>?_)))))))))))))))))))))))))))))
  ·have a5:x=l[k]!:=by simpa using a1
   refine AF (AB kR (AA (AE (vI ((k:Nat):Int)) rfl (AA (AD (vI ((k:Nat):Int)) rfl (AG (AC (AM (BK (AK (AK (BK (AK (AS rfl (CN rfl rfl rfl) (?_)))))))))))))))
   have e:(idxI l x)=((k:Nat):Int):=by (rw [hr0_1];exact DB oM (by ((repeat ((refine (if_pos ?_).trans ?_;omega)));rfl)))
   exact ⟨_,rfl,s0.keep,by rw [e];exact rfl⟩
  have a6:x≠l[k]!:=by simpa using a1
  refine AO (BZ (AC (AB kR (AA (DC .i64 ((k:Nat):Int) (1:Int) (((k+1:Nat):Int)) rfl rfl (FQ oM oM) (AA (AE (vI ((k+1:Nat):Int)) rfl (AG (AC (?_))))))))))
  exact ⟨_,oM,(k+1),oM,(hr0_1.trans (FF oM (by ((repeat ((refine (if_neg ?_).trans ?_;solve|(simp only [dbs];(repeat (omega))))));rfl)))),rfl,⟨_,AP _ ⟨rfl,rfl,rfl,(by rfl),rfl,trivial⟩⟩,rfl⟩
 have a7:(l.length:Int)≤((k:Nat):Int):=by simpa using a0
 refine CV (BL (BL (CL (AC (AF (AB kR (AA (AD (vI (-1:Int)) rfl (AG (AC (AM (AS rfl (CN rfl rfl rfl) (?_)))))))))))))
 have e:(idxI l x)=(-1:Int):=by (rw [hr0_1];exact GR oM)
 exact ⟨_,rfl,s0.keep,by rw [e];exact rfl⟩
set_option maxHeartbeats 4000000 in
set_option maxRecDepth 100000 in
theorem VN {O:List Nat} (l_v:Value) (l:List Int) (x:Int) (w:World) (a0:BB Enc.int w O l_v l) (hO:∀ b∈O,b<w.heap.size):CE Try.prog 75 [l_v,vI x] w (fun v _=>v = .bool (l.contains x)):= by
 have a3:=a0.len_le
 have a0:BB Enc.int w ([]++O) l_v l:=a0
 have s0:St w O w []:=St.start hO
 refine BI 9 Try.func75 rfl rfl oT (fun F0=>AF (AB kR (AA (AD (vO false) rfl (AG (AC (AF (AB kR (AA (AE (l_v) rfl (AA (AE (vI x) rfl (AA (AZ (vs:=[l_v,vI x]) enter_104 (c_idx (O:=[]++O) l_v l x w a0 s0.lt) rfl s0 fun a4 a5 a1 a6 a7 a2=>(?_)))))))))))))))
 obtain rfl:=a2
 refine AA (KR .i64 (idxI l x) (0:Int) rfl rfl (AA (AD (vO (decide ((0:Int)≤idxI l x))) rfl (AG (AC (AM (AS rfl (CN rfl rfl rfl) (?_))))))))
 have e:(l.contains x)=(decide ((0:Int)≤idxI l x)):=by exact (idxI_pos _ _).symm
 exact ⟨_,rfl,a1.keep,(by exact congrArg vO e.symm)⟩
set_option maxHeartbeats 4000000 in
set_option maxRecDepth 100000 in
theorem PR {O:List Nat} (day:Int) (frm:Int) (w:World) (hO:∀ b∈O,b<w.heap.size):CE Try.prog 65 [vI day,vI frm] w (fun v _=>v = .bool (DA day frm)):= by
 have s0:St w O w []:=St.start hO
 refine BI 12 Try.func65 rfl rfl oT (fun F0=>AF (AB kR (AA (AD (vO false) rfl (AG (AC (AF (AB kR (AA (AE (vI day) rfl (AA (AE (vI frm) rfl (AA (KR .i64 day frm rfl rfl (AA (AE (vO (decide (frm≤day))) rfl (?_)))))))))))))))))
 cases a0:(decide (frm≤day))
 ·have a1:day<frm:=by simpa using a0
  refine AT rfl (AT rfl (AA (BX (vO false) rfl rfl (AA (AD (vO false) rfl (AG (AC (AM (AS rfl (CN rfl rfl rfl) (?_))))))))))
  have e:(DA day frm)=false:=by simp [DA, *]
  exact ⟨_,rfl,s0.keep,(by exact congrArg vO e.symm)⟩
 have a2:frm≤day:=by simpa using a0
 refine BJ rfl (AE (vI day) rfl (BJ rfl (DO .i64 day (1024:Int) rfl rfl (AA (AX (vO (decide (day<(1024:Int)))) rfl rfl (AA (AD (vO (decide (day<(1024:Int)))) rfl (AG (AC (AM (AS rfl (CN rfl rfl rfl) (?_))))))))))))
 have e:(DA day frm)=(decide (day<(1024:Int))):=by simp [DA, *]
 exact ⟨_,rfl,s0.keep,(by exact congrArg vO e.symm)⟩
set_option maxHeartbeats 4000000 in
set_option maxRecDepth 100000 in
theorem c_incr {O:List Nat} (l_v:Value) (l:List Int) (w:World) (a2:BB Enc.int w O l_v l) (hO:∀ b∈O,b<w.heap.size):CE Try.prog 64 [l_v] w (fun v _=>v = .bool (KI l)):= by
 have b1:=a2.len_le
 have a2:BB Enc.int w ([]++O) l_v l:=a2
 have s0:St w O w []:=St.start hO
 refine BI 21 Try.func64 rfl rfl oT (fun F0=>AF (AB kR (AA (AD (vO false) rfl (AG (AC (AF (AB kR (AA (AD (vI (-1:Int)) rfl (AG (AC (AF (AF (AB kR (AA (AE (l_v) rfl (AA (CA U22_ rfl a2 (AA (AE (vI 0) rfl (AG (AC (BA (CX (fun mI FI wI=>∃ (k:Nat),k≤l.length∧KI l=EX (fun k=>if LC l k then some false else none) true k (l.length - k)∧mI=l.length - k∧(∃ F1,FI=FR F1 [(3,vI (MC l k)),(6,l_v),(7,vI (l.length:Int)),(8,vI ((k:Nat):Int)),(21,undef)])∧w=wI) (l.length - (0)) ?_ ?_)))))))))))))))))))))))))
 ·exact ⟨(0),oM,(by unfold KI;((repeat (first|(refine (if_pos ?_).trans ?_;solve|omega|assumption|(simp only [LC,dbs];first|done|(repeat (first|omega|assumption|(right;first|omega|assumption|(constructor <;> first|omega|assumption))|left)))|(rw [Bool.not_eq_true];simp only [LC,dbs];first|done|omega|assumption|((repeat' apply And.intro) <;> first|omega|assumption))|(simp only [*,dbs];done))|(refine (if_neg ?_).trans ?_;solve|omega|assumption|(simp only [LC,dbs];first|done|(repeat (first|omega|assumption|(right;first|omega|assumption|(constructor <;> first|omega|assumption))|left)))|(rw [Bool.not_eq_true];simp only [LC,dbs];first|done|omega|assumption|((repeat' apply And.intro) <;> first|omega|assumption))|(simp only [*,dbs];done))));rfl)),rfl,⟨_,AP _ ⟨(by rfl),rfl,rfl,(by rfl),rfl,trivial⟩⟩,rfl⟩
 rintro b3 F b4 ⟨k,hr0_0,hr0_1,b5,⟨b6,rfl⟩,rfl⟩
 refine AF (AB kR (AA (DO .i64 ((k:Nat):Int) (l.length:Int) rfl rfl (AG (AC (AF (AJ (decide (((k:Nat):Int)<(l.length:Int))) rfl rfl (fun a0=>?_) (fun a0=>?_))))))))
 ·have a5:((k:Nat):Int)<(l.length:Int):=by simpa using a0
  refine AO (AC (AF (BA (AF (AB kR (AA (CP U22_ OV .i64 ((k:Nat):Int) k rfl rfl rfl a2 oM fun b2 a4=>(AA (CC U3_ rfl rfl a4 (AA (AD (vI (l[k]!)) rfl (AG (AC (AF (AF (AB kR (AA (AE (vI (l[k]!)) rfl (AA (AE (vI (MC l k)) rfl (AA (o_leq .i64 (l[k]!) (MC l k) rfl rfl (AA (AE (vO (decide (l[k]!≤MC l k))) rfl (?_)))))))))))))))))))))))))
  cases a3:(decide (l[k]!≤MC l k))
  ·have a6:MC l k<l[k]!:=by simpa using a3
   refine BJ rfl (AE (vI (l[k]!)) rfl (BJ rfl (KR .i64 (l[k]!) (4096:Int) rfl rfl (AA (BX (vO (decide ((4096:Int)≤l[k]!))) rfl rfl (AG (AC (AJ (decide ((4096:Int)≤l[k]!)) rfl rfl (fun a1=>?_) (fun a1=>?_)))))))))
   ·have a7:(4096:Int)≤l[k]!:=by simpa using a1
    refine AF (AB kR (AA (AD (vO false) rfl (AG (AC (AM (AK (BK (AK (AK (BK (AK (AS rfl (CN rfl rfl rfl) (?_))))))))))))))
    have e:(KI l)=false:=by (rw [hr0_1];exact DB oM (by ((repeat ((refine (if_pos ?_).trans ?_;solve|(simp only [LC,dbs];(repeat (omega))))));rfl)))
    exact ⟨_,rfl,s0.keep,(by exact congrArg vO e.symm)⟩
   have a8:l[k]! < (4096:Int):=by simpa using a1
   refine AO (AC (AB kR (AA (AE (vI (l[k]!)) rfl (AA (AD (vI (l[k]!)) rfl (AG (BZ (AC (AB kR (AA (DC .i64 ((k:Nat):Int) (1:Int) (((k+1:Nat):Int)) rfl rfl (FQ oM oM) (AA (AE (vI ((k+1:Nat):Int)) rfl (AG (AC (?_)))))))))))))))))
   exact ⟨_,oM,(k+1),oM,(hr0_1.trans (FF oM (by ((repeat ((refine (if_neg ?_).trans ?_;solve|(simp only [LC,dbs];(repeat (omega))))));rfl)))),rfl,⟨_,AP _ ⟨(by rfl),rfl,rfl,(by rfl),rfl,trivial⟩⟩,rfl⟩
  have a9:l[k]!≤MC l k:=by simpa using a3
  refine AT rfl (AT rfl (AA (AX (vO true) rfl rfl (AG (AC (AJ true rfl rfl (fun _=>AF (AB kR (AA (AD (vO false) rfl (AG (AC (AM (AK (BK (AK (AK (BK (AK (AS rfl (CN rfl rfl rfl) (?_))))))))))))))) (fun h=>by cases h)))))))
  have e:(KI l)=false:=by (rw [hr0_1];exact DB oM (by ((repeat ((refine (if_pos ?_).trans ?_;solve|(simp only [LC,dbs];(repeat (omega))))));rfl)))
  exact ⟨_,rfl,s0.keep,(by exact congrArg vO e.symm)⟩
 have b0:(l.length:Int)≤((k:Nat):Int):=by simpa using a0
 refine CV (BL (BL (CL (AC (AF (AB kR (AA (AD (vO true) rfl (AG (AC (AM (AS rfl (CN rfl rfl rfl) (?_)))))))))))))
 have e:(KI l)=true:=by (rw [hr0_1];exact GR oM)
 exact ⟨_,rfl,s0.keep,(by exact congrArg vO e.symm)⟩
set_option maxHeartbeats 4000000 in
set_option maxRecDepth 100000 in
theorem c_recOK {O:List Nat} (r_cs:List Value) (r:Recovery) (w:World) (b6:Enc.recovery.rd w O r_cs r) (hO:∀ b∈O,b<w.heap.size):CE Try.prog 66 [.agg r_cs.toArray] w (fun v _=>v = .bool (FZ r)):= by
 have b6:Enc.recovery.rd w ([]++O) r_cs r:=b6
 have s0:St w O w []:=St.start hO
 refine BI 37 Try.func66 rfl rfl oT (fun F0=>AF (AB kR (AA (ER (E:=Enc.recovery) (vA r_cs.toArray) (r_cs) r rfl rfl b6 s0 fun e3 c6 a1 e4 e5 a0=>(AA (AD (vO false) rfl (AG (AC (AF (AF (AB kR (AA (BH 2 MV (r.state) rfl a0 (fun _ _ _ h=>IZ h) fun e6 b7=>(AA (CC U3_ rfl rfl b7 (AA (DO .i64 r.state (0:Int) rfl rfl (AA (AE (vO (decide (r.state<(0:Int)))) rfl (?_))))))))))))))))))))
 cases a6:(decide (r.state<(0:Int)))
 ·have d3:(0:Int)≤r.state:=by simpa using a6
  refine BJ rfl (BH 2 MV (r.state) rfl a0 (fun _ _ _ h=>IZ h) fun e7 b8=>(BJ rfl (CC U3_ rfl rfl b8 (BJ rfl (GQ .i64 r.state (2:Int) rfl rfl (AA (BX (vO (decide ((2:Int)<r.state))) rfl rfl (AA (AE (vO (decide ((2:Int)<r.state))) rfl (?_))))))))))
  cases a7:(decide ((2:Int)<r.state))
  ·have d4:r.state≤(2:Int):=by simpa using a7
   refine BJ rfl (BH 3 SZ (r.approved) rfl a0 (fun _ _ _ h=>OJ h) fun e8 b9=>(BJ rfl (CF U22_ rfl rfl b9 fun b3 a8=>(?_))))
   have:=a8.len_le
   refine BJ rfl (AZ (vs:=[b3]) enter_64 (c_incr (O:=[]++O) b3 r.approved c6 a8 a1.lt) rfl a1 fun e9 c7 a4 c8 f0 c9=>(?_))
   obtain rfl:=c9
   have a0:=a0.mv c8
   refine BJ rfl (HP (KI r.approved) rfl (AA (BX (vO (!(KI r.approved))) rfl rfl (AG (AC (AJ (!(KI r.approved)) rfl rfl (fun a2=>?_) (fun a2=>?_)))))))
   ·have d5:(KI r.approved)=false:=by simpa using a2
    refine AF (AB kR (AA (AD (vO false) rfl (AG (AC (AM (AK (AS rfl (CN rfl rfl rfl) (?_)))))))))
    have e:(FZ r)=false:=by (unfold FZ;((repeat ((refine (if_pos ?_).trans ?_;solve|(simp only [dbs];(repeat ((right;omega)))))));rfl))
    exact ⟨_,rfl,a4.keep,(by exact congrArg vO e.symm)⟩
   have d6:(KI r.approved)=true:=by simpa using a2
   refine AO (AC (AF (AF (AB kR (AA (BH 2 MV (r.state) rfl a0 (fun _ _ _ h=>IZ h) fun f1 c0=>(AA (CC U3_ rfl rfl c0 (AA (GO .i64 r.state (2:Int) rfl rfl (AG (AC (AJ (r.state == (2:Int)) rfl rfl (fun a3=>?_) (fun a3=>?_))))))))))))))
   ·have d7:r.state=(2:Int):=by simpa using a3
    refine AF (FJ 11 _ _ kR kR kR kR kR rfl rfl fun b4 b5=>?_)
    have a5:=a4.call b5
    have d0:Mv ([]) c7 ([]) b4:=Mv.of_keep b5
    have a0:=a0.mv d0
    refine BM (BH 4 f_68_4 (r.vetoed) rfl a0 (fun _ _ _ h=>LA h) fun f2 c1=>(BM (CF U22_ rfl rfl c1 fun f3 a9=>(?_))))
    have:=a9.len_le
    refine BM (CA U22_ rfl a9 (BM (GO .i64 (r.vetoed.length:Int) (1:Int) rfl rfl (BM (AE (vO ((r.vetoed.length:Int) == (1:Int))) rfl (?_))))))
    cases b0:((r.vetoed.length:Int) == (1:Int))
    ·have d8:(r.vetoed.length:Int)≠(1:Int):=by simpa using b0
     refine CD rfl (CD rfl (CD rfl (CD rfl (CD rfl (CD rfl (EQ (AT rfl (AA (BX (vO false) rfl rfl (AA (AD (vO false) rfl (AG (AC (AM (AK (AS rfl (CN rfl rfl rfl) (?_)))))))))))))))))
     have e:(FZ r)=false:=by (simp_all [FZ];done)
     exact ⟨_,rfl,a5.keep,(by exact congrArg vO e.symm)⟩
    have d9:(r.vetoed.length:Int)=(1:Int):=by simpa using b0
    refine DR rfl (BH 4 f_68_4 (r.vetoed) rfl a0 (fun _ _ _ h=>LA h) fun f4 c2=>(DR rfl (CF U22_ rfl rfl c2 fun f5 b1=>(?_))))
    have:=b1.len_le
    refine DR rfl (CP U22_ OV .i64 (0:Int) 0 rfl rfl rfl b1 oM fun f6 c3=>(DR rfl (CC U3_ rfl rfl c3 (DR rfl (BH 1 QX (r.asked) rfl a0 (fun _ _ _ h=>TZ h) fun f7 c4=>(DR rfl (CC U3_ rfl rfl c4 (EQ (BJ rfl (AZ (vs:=[vI (r.vetoed[0]!),vI r.asked]) NH (PR (O:=[]++O) (r.vetoed[0]!) r.asked b4 a5.lt) rfl a5 fun f8 f9 d1 g0 g1 d2=>(?_)))))))))))
    obtain rfl:=d2
    refine AA (AX (vO (DA (r.vetoed[0]!) r.asked)) rfl rfl (AA (AD (vO (DA (r.vetoed[0]!) r.asked)) rfl (AG (AC (AM (AK (AS rfl (CN rfl rfl rfl) (?_)))))))))
    have e:(FZ r)=(DA (r.vetoed[0]!) r.asked):=by (simp_all [FZ];done)
    exact ⟨_,rfl,d1.keep,(by exact congrArg vO e.symm)⟩
   have e0:r.state≠(2:Int):=by simpa using a3
   refine AO (AC (AF (AB kR (AA (BH 4 f_68_4 (r.vetoed) rfl a0 (fun _ _ _ h=>LA h) fun g2 c5=>(AA (CF U22_ rfl rfl c5 fun g3 b2=>(?_))))))))
   have:=b2.len_le
   refine AA (CA U22_ rfl b2 (AA (GO .i64 (r.vetoed.length:Int) (0:Int) rfl rfl (AA (AD (vO ((r.vetoed.length:Int) == (0:Int))) rfl (AG (AC (AM (AS rfl (CN rfl rfl rfl) (?_))))))))))
   have e:(FZ r)=((r.vetoed.length:Int) == (0:Int)):=by (unfold FZ;((repeat ((refine (if_neg ?_).trans ?_;solve|(simp only [dbs];(repeat (omega)))|(rw [Bool.not_eq_true];simp only [dbs];((repeat' apply And.intro) <;> omega)))));rfl))
   exact ⟨_,rfl,a4.keep,(by exact congrArg vO e.symm)⟩
  have e1:(2:Int)<r.state:=by simpa using a7
  refine AT rfl (AT rfl (AT rfl (AT rfl (AA (AX (vO true) rfl rfl (AG (AC (AJ true rfl rfl (fun _=>AF (AB kR (AA (AD (vO false) rfl (AG (AC (AM (AK (AS rfl (CN rfl rfl rfl) (?_)))))))))) (fun h=>by cases h)))))))))
  have e:(FZ r)=false:=by (unfold FZ;((repeat ((refine (if_pos ?_).trans ?_;solve|(simp only [dbs];(repeat (omega))))));rfl))
  exact ⟨_,rfl,a1.keep,(by exact congrArg vO e.symm)⟩
 have e2:r.state<(0:Int):=by simpa using a6
 refine AT rfl (AT rfl (AT rfl (AA (AX (vO true) rfl rfl (AA (AE (vO true) rfl (AT rfl (AT rfl (AT rfl (AT rfl (AA (AX (vO true) rfl rfl (AG (AC (AJ true rfl rfl (fun _=>AF (AB kR (AA (AD (vO false) rfl (AG (AC (AM (AK (AS rfl (CN rfl rfl rfl) (?_)))))))))) (fun h=>by cases h))))))))))))))))
 have e:(FZ r)=false:=by (unfold FZ;((repeat ((refine (if_pos ?_).trans ?_;solve|(simp only [dbs];(repeat (omega))))));rfl))
 exact ⟨_,rfl,a1.keep,(by exact congrArg vO e.symm)⟩
open Go.Fw Go.RowKit
set_option maxHeartbeats 4000000 in
set_option maxRecDepth 100000 in
theorem PO {O:List Nat} (c_cs:List Value) (c:Circle) (w:World) (e2:Enc.circle.rd w O c_cs c) (hO:∀ b∈O,b<w.heap.size):CE Try.prog 31 [.agg c_cs.toArray] w (fun v _=>v=vI (AQ c)):= by
 have e2:Enc.circle.rd w ([]++O) c_cs c:=e2
 have s0:St w O w []:=St.start hO
 refine BI 95 Try.func31 rfl rfl oT (fun F0=>AF (AB kR (AA (ER (E:=Enc.circle) (vA c_cs.toArray) (c_cs) c rfl rfl e2 s0 fun d8 f6 a5 k2 k3 a0=>(AA (AD (vI 0) rfl (AG (AC (AF (AB kR (AA (BH 3 PK (c.guardians) rfl a0 (fun _ _ _ h=>HS h) fun k4 e3=>(AA (CF U22_ rfl rfl e3 fun k5 c1=>(?_)))))))))))))))
 have:=c1.len_le
 refine AA (CA U22_ rfl c1 (AA (AD (vI (c.guardians.length:Int)) rfl (AG (AC (AF (AF (AB kR (AA (BH 0 MR (c.epoch) rfl a0 (fun _ _ _ h=>KO h) fun k6 e4=>(AA (CC U3_ rfl rfl e4 (AA (DO .i64 c.epoch (0:Int) rfl rfl (AA (AE (vO (decide (c.epoch<(0:Int)))) rfl (?_)))))))))))))))))
 cases c2:(decide (c.epoch<(0:Int)))
 ·have h2:(0:Int)≤c.epoch:=by simpa using c2
  refine BJ rfl (BH 0 MR (c.epoch) rfl a0 (fun _ _ _ h=>KO h) fun k7 e5=>(BJ rfl (CC U3_ rfl rfl e5 (BJ rfl (GQ .i64 c.epoch (1048576:Int) rfl rfl (AA (BX (vO (decide ((1048576:Int)<c.epoch))) rfl rfl (AA (AE (vO (decide ((1048576:Int)<c.epoch))) rfl (?_))))))))))
  cases c3:(decide ((1048576:Int)<c.epoch))
  ·have h3:c.epoch≤(1048576:Int):=by simpa using c3
   refine BJ rfl (AE (vI (c.guardians.length:Int)) rfl (BJ rfl (DO .i64 (c.guardians.length:Int) (1:Int) rfl rfl (AA (BX (vO (decide ((c.guardians.length:Int)<(1:Int)))) rfl rfl (AA (AE (vO (decide ((c.guardians.length:Int)<(1:Int)))) rfl (?_))))))))
   cases c4:(decide ((c.guardians.length:Int)<(1:Int)))
   ·have h4:(1:Int)≤(c.guardians.length:Int):=by simpa using c4
    refine BJ rfl (AE (vI (c.guardians.length:Int)) rfl (BJ rfl (GQ .i64 (c.guardians.length:Int) (8:Int) rfl rfl (AA (BX (vO (decide ((8:Int)<(c.guardians.length:Int)))) rfl rfl (AA (AE (vO (decide ((8:Int)<(c.guardians.length:Int)))) rfl (?_))))))))
    cases c5:(decide ((8:Int)<(c.guardians.length:Int)))
    ·have h5:(c.guardians.length:Int)≤(8:Int):=by simpa using c5
     refine BJ rfl (BH 3 PK (c.guardians) rfl a0 (fun _ _ _ h=>HS h) fun k8 e6=>(BJ rfl (CF U22_ rfl rfl e6 fun d9 c6=>(?_))))
     have:=c6.len_le
     refine BJ rfl (AZ (vs:=[d9]) enter_64 (c_incr (O:=[]++O) d9 c.guardians f6 c6 a5.lt) rfl a5 fun k9 f7 a6 f8 l0 f9=>(?_))
     obtain rfl:=f9
     have a0:=a0.mv f8
     refine BJ rfl (HP (KI c.guardians) rfl (AA (BX (vO (!(KI c.guardians))) rfl rfl (AA (AE (vO (!(KI c.guardians))) rfl (?_))))))
     cases c7:(!(KI c.guardians))
     ·have h6:(KI c.guardians)=true:=by simpa using c7
      refine BJ rfl (BH 1 OQ (c.threshold) rfl a0 (fun _ _ _ h=>IT h) fun l1 e7=>(BJ rfl (CC U3_ rfl rfl e7 (BJ rfl (DO .i64 c.threshold (1:Int) rfl rfl (AA (BX (vO (decide (c.threshold<(1:Int)))) rfl rfl (AA (AE (vO (decide (c.threshold<(1:Int)))) rfl (?_))))))))))
      cases c8:(decide (c.threshold<(1:Int)))
      ·have h7:(1:Int)≤c.threshold:=by simpa using c8
       refine BJ rfl (BH 1 OQ (c.threshold) rfl a0 (fun _ _ _ h=>IT h) fun l2 e8=>(BJ rfl (CC U3_ rfl rfl e8 (BJ rfl (AE (vI (c.guardians.length:Int)) rfl (BJ rfl (GQ .i64 c.threshold (c.guardians.length:Int) rfl rfl (AA (BX (vO (decide ((c.guardians.length:Int)<c.threshold))) rfl rfl (AA (AE (vO (decide ((c.guardians.length:Int)<c.threshold))) rfl (?_))))))))))))
       cases c9:(decide ((c.guardians.length:Int)<c.threshold))
       ·have h8:c.threshold≤(c.guardians.length:Int):=by simpa using c9
        refine BJ rfl (BH 2 f_28_2 (c.wait) rfl a0 (fun _ _ _ h=>QI h) fun l3 e9=>(BJ rfl (CC U3_ rfl rfl e9 (BJ rfl (AZ (vs:=[vI c.wait,vI 0]) NH (PR (O:=[]++O) c.wait (0:Int) f7 a6.lt) rfl a6 fun l4 l5 b7 g0 l6 g1=>(?_))))))
        obtain rfl:=g1
        have a0:=a0.mv g0
        refine BJ rfl (HP (DA c.wait (0:Int)) rfl (AA (BX (vO (!(DA c.wait (0:Int)))) rfl rfl (AA (AE (vO (!(DA c.wait (0:Int)))) rfl (?_))))))
        cases d0:(!(DA c.wait (0:Int)))
        ·have h9:(DA c.wait (0:Int))=true:=by simpa using d0
         refine BJ rfl (BH 4 FD (c.recs) rfl a0 (fun _ _ _ h=>DI h) fun l7 f0=>(BJ rfl (CF U26_ rfl rfl f0 fun l8 d1=>(?_))))
         have:=d1.len_le
         refine BJ rfl (CA U26_ rfl d1 (BJ rfl (GQ .i64 (c.recs.length:Int) (1024:Int) rfl rfl (AA (BX (vO (decide ((1024:Int)<(c.recs.length:Int)))) rfl rfl (AG (AC (AJ (decide ((1024:Int)<(c.recs.length:Int))) rfl rfl (fun b3=>?_) (fun b3=>?_)))))))))
         ·have i0:(1024:Int)<(c.recs.length:Int):=by simpa using b3
          refine AF (AB kR (AA (AD (vI 450) rfl (AG (AC (AM (AK (AS rfl (CN rfl rfl rfl) (?_)))))))))
          have e:(AQ c)=(450:Int):=by (unfold AQ;((repeat ((refine (if_pos ?_).trans ?_;solve|(simp only [ET,FP,dbs];(repeat (omega))))));rfl))
          exact ⟨_,rfl,b7.keep,by rw [e];exact rfl⟩
         have i1:(c.recs.length:Int)≤(1024:Int):=by simpa using b3
         refine AO (AC (AF (AB kR (AA (AD (vI 0) rfl (AG (AC (AF (AF (AB kR (AA (BH 4 FD (c.recs) rfl a0 (fun _ _ _ h=>DI h) fun l9 f1=>(AA (CF U26_ rfl rfl f1 fun e0 a1=>(?_)))))))))))))))
         have:=a1.len_le
         refine AA (CA U26_ rfl a1 (AA (AE (vI 0) rfl (AG (AC (BA (CX (fun mI FI wI=>∃ (k:Nat) (B:List Nat),k≤c.recs.length∧AQ c=EX (fun k=>if FP c.recs k then some 450 else none) 0 k (c.recs.length - k)∧mI=c.recs.length - k∧(∃ F1,FI=FR F1 [(1,vP (some d8)),(4,vI (HX c.recs k)),(56,e0),(57,vI (c.recs.length:Int)),(58,vI ((k:Nat):Int)),(95,undef)])∧St w O wI B∧PT Enc.circle wI (B++O) (.pointer (some d8)) (c)∧BB Enc.recovery wI (B++O) (e0) (c.recs)) (c.recs.length - (0)) ?_ ?_)))))))
         ·exact ⟨(0),[],oM,(by unfold AQ;((repeat ((refine (if_neg ?_).trans ?_;solve|(simp only [ET,FP,dbs];(repeat (first|omega|assumption|(right;first|omega|assumption|(constructor <;> first|omega|assumption))|left)))|(rw [Bool.not_eq_true];simp only [ET,FP,dbs];((repeat' apply And.intro) <;> omega)))));rfl)),rfl,⟨_,AP _ ⟨rfl,(by rfl),rfl,rfl,(by rfl),rfl,trivial⟩⟩,b7,a0,a1⟩
         intro m9 F n2 hI
         clear a0 a1
         obtain ⟨k,d2,hr0_0,hr0_1,n3,⟨n4,rfl⟩,h1,a0,a1⟩:=hI
         refine AF (AB kR (AA (DO .i64 ((k:Nat):Int) (c.recs.length:Int) rfl rfl (AG (AC (AF (AJ (decide (((k:Nat):Int)<(c.recs.length:Int))) rfl rfl (fun b4=>?_) (fun b4=>?_))))))))
         ·have i2:((k:Nat):Int)<(c.recs.length:Int):=by simpa using b4
          refine AO (AC (AF (BA (AF (AB kR (AA (AE (vI ((k:Nat):Int)) rfl (AA (CP U26_ IE .i64 ((k:Nat):Int) k rfl rfl rfl a1 oM fun m0 f2=>(AA (DF U68_ rfl IE rfl f2 fun f3 b5=>(AA (DE [vI 0,vI 0,vI 0,nS,nS] OW rfl h1 fun a7 g2 g3 g4 b8 m1 f4=>(?_))))))))))))))
          clear g3
          have a0:=a0.mv b8
          have a1:=a1.mv b8
          have b5:Enc.recovery.rd g2 ((a7 :: d2)++O) f3 (c.recs[k]!):=Enc.mv Enc.recovery (x:=c.recs[k]!) b5 b8
          refine AA (AD (vI ((k:Nat):Int)) rfl (?_))
          obtain ⟨a8,a9,rfl,a3,a4⟩:=b5
          have:=a3.len_le
          have:=a4.len_le
          refine CB (BF (vs:=[vI ((c.recs[k]!).no),vI ((c.recs[k]!).asked),vI ((c.recs[k]!).state),a8,a9]) (.agg #[vI ((c.recs[k]!).no),vI ((c.recs[k]!).asked),vI ((c.recs[k]!).state),a8,a9]) rfl rfl rfl IE (fun u hu=>by simp only [List.mem_cons,List.not_mem_nil,or_false] at hu;rcases hu with rfl|rfl|rfl|rfl|rfl <;> first|rfl|exact a3.oneCell|exact a4.oneCell) (by repeat (constructor)) f4 oT g4 fun g5 b9 b0 m2 a2=>(?_))
          have a0:=a0.mv b0
          have a1:=a1.mv b0
          have a3:=a3.mv b0
          have a4:=a4.mv b0
          refine AG (AC (AF (AF (AB kR (AA (AU 0 f_68_0 rfl (AA (AW U3_ rfl (vI ((c.recs[k]!).no)) rfl a2 rfl (AA (AE (vI ((k:Nat):Int)) rfl (AA (CT .i64 ((c.recs[k]!).no) ((k:Nat):Int) rfl rfl (AA (AE (vO (((c.recs[k]!).no) != ((k:Nat):Int))) rfl (?_)))))))))))))))
          cases d3:(((c.recs[k]!).no) != ((k:Nat):Int))
          ·have i3:(c.recs[k]!).no=((k:Nat):Int):=by simpa using d3
           refine BJ rfl (AU 1 QX rfl (BJ rfl (AW U3_ rfl (vI ((c.recs[k]!).asked)) rfl a2 rfl (BJ rfl (AE (vI (HX c.recs k)) rfl (BJ rfl (AZ (vs:=[vI ((c.recs[k]!).asked),vI (HX c.recs k)]) NH (PR (O:=(a7 :: d2)++O) ((c.recs[k]!).asked) (HX c.recs k) g5 b9.lt) rfl b9 fun m3 g6 c0 b1 g7 g8=>(?_))))))))
           obtain rfl:=g8
           have a0:=a0.mv b1
           have a1:=a1.mv b1
           have a3:=a3.mv b1
           have a4:=a4.mv b1
           have a2:=a2.keep g7 (by simp)
           refine BJ rfl (HP (DA ((c.recs[k]!).asked) (HX c.recs k)) rfl (AA (BX (vO (!(DA ((c.recs[k]!).asked) (HX c.recs k)))) rfl rfl (AA (AE (vO (!(DA ((c.recs[k]!).asked) (HX c.recs k)))) rfl (?_))))))
           cases d4:(!(DA ((c.recs[k]!).asked) (HX c.recs k)))
           ·have i4:(DA ((c.recs[k]!).asked) (HX c.recs k))=true:=by simpa using d4
            refine BJ rfl (BW (vs:=[vI ((c.recs[k]!).no),vI ((c.recs[k]!).asked),vI ((c.recs[k]!).state),a8,a9]) U68_ rfl IE rfl a2 rfl (BJ rfl (AZ (vs:=[vA #[vI ((c.recs[k]!).no),vI ((c.recs[k]!).asked),vI ((c.recs[k]!).state),a8,a9]]) enter_66 (c_recOK (O:=(a7 :: d2)++O) [vI ((c.recs[k]!).no),vI ((c.recs[k]!).asked),vI ((c.recs[k]!).state),a8,a9] (c.recs[k]!) g6 ⟨_,_,rfl,a3,a4⟩ c0.lt) rfl c0 fun m4 m5 b2 e1 g9 h0=>(?_))))
            obtain rfl:=h0
            have a0:=a0.mv e1
            have a1:=a1.mv e1
            have a2:=a2.keep g9 (by simp)
            refine BJ rfl (HP (FZ (c.recs[k]!)) rfl (AA (BX (vO (!(FZ (c.recs[k]!)))) rfl rfl (AA (AE (vO (!(FZ (c.recs[k]!)))) rfl (?_))))))
            cases d5:(!(FZ (c.recs[k]!)))
            ·have i5:(FZ (c.recs[k]!))=true:=by simpa using d5
             refine BJ rfl (AU 2 MV rfl (BJ rfl (AW U3_ rfl (vI ((c.recs[k]!).state)) rfl a2 rfl (BJ rfl (GO .i64 ((c.recs[k]!).state) (0:Int) rfl rfl (BJ rfl (AE (vO (((c.recs[k]!).state) == (0:Int))) rfl (?_))))))))
             cases d6:(((c.recs[k]!).state) == (0:Int))
             ·have i6:(c.recs[k]!).state≠(0:Int):=by simpa using d6
              refine AT rfl (AT rfl (AT rfl (AT rfl (AT rfl (AT rfl (BJ rfl (BX (vO false) rfl rfl (AA (BX (vO false) rfl rfl (AG (AC (AJ false rfl rfl (fun h=>by cases h) (fun _=>AO (AC (AB kR (AA (AU 1 QX rfl (AA (AW U3_ rfl (vI ((c.recs[k]!).asked)) rfl a2 rfl (AA (AD (vI ((c.recs[k]!).asked)) rfl (AG (BZ (AC (AB kR (AA (DC .i64 ((k:Nat):Int) (1:Int) (((k+1:Nat):Int)) rfl rfl (FQ oM oM) (AA (AE (vI ((k+1:Nat):Int)) rfl (AG (AC (?_))))))))))))))))))))))))))))))))
              exact ⟨_,oM,(k+1),(a7 :: d2),oM,(hr0_1.trans (FF oM (by ((repeat ((refine (if_neg ?_).trans ?_;solve|(simp only [ET,FP,dbs];(repeat (first|omega|assumption|(right;first|omega|assumption|(constructor <;> first|omega|assumption))|left)))|(rw [Bool.not_eq_true];simp only [ET,FP,dbs];((repeat' apply And.intro) <;> omega)))));rfl)))),rfl,⟨_,AP _ ⟨rfl,(by rfl),rfl,rfl,(by rfl),rfl,trivial⟩⟩,b2,a0,a1⟩
             have i7:(c.recs[k]!).state=(0:Int):=by simpa using d6
             refine BJ rfl (AE (vI ((k:Nat):Int)) rfl (BJ rfl (BH 4 FD (c.recs) rfl a0 (fun _ _ _ h=>DI h) fun m6 f5=>(BJ rfl (CF U26_ rfl rfl f5 fun m7 d7=>(?_))))))
             have:=d7.len_le
             refine BJ rfl (CA U26_ rfl d7 (BJ rfl (IA .i64 (c.recs.length:Int) (1:Int) ((c.recs.length:Int) - (1:Int)) rfl rfl (FQ oM oM) (BJ rfl (DO .i64 ((k:Nat):Int) ((c.recs.length:Int) - (1:Int)) rfl rfl (BJ rfl (AX (vO (decide (((k:Nat):Int)<(c.recs.length:Int) - (1:Int)))) rfl rfl (AA (BX (vO (decide (((k:Nat):Int)<(c.recs.length:Int) - (1:Int)))) rfl rfl (AG (AC (AJ (decide (((k:Nat):Int)<(c.recs.length:Int) - (1:Int))) rfl rfl (fun b6=>?_) (fun b6=>?_)))))))))))))
             ·have i8:((k:Nat):Int)<(c.recs.length:Int) - (1:Int):=by simpa using b6
              refine AF (AB kR (AA (AD (vI 450) rfl (AG (AC (AM (AK (BK (AK (AK (BK (AK (AS rfl (CN rfl rfl rfl) (?_))))))))))))))
              have e:(AQ c)=(450:Int):=by (rw [hr0_1];exact DB oM (by ((repeat ((refine (if_pos ?_).trans ?_;solve|(simp only [ET,FP,dbs];(repeat (omega))))));rfl)))
              exact ⟨_,rfl,b2.keep,by rw [e];exact rfl⟩
             have i9:(c.recs.length:Int) - (1:Int)≤((k:Nat):Int):=by simpa using b6
             refine AO (AC (AB kR (AA (AU 1 QX rfl (AA (AW U3_ rfl (vI ((c.recs[k]!).asked)) rfl a2 rfl (AA (AD (vI ((c.recs[k]!).asked)) rfl (AG (BZ (AC (AB kR (AA (DC .i64 ((k:Nat):Int) (1:Int) (((k+1:Nat):Int)) rfl rfl (FQ oM oM) (AA (AE (vI ((k+1:Nat):Int)) rfl (AG (AC (?_)))))))))))))))))))
             exact ⟨_,oM,(k+1),(a7 :: d2),oM,(hr0_1.trans (FF oM (by ((repeat ((refine (if_neg ?_).trans ?_;solve|(simp only [ET,FP,dbs];(repeat (first|omega|assumption|(right;first|omega|assumption|(constructor <;> first|omega|assumption))|left)))|(rw [Bool.not_eq_true];simp only [ET,FP,dbs];((repeat' apply And.intro) <;> omega)))));rfl)))),rfl,⟨_,AP _ ⟨rfl,(by rfl),rfl,rfl,(by rfl),rfl,trivial⟩⟩,b2,a0,a1⟩
            have j0:(FZ (c.recs[k]!))=false:=by simpa using d5
            refine AT rfl (AT rfl (AT rfl (AT rfl (KC rfl (KC rfl (KC rfl (KC rfl (KC rfl (KC rfl (AT rfl (AA (AX (vO true) rfl rfl (AG (AC (AJ true rfl rfl (fun _=>AF (AB kR (AA (AD (vI 450) rfl (AG (AC (AM (AK (BK (AK (AK (BK (AK (AS rfl (CN rfl rfl rfl) (?_))))))))))))))) (fun h=>by cases h))))))))))))))))
            have e:(AQ c)=(450:Int):=by (rw [hr0_1];exact DB oM (by ((repeat ((refine (if_pos ?_).trans ?_;solve|(simp only [ET,FP,dbs];(repeat (first|(right;omega)|left))))));rfl)))
            exact ⟨_,rfl,b2.keep,by rw [e];exact rfl⟩
           have j1:(DA ((c.recs[k]!).asked) (HX c.recs k))=false:=by simpa using d4
           refine AT rfl (AT rfl (AT rfl (AA (AX (vO true) rfl rfl (AA (AE (vO true) rfl (AT rfl (AT rfl (AT rfl (AT rfl (KC rfl (KC rfl (KC rfl (KC rfl (KC rfl (KC rfl (AT rfl (AA (AX (vO true) rfl rfl (AG (AC (AJ true rfl rfl (fun _=>AF (AB kR (AA (AD (vI 450) rfl (AG (AC (AM (AK (BK (AK (AK (BK (AK (AS rfl (CN rfl rfl rfl) (?_))))))))))))))) (fun h=>by cases h)))))))))))))))))))))))
           have e:(AQ c)=(450:Int):=by (rw [hr0_1];exact DB oM (by ((repeat ((refine (if_pos ?_).trans ?_;solve|(simp only [ET,FP,dbs];(repeat (first|(right;omega)|left))))));rfl)))
           exact ⟨_,rfl,c0.keep,by rw [e];exact rfl⟩
          have j2:(c.recs[k]!).no≠((k:Nat):Int):=by simpa using d3
          refine AT rfl (AT rfl (AT rfl (AT rfl (AT rfl (AA (AX (vO true) rfl rfl (AA (AE (vO true) rfl (AT rfl (AT rfl (AT rfl (AA (AX (vO true) rfl rfl (AA (AE (vO true) rfl (AT rfl (AT rfl (AT rfl (AT rfl (KC rfl (KC rfl (KC rfl (KC rfl (KC rfl (KC rfl (AT rfl (AA (AX (vO true) rfl rfl (AG (AC (AJ true rfl rfl (fun _=>AF (AB kR (AA (AD (vI 450) rfl (AG (AC (AM (AK (BK (AK (AK (BK (AK (AS rfl (CN rfl rfl rfl) (?_))))))))))))))) (fun h=>by cases h))))))))))))))))))))))))))))))))
          have e:(AQ c)=(450:Int):=by (rw [hr0_1];exact DB oM (by ((repeat ((refine (if_pos ?_).trans ?_;solve|(simp only [ET,FP,dbs];(repeat (omega))))));rfl)))
          exact ⟨_,rfl,b9.keep,by rw [e];exact rfl⟩
         have j3:(c.recs.length:Int)≤((k:Nat):Int):=by simpa using b4
         refine CV (BL (BL (CL (AC (AF (AB kR (AA (AD (vI 0) rfl (AG (AC (AM (AS rfl (CN rfl rfl rfl) (?_)))))))))))))
         have e:(AQ c)=(0:Int):=by (rw [hr0_1];exact GR oM)
         exact ⟨_,rfl,h1.keep,by rw [e];exact rfl⟩
        have j4:(DA c.wait (0:Int))=false:=by simpa using d0
        refine AT rfl (AT rfl (AT rfl (AT rfl (AA (AX (vO true) rfl rfl (AG (AC (AJ true rfl rfl (fun _=>AF (AB kR (AA (AD (vI 450) rfl (AG (AC (AM (AK (AS rfl (CN rfl rfl rfl) (?_)))))))))) (fun h=>by cases h)))))))))
        have e:(AQ c)=(450:Int):=by (unfold AQ;((repeat ((refine (if_pos ?_).trans ?_;solve|(simp only [ET,FP,dbs];(repeat (first|(right;omega)|left))))));rfl))
        exact ⟨_,rfl,b7.keep,by rw [e];exact rfl⟩
       have j5:(c.guardians.length:Int)<c.threshold:=by simpa using c9
       refine AT rfl (AT rfl (AT rfl (AT rfl (AA (AX (vO true) rfl rfl (AA (AE (vO true) rfl (AT rfl (AT rfl (AT rfl (AT rfl (AA (AX (vO true) rfl rfl (AG (AC (AJ true rfl rfl (fun _=>AF (AB kR (AA (AD (vI 450) rfl (AG (AC (AM (AK (AS rfl (CN rfl rfl rfl) (?_)))))))))) (fun h=>by cases h)))))))))))))))))
       have e:(AQ c)=(450:Int):=by (unfold AQ;((repeat ((refine (if_pos ?_).trans ?_;solve|(simp only [ET,FP,dbs];(repeat (omega))))));rfl))
       exact ⟨_,rfl,a6.keep,by rw [e];exact rfl⟩
      have j6:c.threshold<(1:Int):=by simpa using c8
      refine AT rfl (AT rfl (AT rfl (AT rfl (AA (AX (vO true) rfl rfl (AA (AE (vO true) rfl (AT rfl (AT rfl (AT rfl (AT rfl (AA (AX (vO true) rfl rfl (AA (AE (vO true) rfl (AT rfl (AT rfl (AT rfl (AT rfl (AA (AX (vO true) rfl rfl (AG (AC (AJ true rfl rfl (fun _=>AF (AB kR (AA (AD (vI 450) rfl (AG (AC (AM (AK (AS rfl (CN rfl rfl rfl) (?_)))))))))) (fun h=>by cases h)))))))))))))))))))))))))
      have e:(AQ c)=(450:Int):=by (unfold AQ;((repeat ((refine (if_pos ?_).trans ?_;solve|(simp only [ET,FP,dbs];(repeat (omega))))));rfl))
      exact ⟨_,rfl,a6.keep,by rw [e];exact rfl⟩
     have j7:(KI c.guardians)=false:=by simpa using c7
     refine AT rfl (AT rfl (AT rfl (AA (AX (vO true) rfl rfl (AA (AE (vO true) rfl (AT rfl (AT rfl (AT rfl (AT rfl (AA (AX (vO true) rfl rfl (AA (AE (vO true) rfl (AT rfl (AT rfl (AT rfl (AT rfl (AA (AX (vO true) rfl rfl (AA (AE (vO true) rfl (AT rfl (AT rfl (AT rfl (AT rfl (AA (AX (vO true) rfl rfl (AG (AC (AJ true rfl rfl (fun _=>AF (AB kR (AA (AD (vI 450) rfl (AG (AC (AM (AK (AS rfl (CN rfl rfl rfl) (?_)))))))))) (fun h=>by cases h))))))))))))))))))))))))))))))))
     have e:(AQ c)=(450:Int):=by (unfold AQ;((repeat ((refine (if_pos ?_).trans ?_;solve|(simp only [ET,FP,dbs];(repeat (first|(right;omega)|left))))));rfl))
     exact ⟨_,rfl,a6.keep,by rw [e];exact rfl⟩
    have j8:(8:Int)<(c.guardians.length:Int):=by simpa using c5
    refine AT rfl (AT rfl (AT rfl (AT rfl (AA (AX (vO true) rfl rfl (AA (AE (vO true) rfl (AT rfl (AT rfl (AT rfl (AA (AX (vO true) rfl rfl (AA (AE (vO true) rfl (AT rfl (AT rfl (AT rfl (AT rfl (AA (AX (vO true) rfl rfl (AA (AE (vO true) rfl (AT rfl (AT rfl (AT rfl (AT rfl (AA (AX (vO true) rfl rfl (AA (AE (vO true) rfl (AT rfl (AT rfl (AT rfl (AT rfl (AA (AX (vO true) rfl rfl (AG (AC (AJ true rfl rfl (fun _=>AF (AB kR (AA (AD (vI 450) rfl (AG (AC (AM (AK (AS rfl (CN rfl rfl rfl) (?_)))))))))) (fun h=>by cases h))))))))))))))))))))))))))))))))))))))))
    have e:(AQ c)=(450:Int):=by (unfold AQ;((repeat ((refine (if_pos ?_).trans ?_;solve|(simp only [ET,FP,dbs];(repeat (omega))))));rfl))
    exact ⟨_,rfl,a5.keep,by rw [e];exact rfl⟩
   have j9:(c.guardians.length:Int)<(1:Int):=by simpa using c4
   refine AT rfl (AT rfl (AA (AX (vO true) rfl rfl (AA (AE (vO true) rfl (AT rfl (AT rfl (AT rfl (AT rfl (AA (AX (vO true) rfl rfl (AA (AE (vO true) rfl (AT rfl (AT rfl (AT rfl (AA (AX (vO true) rfl rfl (AA (AE (vO true) rfl (AT rfl (AT rfl (AT rfl (AT rfl (AA (AX (vO true) rfl rfl (AA (AE (vO true) rfl (AT rfl (AT rfl (AT rfl (AT rfl (AA (AX (vO true) rfl rfl (AA (AE (vO true) rfl (AT rfl (AT rfl (AT rfl (AT rfl (AA (AX (vO true) rfl rfl (AG (AC (AJ true rfl rfl (fun _=>AF (AB kR (AA (AD (vI 450) rfl (AG (AC (AM (AK (AS rfl (CN rfl rfl rfl) (?_)))))))))) (fun h=>by cases h))))))))))))))))))))))))))))))))))))))))))))))
   have e:(AQ c)=(450:Int):=by (unfold AQ;((repeat ((refine (if_pos ?_).trans ?_;solve|(simp only [ET,FP,dbs];(repeat (omega))))));rfl))
   exact ⟨_,rfl,a5.keep,by rw [e];exact rfl⟩
  have k0:(1048576:Int)<c.epoch:=by simpa using c3
  refine AT rfl (AT rfl (AA (AX (vO true) rfl rfl (AA (AE (vO true) rfl (AT rfl (AT rfl (AA (AX (vO true) rfl rfl (AA (AE (vO true) rfl (AT rfl (AT rfl (AT rfl (AT rfl (AA (AX (vO true) rfl rfl (AA (AE (vO true) rfl (AT rfl (AT rfl (AT rfl (AA (AX (vO true) rfl rfl (AA (AE (vO true) rfl (AT rfl (AT rfl (AT rfl (AT rfl (AA (AX (vO true) rfl rfl (AA (AE (vO true) rfl (AT rfl (AT rfl (AT rfl (AT rfl (AA (AX (vO true) rfl rfl (AA (AE (vO true) rfl (AT rfl (AT rfl (AT rfl (AT rfl (AA (AX (vO true) rfl rfl (AG (AC (AJ true rfl rfl (fun _=>AF (AB kR (AA (AD (vI 450) rfl (AG (AC (AM (AK (AS rfl (CN rfl rfl rfl) (?_)))))))))) (fun h=>by cases h))))))))))))))))))))))))))))))))))))))))))))))))))))
  have e:(AQ c)=(450:Int):=by (unfold AQ;((repeat ((refine (if_pos ?_).trans ?_;solve|(simp only [ET,FP,dbs];(repeat (omega))))));rfl))
  exact ⟨_,rfl,a5.keep,by rw [e];exact rfl⟩
 have k1:c.epoch<(0:Int):=by simpa using c2
 refine AT rfl (AT rfl (AT rfl (AA (AX (vO true) rfl rfl (AA (AE (vO true) rfl (AT rfl (AT rfl (AA (AX (vO true) rfl rfl (AA (AE (vO true) rfl (AT rfl (AT rfl (AA (AX (vO true) rfl rfl (AA (AE (vO true) rfl (AT rfl (AT rfl (AT rfl (AT rfl (AA (AX (vO true) rfl rfl (AA (AE (vO true) rfl (AT rfl (AT rfl (AT rfl (AA (AX (vO true) rfl rfl (AA (AE (vO true) rfl (AT rfl (AT rfl (AT rfl (AT rfl (AA (AX (vO true) rfl rfl (AA (AE (vO true) rfl (AT rfl (AT rfl (AT rfl (AT rfl (AA (AX (vO true) rfl rfl (AA (AE (vO true) rfl (AT rfl (AT rfl (AT rfl (AT rfl (AA (AX (vO true) rfl rfl (AG (AC (AJ true rfl rfl (fun _=>AF (AB kR (AA (AD (vI 450) rfl (AG (AC (AM (AK (AS rfl (CN rfl rfl rfl) (?_)))))))))) (fun h=>by cases h)))))))))))))))))))))))))))))))))))))))))))))))))))))))))))
 have e:(AQ c)=(450:Int):=by (unfold AQ;((repeat ((refine (if_pos ?_).trans ?_;solve|(simp only [ET,FP,dbs];(repeat (omega))))));rfl))
 exact ⟨_,rfl,a5.keep,by rw [e];exact rfl⟩
end Go.Proofs.Ytjgfokolnkhafaa
