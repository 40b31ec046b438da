/- What the laws of this part rest on: lemmas, and the walks of the functions. No conditions. -/
import Derived.WalkKit
import Derived.WalkSpells
import Derived.WalkLawsBesides
import Derived.RangeFuncLeaves
import Derived.Maps.AppendAt
import Derived.Deep.AppendLies
import Derived.Deep.Slices
import Derived.OpenShut
import Derived.ProofKit
import Derived.Below
import Derived.ChangeSame
import Derived.Carry
import Derived.RangeFuncRecord
import Derived.Laws.Tables
import Derived.Recover
import Derived.DefersIn
import Derived.Lib.AppendZerosOnto
import Derived.Lib.Overlaps
import Derived.Laws.CopyRow
import Derived.Laws.StructEq
import Derived.ChangeKeysEq
import Derived.OrdersIn
import Derived.Test.YtjgfokolnkhafaaGreatRows
import Derived.Test.YtjgfokolnkhafaaGreatPD21
set_option linter.unusedSimpArgs false
set_option linter.unusedVariables false
namespace Go.Fw
open Go.RowKit
def HX (cur:List Value) (o:Nat) (ms:List Value):List Value:=cur.take o++ms++cur.drop (o+ms.length)
theorem NV {cur:List Value} {o:Nat} {ms:List Value} (h:o+ms.length≤cur.length):(HX cur o ms).length=cur.length:=by
  simp [HX];omega
theorem Keep.step0 {C O:List Nat} {w w1 w2:World} (h:Keep C w w1) (k:Keep O w1 w2) (hs:∀ b∈O,b∈C∨w.heap.size≤b):Keep C w w2:=
  ⟨k.os.trans h.os,k.tape.trans h.tape,k.output.trans h.output,Nat.le_trans h.size k.size,fun i hi ho=>(k.block i (Nat.lt_of_lt_of_le hi h.size) (fun hO=>by rcases hs i hO with h1|h1;exact ho h1;omega)).trans (h.block i hi ho)⟩
def Rds {α:Type} (E:Enc α) (w:World) (O:List Nat) (css:List (List Value)) (l:List α):Prop:=
  css.length=l.length∧∀ (i:Nat) (cs:List Value) (x:α),css[i]? = some cs→l[i]? = some x→E.rd w O cs x
theorem own_open {α:Type} {E:Enc α} {e base:Nat} {O:List Nat} {w:World} {v:Value} {l:List α} (h:EX E e base O w v l) (h0:0<l.length) :
    ∃ g c cur css,v = .slice (some ⟨g,0,none⟩) l.length c∧base≤g∧IX w g e cur∧l.length≤c∧c≤maxLen∧cur.length=c*E.size∧css.flatten=cur.take (l.length*E.size)∧Rds E w O css l:=by
  obtain ⟨css,h1,h2,h3⟩:=h
  rcases h2.2 with ⟨rfl,h4⟩|⟨g,cap,cur,rfl,hb,hg,hc,hm,hsz,htk⟩
  · omega
  · exact ⟨g,cap,cur.toList,css,rfl,hb,hg,hc,hm,by simpa using hsz,htk.symm,h1,h3⟩
theorem Rds.lens {α:Type} {E:Enc α} {w:World} {O:List Nat} {css:List (List Value)} {l:List α} (h:Rds E w O css l):∀ cs∈css,cs.length=E.size:=EX.lens h.1 h.2
theorem Rds.ones {α:Type} {E:Enc α} {w:World} {O:List Nat} {css:List (List Value)} {l:List α} (h:Rds E w O css l):∀ u∈css.flatten,u.oneCell'=true:=by
  intro u hu
  obtain ⟨cs,hcs,hucs⟩:=List.mem_flatten.1 hu
  obtain ⟨j,hj,rfl⟩:=List.getElem_of_mem hcs
  have hjl:j<l.length:=by rw [← h.1];exact hj
  exact E.one (h.2 j _ l[j] (List.getElem?_eq_getElem hj) (List.getElem?_eq_getElem hjl)) u hucs
theorem Rds.flen {α:Type} {E:Enc α} {w:World} {O:List Nat} {css:List (List Value)} {l:List α} (h:Rds E w O css l):css.flatten.length=l.length*E.size:=by rw [GL css h.lens,h.1]
theorem EX.ins {α:Type} {E:Enc α} {e base:Nat} {B B' O0:List Nat} {w1 w':World} {g c i:Nat} {cur:List Value} {css css':List (List Value)} {l m:List α} (hl:Rds E w1 (B++O0) css l) (hm:Rds E w1 (B++O0) css' m) (mv:Mv B w1 B' w')
    (hb:IX w' g e cur) (hg:base≤g) (hi:i≤l.length) (hlen:cur.length=c*E.size) (hc:l.length+m.length≤c) (hmax:c≤maxLen) (htk:cur.take ((l.length+m.length)*E.size)=(css.take i).flatten++css'.flatten++(css.drop i).flatten) :
    EX E e base (B'++O0) w' (.slice (some ⟨g,0,none⟩) (l.length+m.length) c) (l.take i++m++l.drop i):=by
  have hll:(l.take i++m++l.drop i).length=l.length+m.length:=by simp;omega
  refine ⟨css.take i++css'++css.drop i,?_,⟨?_, .inr ⟨g,c,cur.toArray,by rw [hll],hg,hb,by rw [hll];exact hc,hmax,by simpa using hlen,by rw [hll];simpa using htk⟩⟩,?_⟩
  · simp [hl.1,hm.1]
  · rw [hll]
    have e1:(css.take i++css'++css.drop i).flatten=(css.take i).flatten++css'.flatten++(css.drop i).flatten:=by simp
    rw [e1,← htk,List.length_take]
    exact Nat.min_eq_left (by rw [hlen];exact Nat.mul_le_mul_right _ hc)
  · intro j cs x hj hx
    have e1:(css.take i).length=i:=by rw [List.length_take,hl.1];omega
    have e2:(l.take i).length=i:=by rw [List.length_take];omega
    rw [List.append_assoc] at hj hx
    by_cases h1:j<i
    · rw [List.getElem?_append_left (by omega),List.getElem?_take,if_pos h1] at hj
      rw [List.getElem?_append_left (by omega),List.getElem?_take,if_pos h1] at hx
      exact E.mv (hl.2 j cs x hj hx) mv
    · rw [List.getElem?_append_right (by omega),e1] at hj
      rw [List.getElem?_append_right (by omega),e2] at hx
      by_cases h2:j - i<m.length
      · rw [List.getElem?_append_left (by rw [hm.1];exact h2)] at hj
        rw [List.getElem?_append_left h2] at hx
        exact E.mv (hm.2 _ cs x hj hx) mv
      · rw [List.getElem?_append_right (by rw [hm.1];omega),List.getElem?_drop,hm.1] at hj
        rw [List.getElem?_append_right (by omega),List.getElem?_drop] at hx
        exact E.mv (hl.2 _ cs x hj hx) mv
section
variable {cur cu cur1:List Value} {css css':List (List Value)} {n m i c G s:Nat}
theorem part_A (hcur:css.flatten=cur.take (n*s)) (hl:∀ cs∈css,cs.length=s) (hn:css.length=n) (hi:i≤n) (hc:n*s≤cur.length):(css.take i).flatten=cur.take (i*s):=by
  have h1:css.flatten=(css.take i).flatten++(css.drop i).flatten:=by rw [← List.flatten_append,List.take_append_drop]
  have h2:(css.take i).flatten.length=i*s:=by
    rw [GL _ (fun c hc=>hl c (List.mem_of_mem_take hc)),List.length_take,hn,Nat.min_eq_left hi]
  have h3:(css.flatten).take (i*s)=(css.take i).flatten:=by rw [h1,← h2,List.take_left]
  rw [← h3,hcur,List.take_take,Nat.min_eq_left (Nat.mul_le_mul_right _ hi)]
theorem part_B (hcur:css.flatten=cur.take (n*s)) (hl:∀ cs∈css,cs.length=s) (hn:css.length=n) (hi:i≤n) (hc:n*s≤cur.length):(css.drop i).flatten=(cur.drop (i*s)).take ((n - i)*s):=by
  have h1:css.flatten=(css.take i).flatten++(css.drop i).flatten:=by rw [← List.flatten_append,List.take_append_drop]
  have h2:(css.take i).flatten.length=i*s:=by
    rw [GL _ (fun c hc=>hl c (List.mem_of_mem_take hc)),List.length_take,hn,Nat.min_eq_left hi]
  have h3:(css.flatten).drop (i*s)=(css.drop i).flatten:=by rw [h1,← h2,List.drop_left]
  rw [← h3,hcur,List.drop_take,Nat.sub_mul]
theorem ones_drop {α:Type} {E:Enc α} {w:World} {O:List Nat} {l:List α} (h:Rds E w O css l) (hcur:css.flatten=cur.take (l.length*E.size)) (hi:i≤l.length) (hc:l.length*E.size≤cur.length):∀ u∈(cur.drop (i*E.size)).take ((l.length - i)*E.size),u.oneCell'=true:=by
  rw [← part_B hcur h.lens h.1 hi hc]
  intro u hu
  refine h.ones u ?_
  obtain ⟨x,hx,hux⟩:=List.mem_flatten.1 hu
  exact List.mem_flatten.2 ⟨x,List.mem_of_mem_drop hx,hux⟩
theorem ones_all {α:Type} {E:Enc α} {w:World} {O:List Nat} {l:List α} (h:Rds E w O css l) (hcur:css.flatten=cur.take (l.length*E.size)):∀ u∈(cur.drop 0).take (l.length*E.size),u.oneCell'=true:=by
  rw [List.drop_zero,← hcur];exact h.ones
theorem tk_grow (hcur:css.flatten=cur.take (n*s)) (hl:∀ cs∈css,cs.length=s) (hn:css.length=n) (hi:i≤n) (hc:n*s≤cur.length) (hcu:css'.flatten=cu.take (m*s)) (hm:css'.flatten.length=m*s)
    (h1:cur1.take (i*s)=cur.take (i*s)) (hG:(n+m)*s≤cur1.length) :
    (HX (HX cur1 (i*s) ((cu.drop 0).take (m*s))) ((i+m)*s) ((cur.drop (i*s)).take ((n - i)*s))).take ((n+m)*s)=(css.take i).flatten++css'.flatten++(css.drop i).flatten:=by
  have hA:=part_A hcur hl hn hi hc
  have hB:=part_B hcur hl hn hi hc
  have ha:(css.take i).flatten.length=i*s:=by rw [hA,List.length_take];exact Nat.min_eq_left (Nat.le_trans (Nat.mul_le_mul_right _ hi) hc)
  have hb:(css.drop i).flatten.length=(n - i)*s:=by
    rw [GL _ (fun c hc=>hl c (List.mem_of_mem_drop hc)),List.length_drop,hn]
  have e1:(n+m)*s=i*s+m*s+(n - i)*s:=by rw [← Nat.add_mul,← Nat.add_mul];congr 1;omega
  have e2:(i+m)*s=i*s+m*s:=Nat.add_mul _ _ _
  have hc1:cur1=(css.take i).flatten++cur1.drop (i*s):=by rw [hA,← h1,List.take_append_drop]
  rw [List.drop_zero,← hcu,← hB,e1,e2]
  clear hcu hcur hA hB
  generalize (css.take i).flatten=A at ha hc1 ⊢
  generalize css'.flatten=M at hm ⊢
  generalize (css.drop i).flatten=B at hb ⊢
  generalize cur1.drop (i*s)=T at hc1
  have hs1:HX cur1 (i*s) M=A++M++T.drop M.length:=by
    unfold HX
    rw [hc1,← ha,List.take_left,List.drop_length_add_append]
  rw [hs1]
  unfold HX
  rw [← ha,← hm,← List.length_append,List.take_left,← hb]
  rw [← @List.length_append _ (A++M) _,List.take_left]
theorem tk_shift (hcur:css.flatten=cur.take (n*s)) (hl:∀ cs∈css,cs.length=s) (hn:css.length=n) (hi:i≤n) (hc:(n+m)*s≤cur.length) (hcu:css'.flatten=cu.take (m*s)) (hm:css'.flatten.length=m*s) :
    (HX (HX cur ((i+m)*s) ((cur.drop (i*s)).take ((n - i)*s))) (i*s) ((cu.drop 0).take (m*s))).take ((n+m)*s)=(css.take i).flatten++css'.flatten++(css.drop i).flatten:=by
  have hns:n*s≤(n+m)*s:=Nat.mul_le_mul_right _ (by omega)
  have hA:=part_A hcur hl hn hi (by omega)
  have hB:=part_B hcur hl hn hi (by omega)
  have ha:(css.take i).flatten.length=i*s:=by rw [hA,List.length_take];exact Nat.min_eq_left (Nat.le_trans (Nat.mul_le_mul_right _ hi) (by omega))
  have hb:(css.drop i).flatten.length=(n - i)*s:=by
    rw [GL _ (fun c hc=>hl c (List.mem_of_mem_drop hc)),List.length_drop,hn]
  have e1:(n+m)*s=i*s+m*s+(n - i)*s:=by rw [← Nat.add_mul,← Nat.add_mul];congr 1;omega
  have e2:(i+m)*s=i*s+m*s:=Nat.add_mul _ _ _
  rw [List.drop_zero,← hcu,← hB,e1,e2]
  rw [e1] at hc
  have hc1:cur=(css.take i).flatten++cur.drop (i*s):=by rw [hA,List.take_append_drop]
  clear hcu hcur hA hB
  generalize (css.take i).flatten=A at ha hc1 ⊢
  generalize css'.flatten=M at hm ⊢
  generalize (css.drop i).flatten=B at hb ⊢
  generalize cur.drop (i*s)=T at hc1
  have hTl:m*s+(n - i)*s≤T.length:=by rw [hc1] at hc;simp [ha] at hc;omega
  have hs1:HX cur (i*s+m*s) B=A++(T.take (m*s)++B++T.drop (m*s+B.length)):=by
    unfold HX
    rw [hc1,← ha,List.take_length_add_append,Nat.add_assoc,List.drop_length_add_append]
    simp
  rw [hs1]
  unfold HX
  rw [← ha,List.take_left,List.drop_length_add_append,← hm]
  have e3:(T.take M.length).length=M.length:=by rw [List.length_take];omega
  have e4:(T.take M.length++B++T.drop (M.length+B.length)).drop M.length=B++T.drop (M.length+B.length):=by
    rw [List.append_assoc]
    conv=>lhs;rw [show M.length=(T.take M.length).length from e3.symm]
    simp only [e3]
    rw [List.drop_append_of_le_length (by omega),List.drop_of_length_le (by omega),List.nil_append]
  rw [e4,← hb,← List.append_assoc,← List.length_append,← List.length_append,List.take_left]
end
section
variable {P:Program} {ty:TypeId} {F:Fr} {w:World} {K:Value→World→Prop} {Z:List PanicEntry→World→Prop} {x y:Operand}
theorem KS {t e size:Nat} {lo:Operand} (ht:P.underlying t=some (.slice e)) (hs:EL P e=some size) (b n c i:Nat) (kk:IntKind) (nn:Int)
    (hx:CY F x = .slice (some ⟨b,0,none⟩) n c) (hlo:CY F lo = .int kk nn) (hn:nn=(i:Int)) (hi:i≤n) (hc:i<c) (hnc:n≤c) (h:K (.slice (some ⟨b,i*size,none⟩) (n - i) (c - i)) w):EB P (.slice t x (some lo) none none) ty F w K Z:=by
  subst hn
  have hb:(Instr.sliceBounds true n c (some (.int kk (i:Int))) none none).run P w = .ok (i,n,c) w:=by
    have b2:∀ code,(Instr.sliceBound (.int kk (i:Int)) n code).run P w = .ok i w:=fun code=>by
      rw [run_sliceBound (P:=P) w kk (i:Int) n code (by omega) (by omega)];rfl
    simp [Instr.sliceBounds,b2]
  refine BW ?_ h
  have hne:¬ (c=i):=by omega
  have ha:(⟨b,0,none⟩:Addr).add (i*size) = ⟨b,i*size,none⟩:=by rw [VA,Nat.zero_add]
  simp [execOp,hx,hlo,Instr.sliceAt,run_underlying ht,Instr.slice,hb,FL hs,hne,ha]
theorem YD {t e size:Nat} {hi:Operand} (ht:P.underlying t=some (.slice e)) (hs:EL P e=some size) (b o n c k:Nat) (kk:IntKind) (nn:Int)
    (hx:CY F x = .slice (some ⟨b,o,none⟩) n c) (hhi:CY F hi = .int kk nn) (hn:nn=(k:Int)) (hk:k≤c) (h:K (.slice (some ⟨b,o,none⟩) k c) w):EB P (.slice t x none (some hi) none) ty F w K Z:=by
  subst hn
  have hb:(Instr.sliceBounds true n c none (some (.int kk (k:Int))) none).run P w = .ok (0,k,c) w:=by
    have b2:∀ code,(Instr.sliceBound (.int kk (k:Int)) c code).run P w = .ok k w:=fun code=>by
      rw [run_sliceBound (P:=P) w kk (k:Int) c code (by omega) (by omega)];rfl
    simp [Instr.sliceBounds,b2]
  refine BW ?_ h
  by_cases hc0:c=0
  · subst hc0;simp [execOp,hx,hhi,Instr.sliceAt,run_underlying ht,Instr.slice,hb,FL hs]
  · simp [execOp,hx,hhi,Instr.sliceAt,run_underlying ht,Instr.slice,hb,FL hs,hc0,Addr.add]
theorem o_cap {t e:TypeId} (A:Option Addr) (n c:Nat) (ht:P.underlying t=some (.slice e)) (hx:CY F x = .slice A n c) (h:K (vI c) w) :
    EB P (.call { callee:=.builtin .cap,args:=#[x],argTypes:=#[t] }) ty F w K Z:=
  BW (by simp [execOp,resolve,invoke,builtin,hx,Builtin.cap_,run_underlying ht,goInt]) h
variable {w0:World} {B O0:List Nat}
theorem QD {t t2 e size b o n c b2 o2 n2 c2 T T2:Nat} {cur cur2:List Value} (k:Nat) (ht:P.underlying t=some (.slice e)) (hs:EL P e=some size) (hx:CY F x = .slice (some ⟨b,o,none⟩) n c) (hy:CY F y = .slice (some ⟨b2,o2,none⟩) n2 c2)
    (hb:IX w b T cur) (hb2:IX w b2 T2 cur2) (hB:b∈B) (hk:Nat.min n2 n=k) (h1:o+k*size≤cur.length) (h2:o2+k*size≤cur2.length) (hone:∀ u∈(cur2.drop o2).take (k*size),u.oneCell'=true) (s:St w0 O0 w B)
    (h:∀ w',St w0 O0 w' B→Mv B w B w'→Keep [b] w w'→IX w' b T (HX cur o ((cur2.drop o2).take (k*size)))→K (vI k) w') :
    EB P (.call { callee:=.builtin .copy,args:=#[x,y],argTypes:=#[t,t2] }) ty F w K Z:=by
  obtain ⟨ms,hms⟩:∃ ms,ms=(cur2.drop o2).take (k*size):=⟨_,rfl⟩
  rw [← hms] at h hone
  have hml:ms.length=k*size:=by rw [hms];simp;omega
  have hsrc:(Builtin.firstCells size k (.slice (some ⟨b2,o2,none⟩) n2 c2)).run P w = .ok ms.toArray w:=
    run_firstCells_some w size k ⟨b2,o2,none⟩ n2 c2 ms hml (fun j v hj=>by
      rw [VA,hb2.cell,← hj,hms,List.getElem?_take]
      have:j<k*size:=by rw [← hml];exact (List.getElem?_eq_some_iff.1 hj).1
      rw [if_pos this,List.getElem?_drop])
  have hst:=run_storeCells_at P b o T ms 0 cur.toArray w hb (by simp;omega) hone
  simp only [Nat.add_zero] at hst
  have kp:Keep [b] w (w.setRow b (cur.toArray.toList.take o++ms++cur.toArray.toList.drop (o+ms.length)).toArray):=
    ⟨rfl,rfl,rfl,by simp,fun q _ hq=>setRow_other w b q _ (fun e=>hq (by simp [e]))⟩
  have mm:Mv B w B (w.setRow b (cur.toArray.toList.take o++ms++cur.toArray.toList.drop (o+ms.length)).toArray):=
    ⟨kp.mono (fun q hq=>by simp at hq;subst hq;exact .inl hB),fun q hq=>.inl hq⟩
  refine BW (v:=vI k) (w':=w.setRow b (cur.toArray.toList.take o++ms++cur.toArray.toList.drop (o+ms.length)).toArray) ?_ (h _ (s.step mm (fun q hq=>Nat.lt_of_lt_of_le (s.new q hq).2 kp.size)) mm kp (setRow_heap w b cur.toArray _ T (0,0) hb))
  simp [execOp,resolve,invoke,builtin,hx,hy,Builtin.copy_,run_underlying ht,FL hs,Builtin.lenOf,hk,hsrc,goInt] at hst ⊢
  rw [hst]
  rfl
theorem o_appendZ {t tn e size bytes b i c T:Nat} {z:Value} {cur:List Value} (k N:Nat) (nn:Int) (hN:i+k=N) (ht:P.underlying t=some (.slice e)) (htn:P.underlying tn=some (.int .i64)) (hi:(P.info? e).map (fun i=>(i.zero,i.size,i.bytes))=some (some z,size,bytes)) (hz:z.cells.size=size) (hpos:0<size)
    (hx:CY F x = .slice (some ⟨b,0,none⟩) i c) (hy:CY F y=vI nn) (hnn:nn=(k:Int)) (hb:IX w b T cur) (hcur:i*size≤cur.length) (h0:0<k) (hg:c<N) (hlen:N*bytes≤140737488355328) (hmax:N≤maxLen) (s:St w0 O0 w B)
    (h:∀ g G cur1 w',g=w.heap.size→w0.heap.size≤g→St w0 O0 w' (g :: B)→Mv B w (g :: B) w'→Keep [] w w'→IX w' g e cur1→cur1.length=G*size→N≤G→G≤maxLen→cur1.take (i*size)=cur.take (i*size)→K (.slice (some ⟨g,0,none⟩) N G) w') :
    EB P (.call { callee:=.builtin .append,args:=#[x,y],argTypes:=#[t,tn] }) ty F w K Z:=by
  subst hnn
  subst hN
  obtain ⟨inf,hi1,hi2,hi3,hi4⟩:=info_parts hi
  have hold:(Builtin.firstCells inf.size i (.slice (some ⟨b,0,none⟩) i c)).run P w.drew = .ok (cur.take (i*size)).toArray w.drew:=by
    rw [hi3]
    refine run_firstCells_some w.drew size i ⟨b,0,none⟩ i c (cur.take (i*size)) (by rw [List.length_take];omega) (fun j v hj=>?_)
    have hb':IX w.drew b T cur:=hb
    rw [VA,hb'.cell,Nat.zero_add]
    rw [List.getElem?_take] at hj
    split at hj
    · exact hj
    · cases hj
  have hfit:Builtin.nextslicecap (i+k) c*inf.bytes≤281474976710656:=by rw [hi4];exact growslice_fits hg hlen
  have hkb:k*inf.bytes≤281474976710656:=by
    rw [hi4]
    have:k*bytes≤(i+k)*bytes:=Nat.mul_le_mul_right _ (by omega)
    omega
  have hrun:=Lib.run_append_grow_zeros (P:=P) w t tn ty e inf z .i64 .i64 ht htn hi1 hi2 (some ⟨b,0,none⟩) i c (cur.take (i*size)) hold k h0 (by rw [hi3];exact hpos) hg (by simp only [maxLen] at hmax;omega) hkb hfit
  obtain ⟨G,hG⟩:∃ G,G=grownCap w (i+k) c e:=⟨_,rfl⟩
  have hG1:i+k≤G:=by rw [hG];exact grownCap_ge _ _ _ _
  have hG2:G≤maxLen:=by rw [hG];exact grownCap_le_maxLen _ _ _ _ hmax
  rw [← hG] at hrun
  obtain ⟨row,hrow⟩:∃ row:Array Value,row=(cur.take (i*size)).toArray++Builtin.zeroCells z.cells k++Builtin.zeroCells z.cells (G - (i+k)):=⟨_,rfl⟩
  rw [← hrow] at hrun
  have hrl:row.size=G*size:=by
    rw [hrow]
    simp only [Array.size_append,List.size_toArray,List.length_take,Builtin.zeroCells,Array.size_map,Array.size_range,hz]
    rw [Nat.min_eq_left hcur,← Nat.add_mul,← Nat.add_mul]
    congr 1;omega
  have hk:Keep [] w (w.drew.alloc (.cells row e)):=(Keep.drew [] w).trans (Keep.alloc _ _ _)
  have hsz:w.drew.heap.size=w.heap.size:=rfl
  have mv:Mv B w (w.heap.size :: B) (w.drew.alloc (.cells row e)):=⟨hk.nil,fun q hq=>by rcases List.mem_cons.1 hq with h|h;exact .inr (by omega);exact .inl h⟩
  have hbx:IX (w.drew.alloc (.cells row e)) w.heap.size e row.toList:=by
    have:=IX.new w.drew e row.toList
    simpa [hsz] using this
  refine BW (v:=.slice (some ⟨w.heap.size,0,none⟩) (i+k) G) (w':=w.drew.alloc (.cells row e)) ?_ (h _ G row.toList _ rfl s.keep.size (s.step mv (fun q hq=>?_)) mv hk hbx (by simpa using hrl) hG1 hG2 ?_)
  · simp [execOp,resolve,invoke,builtin,hx,hy,hrun]
  · rcases List.mem_cons.1 hq with h|h
    · subst h;exact hbx.lt
    · exact Nat.lt_of_lt_of_le (s.new q h).2 hk.size
  · rw [hrow]
    simp only [Array.toList_append,List.append_assoc]
    rw [List.take_append_of_le_length (by simp;omega)]
    rw [List.take_of_length_le (by simp;omega)]
theorem o_appendOO {α:Type} {E:Enc α} {t e:Nat} {z:Value} {bytes:Nat} {v u:Value} {l m:List α} (ht:P.underlying t=some (.slice e)) (hi:(P.info? e).map (fun i=>(i.zero,i.size,i.bytes))=some (some z,E.size,bytes)) (hzs:z.cells.size=E.size) (hpos:0<E.size)
    (hx:CY F x=v) (hy:CY F y=u) (ho:EX E e w0.heap.size (B++O0) w v l) (hu:EX E e w0.heap.size (B++O0) w u m) (hv:∀ b,v.ownBlock=some b→b∈B) (hlen:(l.length+m.length)*bytes≤140737488355328) (hlm:l.length+m.length≤maxLen) (s:St w0 O0 w B)
    (h:∀ v' w' B',(∀ b,v'.ownBlock=some b→b∈B')→(v'.ownBlock=v.ownBlock∨v'.ownBlock=some w.heap.size)→(∀ b∈B,b∈B')→St w0 O0 w' B'→Mv B w B' w'→Keep v.ownBlock.toList w w'→EX E e w0.heap.size (B'++O0) w' v' (l++m)→K v' w') :
    EB P (.call { callee:=.builtin .append,args:=#[x,y],argTypes:=#[t,t] }) ty F w K Z:=by
  obtain ⟨i,hi1,hi2,hi3,hi4⟩:=info_parts hi
  obtain ⟨css,h1,h2,h3⟩:=ho
  have hsrc:∃ (A:Option Addr) (c:Nat) (css':List (List Value)),u = .slice A m.length c∧m.length≤c∧c≤maxLen∧(A=none→m=[])∧css'.length=m.length∧(∀ (j:Nat) (cs:List Value) (y:α),css'[j]? = some cs→m[j]? = some y→E.rd w (B++O0) cs y)∧(∀ ad,A=some ad→∀ j u,css'.flatten[j]? = some u→w.cell? (ad.add j)=some u):=by
    obtain ⟨css',q1,q2,q3⟩:=hu
    rcases q2.2 with ⟨rfl,q4⟩|⟨g,cap,cur,rfl,hb,hg,hc,hm,hsz,htk⟩
    · exact ⟨none,0,css',by rw [q4],by omega,by simp [maxLen],fun _=>List.eq_nil_of_length_eq_zero q4,q1,q3,fun ad h=>by cases h⟩
    · refine ⟨some ⟨g,0,none⟩,cap,css',rfl,hc,hm,(fun h=>nomatch h),q1,q3,fun ad h j u hj=>?_⟩
      cases h;exact q2.cells (g:=g) rfl j u hj
  obtain ⟨A,c,css',rfl,h4,h5,h6,k1,k2,k3⟩:=hsrc
  have hlens':∀ cs∈css',cs.length=E.size:=EX.lens k1 k2
  have hones:∀ u∈css'.flatten,u.oneCell'=true:=by
    intro u hu
    obtain ⟨cs,hcs,hucs⟩:=List.mem_flatten.1 hu
    obtain ⟨j,hj,rfl⟩:=List.getElem_of_mem hcs
    exact E.one (k2 j _ m[j] (List.getElem?_eq_getElem hj) (List.getElem?_eq_getElem (by omega))) u hucs
  have hlen':css'.flatten.length=m.length*E.size:=by rw [GL css' hlens',k1]
  have fin:∀ v' w' B',w'.ownsRow w0.heap.size e E.size v' (l.length+m.length) (css.flatten++css'.flatten)→Mv B w B' w'→EX E e w0.heap.size (B'++O0) w' v' (l++m):=by
    intro v' w' B' hr hmv
    refine ⟨css++css',by simp [h1,k1],by simpa using hr,fun j cs y hj hy=>?_⟩
    by_cases hjl:j<l.length
    · rw [List.getElem?_append_left (by omega)] at hj hy
      exact E.mv (h3 j cs y hj hy) hmv
    · rw [List.getElem?_append_right (by omega)] at hj hy
      rw [h1] at hj
      exact E.mv (k2 _ cs y hj hy) hmv
  have step:∀ v' w',(Builtin.append_ #[t,t] ty #[v, .slice A m.length c]).run P w = .ok v' w'→w'.ownsRow w0.heap.size e E.size v' (l.length+m.length) (css.flatten++css'.flatten)→w.grownBy w' v.ownBlock→(v'.ownBlock=v.ownBlock∨v'.ownBlock=some w.heap.size)→
      EB P (.call { callee:=.builtin .append,args:=#[x,y],argTypes:=#[t,t] }) ty F w K Z:=by
    intro v' w' hr hown hg hat
    have hk:Keep v.ownBlock.toList w w':=Keep.of_grown hg
    have hB:Keep B w w':=hk.mono (fun b hb=>.inl (hv b (by simpa using hb)))
    have hown':=hown.lt
    rcases hat with hat|hat
    · have mv:Mv B w B w':=⟨hB,fun b hb=>.inl hb⟩
      exact BW (v:=v') (w':=w') (by simp [execOp,resolve,invoke,builtin,hx,hy,hr]) (h v' w' B (fun b hb=>hv b (by rw [← hat];exact hb)) (.inl hat) (fun b hb=>hb) (s.step mv (fun b hb=>Nat.lt_of_lt_of_le (s.new b hb).2 hk.size)) mv hk (fin v' w' B hown mv))
    · have mv:Mv B w (w.heap.size :: B) w':=⟨hB,fun b hb=>by rcases List.mem_cons.1 hb with h|h;exact .inr (by omega);exact .inl h⟩
      exact BW (v:=v') (w':=w') (by simp [execOp,resolve,invoke,builtin,hx,hy,hr]) (h v' w' (w.heap.size :: B) (fun b hb=>by rw [hat] at hb;cases hb;simp) (.inr hat) (fun b hb=>by simp [hb])
        (s.step mv (fun b hb=>by
          rcases List.mem_cons.1 hb with h|h
          · subst h;exact (hown' _ hat).2
          · exact Nat.lt_of_lt_of_le (s.new b h).2 hk.size)) mv hk (fin v' w' _ hown mv))
  rcases A with _|ad
  · have hm0:m=[]:=h6 rfl
    subst hm0
    have hc0:css'=[]:=List.eq_nil_of_length_eq_zero (by simpa using k1)
    subst hc0
    refine step v w ?_ (by simpa using h2) ⟨rfl,rfl,rfl,Nat.le_refl _,fun _ _ _=>rfl⟩ (.inl rfl)
    rcases h2.2 with ⟨rfl,h0⟩|⟨g,cap,cur,rfl,_,_,hnc,_⟩
    · simp [Builtin.append_,run_underlying ht,sizeOf,typeInfo,hi1,Builtin.lenOf,Builtin.firstCells]
    · simp [Builtin.append_,run_underlying ht,sizeOf,typeInfo,hi1,Builtin.lenOf,Builtin.firstCells,hnc,storeCells]
  · obtain ⟨v',w',hr,g1,g2,_,g4⟩:=run_append_own_at (P:=P) w w0.heap.size t ty e i z E.size bytes ht hi1 hi2 hi3 hi4 hzs hpos v l.length css.flatten h2 ad m.length c css'.flatten hlen' (k3 ad rfl) hones hlm hlen s.keep.size
    exact step v' w' hr g1 g2 g4
theorem PX {α:Type} {E:Enc α} {t e base b j:Nat} {v:Value} {l:List α} {cs:List Value} (a:α) (hpos:0<E.size) (hs:EL P t=some E.size) (hx:CY F x = .pointer (some ⟨b,j*E.size,none⟩)) (hy:CY F y = .agg cs.toArray) (ho:EX E e base (B++O0) w v l) (hb:v.ownBlock=some b) (hB:b∈B) (hj:j<l.length) (hr:E.rd w (B++O0) cs a) (s:St w0 O0 w B)
    (h:∀ w',St w0 O0 w' B→Mv B w B w'→Keep [b] w w'→EX E e base (B++O0) w' v (l.set j a)→K undef w'):EB P (.store t x y) ty F w K Z:=by
  obtain ⟨css,h1,h2,h3⟩:=ho
  have hlens:=EX.lens h1 h3
  have hcl:cs.length=E.size:=E.len hr
  rcases h2.2 with ⟨rfl,h0⟩|⟨g,cap,cur,rfl,hbg,hg,hnc,hm,hsz,htk⟩
  · omega
  · have:g=b:=by simpa [Value.ownBlock] using hb
    subst this
    have hjn:j*E.size+E.size≤l.length*E.size:=by rw [← Nat.succ_mul];exact Nat.mul_le_mul_right _ hj
    have hnn:l.length*E.size≤cap*E.size:=Nat.mul_le_mul_right _ hnc
    have hcu:cur.toList.length=cap*E.size:=by simpa using hsz
    have hjc:j<css.length:=by omega
    have hcss:css=css.take j++css[j] :: css.drop (j+1):=by rw [← List.drop_eq_getElem_cons hjc,List.take_append_drop]
    obtain ⟨A,hA⟩:∃ A,A=(css.take j).flatten:=⟨_,rfl⟩
    obtain ⟨D,hD⟩:∃ D,D=(css.drop (j+1)).flatten:=⟨_,rfl⟩
    have hAl:A.length=j*E.size:=by rw [hA,GL _ (fun c hc=>hlens c (List.mem_of_mem_take hc)),List.length_take];congr 1;omega
    have hDl:D.length=(l.length - (j+1))*E.size:=by rw [hD,GL _ (fun c hc=>hlens c (List.mem_of_mem_drop hc)),List.length_drop,h1]
    have hXl:css[j].length=E.size:=hlens _ (List.getElem_mem hjc)
    have hfl:css.flatten=A++(css[j]++D):=by
      conv=>lhs;rw [hcss]
      rw [List.flatten_append,List.flatten_cons,← hA,← hD]
    have hcur:cur.toList=A++(css[j]++(D++cur.toList.drop (l.length*E.size))):=by
      rw [← List.append_assoc css[j],← List.append_assoc A,← hfl,← htk,List.take_append_drop]
    have hset:(css.set j cs).flatten=A++(cs++D):=by
      rw [List.set_eq_take_append_cons_drop,if_pos hjc,List.flatten_append,List.flatten_cons,← hA,← hD]
    have hnew:cur.toList.take (j*E.size)++cs++cur.toList.drop (j*E.size+cs.length)=A++(cs++(D++cur.toList.drop (l.length*E.size))):=by
      obtain ⟨R,hR⟩:∃ R,R=cur.toList.drop (l.length*E.size):=⟨_,rfl⟩
      rw [← hR] at hcur ⊢
      rw [hcur,← hAl,List.take_left,List.drop_length_add_append,hcl,← hXl,List.drop_left,List.append_assoc]
    refine BF (T:=e) (cs:=cur.toList) (vs:=cs) (.agg cs.toArray) hx hy rfl (by rw [hcl];exact hs) (E.one hr) hB (by simpa [IX] using hg) (by rw [hcl,hcu];omega) s fun w' k1 k2 k3 k4=>h w' k1 k2 k3 ?_
    rw [hnew] at k4
    refine ⟨css.set j cs,by simp [h1],⟨?_, .inr ⟨g,cap,(A++(cs++(D++cur.toList.drop (l.length*E.size)))).toArray,by simp,hbg,k4,by simpa using hnc,hm,?_,?_⟩⟩,fun q cs' y hq hy=>?_⟩
    · rw [hset]
      have hh:=h2.1
      rw [hfl] at hh
      simp only [List.length_append,List.length_set] at hh ⊢
      omega
    · have hh:=congrArg List.length hcur
      rw [hcu] at hh
      simp only [List.size_toArray,List.length_append] at hh ⊢
      omega
    · rw [hset]
      simp only [List.length_set]
      have e1:A++(cs++(D++cur.toList.drop (l.length*E.size)))=(A++(cs++D))++cur.toList.drop (l.length*E.size):=by simp
      have hh:=h2.1
      rw [hfl] at hh
      have e2:(A++(cs++D)).length=l.length*E.size:=by
        simp only [List.length_append] at hh ⊢
        omega
      rw [e1,← e2,List.take_left]
    · by_cases hjq:j=q
      · subst hjq
        simp [hjc] at hq
        simp [hj] at hy
        subst hq;subst hy
        exact E.mv hr k2
      · rw [List.getElem?_set,if_neg hjq] at hq hy
        exact E.mv (h3 q cs' y hq hy) k2
theorem o_overlaps {f:FuncId} {xs:List Operand} {ats:Array TypeId} {tS tR e size b b2 o o2 n n2 c c2 T T2:Nat} {cur cur2:List Value} (hc:∀ (x y:Value) (w:World),(Extern.SlicesOverlaps.overlaps #[tS,tS] #[tR] #[x,y]).run P w = .ok (.bool false) w→(callFunc f #[x,y]).run P w = .ok (.value (.bool false)) w)
    (ht:P.underlying tS=some (.slice e)) (hs:EL P e=some size) (hv:xs.map (CY F)=[.slice (some ⟨b,o,none⟩) n c, .slice (some ⟨b2,o2,none⟩) n2 c2]) (hb:IX w b T cur) (hb2:IX w b2 T2 cur2) (hne:b≠b2) (h0:0<cur2.length) (h:K (.bool false) w) :
    EB P (.call { callee:=.value (.func f),args:=xs.toArray,argTypes:=ats }) ty F w K Z:=by
  refine BW (v:=.bool false) (w':=w) ?_ h
  have hr:=Lib.run_overlaps_apart (P:=P) w tS tR e ht size (fun w=>FL hs) ⟨b,o,none⟩ ⟨b2,o2,none⟩ n c n2 c2 hne T T2 cur.length cur2.length (by unfold IX at hb;simp [World.shape?,hb]) (by unfold IX at hb2;simp [World.shape?,hb2]) (by omega) (hb.frozen _) (hb.frozen _)
  have hr':=hc _ _ _ hr
  simp [execOp,resolve,Deferred.ofValue,CY,invoke,hv,hr']
end
open Go.RowKit
section
variable {P:Program} {n:Nat} {Q:Exit→Fr→World→Prop}
theorem draw_runM {ops:List Oper} {m:Nat} {late:List Nat} {om:Oper} (INV:Array Bool→Fr→World→Prop) (hd:RM ops m late=true) (hndl:late.Nodup) (hok:ops.all (PK n ops)=true) (hom:ops[m]? = some om)
    (hdown:∀ listed F1 w1,INV listed F1 w1→∀ i,listed[i]? = some true→∀ j∈KK ops i,listed[j]? = some true)
    (hstep:∀ (listed:Array Bool) (F1:Fr) (w1:World) (i:Nat) (o:Oper),listed.size=ops.length→INV listed F1 w1→i<m→ops[i]? = some o→listed[i]? = some false→(∀ j∈KK ops i,listed[j]? = some true)→
      (Region.wanted o (DG ops F1)=true→EB P o.op o.type F1 w1 (fun v w2=>INV (listed.setIfInBounds i true) (IO F1 o.dst v) w2) (fun _ _=>False))∧
      (Region.wanted o (DG ops F1)=false→INV (listed.setIfInBounds i true) (IO F1 o.dst undef) w1))
    (fin:∀ listed F1 w1,INV listed F1 w1→(∀ j,j<m→listed[j]? = some true)→(∀ j,m≤j→listed[j]?≠some true)→WL false P ops Q (om :: DH ops (CU ops m)) F1 w1)
    (finL:∀ c,c<late.length→∀ listed F1 w1,INV listed F1 w1→(∀ j,j<m→(listed[j]? = some true↔j∉late.drop c))→(∀ j,m≤j→listed[j]?≠some true)→WL false P ops Q (om :: (DH ops (late.drop c)++DH ops (CU ops m))) F1 w1) :
    ∀ (fuel:Nat) (listed:Array Bool) (F1:Fr) (w1:World),listed.size=ops.length→OT ops listed≤fuel→(∀ j,m≤j→listed[j]?≠some true)→INV listed F1 w1→wpAny P .any ops.toArray (LI n Q) fuel listed (mk n F1) w1:=by
  unfold RM at hd
  simp only [Bool.and_eq_true] at hd
  obtain ⟨⟨⟨⟨⟨⟨⟨⟨⟨d1,d2⟩,d3⟩,d4⟩,d5⟩,d6⟩,d7⟩,d8⟩,d9⟩,d10⟩:=hd
  have hml:m<ops.length:=blt d5
  have hback:∀ k,k<ops.length→∀ j∈KK ops k,j<k:=fun k hk j hj=>blt (List.all_eq_true.1 (List.all_eq_true.1 d4 k (by simpa using hk)) j hj)
  have hin:∀ k,k<ops.length→∀ j∈KK ops k,j<ops.length:=fun k hk j hj=>Nat.lt_trans (hback k hk j hj) hk
  have hlm:∀ j∈late,j<m:=fun j hj=>blt (List.all_eq_true.1 d6 j hj)
  have htl:∀ j,j∈CU ops m↔m<j∧j<ops.length:=fun j=>by
    unfold CU
    rw [List.mem_iff_getElem?]
    simp only [List.getElem?_drop]
    constructor
    · rintro ⟨i,hi⟩
      have:=(List.getElem?_eq_some_iff.1 hi)
      obtain ⟨h1,h2⟩:=this
      simp at h1 h2;omega
    · rintro ⟨h1,h2⟩
      exact ⟨j - (m+1),by rw [List.getElem?_eq_getElem (by simp;omega)];simp;omega⟩
  have hndt:(CU ops m).Nodup:=by unfold CU;exact List.Nodup.sublist (List.drop_sublist _ _) List.nodup_range
  intro fuel
  induction fuel with
  | zero=>
    intro listed F1 w1 hsz hfu hno hi
    exfalso
    have h0:OT ops listed=0:=by omega
    unfold OT at h0
    have:=List.countP_eq_zero.1 h0 m (by simpa using hml)
    exact hno m (Nat.le_refl _) (by simpa using this)
  | succ fuel ih=>
    intro listed F1 w1 hsz hfu hno hi
    have hmn:listed[m]? = some false:=by
      have h1:=hno m (Nat.le_refl _)
      have:m<listed.size:=by omega
      rw [Array.getElem?_eq_getElem this] at h1 ⊢
      simpa using h1
    by_cases hall:∀ j,j<m→listed[j]? = some true
    · -- all of the first part have been carried out
      have e:DH ops (m :: CU ops m)=om :: DH ops (CU ops m):=by unfold DH;rw [List.filterMap_cons,hom]
      refine GW hok hin (m :: CU ops m) (fuel+1) listed F1 w1 hsz hfu (fun j hj=>⟨fun h=>?_,fun h=>?_⟩) (fun j hj=>?_) (List.nodup_cons.2 ⟨fun h=>by have:=(htl m).1 h;omega,hndt⟩) d8 (hdown _ _ _ hi) (by
        rw [e]
        exact fin listed F1 w1 hi hall hno)
      · intro hm'
        have:m≤j:=by rcases List.mem_cons.1 hm' with h1|h1;omega;have:=(htl j).1 h1;omega
        exact hno j this h
      · exact hall j (by
          rcases Nat.lt_or_ge j m with h1|h1
          · exact h1
          · exfalso;apply h
            rcases Nat.eq_or_lt_of_le h1 with h2|h2
            · subst h2;simp
            · exact List.mem_cons_of_mem _ ((htl j).2 ⟨h2,hj⟩))
      · rcases List.mem_cons.1 hj with h1|h1
        · omega
        · exact ((htl j).1 h1).2
    · have hex:∃ j,j<m∧listed[j]?≠some true:=by
        refine Classical.byContradiction fun hc=>hall fun j hj=>Classical.byContradiction fun hn=>hc ⟨j,hj,hn⟩
      have hmin:∀ q j,q=j→j<m→listed[j]?≠some true→∃ k,k<m∧listed[k]?≠some true∧∀ i,i<k→listed[i]? = some true:=by
        intro q
        induction q using Nat.strongRecOn with
        | _ q ihq=>
          intro j hqj hj hn
          by_cases hb:∀ i,i<j→listed[i]? = some true
          · exact ⟨j,hj,hn,hb⟩
          · have:∃ i,i<j∧listed[i]?≠some true:=Classical.byContradiction fun hc=>hb fun i hi=>Classical.byContradiction fun hn=>hc ⟨i,hi,hn⟩
            obtain ⟨i,hij,hni⟩:=this
            exact ihq i (by omega) i rfl (by omega) hni
      obtain ⟨j0,hj0,hn0⟩:=hex
      obtain ⟨k,hkm,hkn,hkb⟩:=hmin j0 j0 rfl hj0 hn0
      have hkf:listed[k]? = some false:=by
        have:k<listed.size:=by omega
        rw [Array.getElem?_eq_getElem this] at hkn ⊢
        simpa using hkn
      refine ⟨fun h0=>?_,fun i hir=>?_⟩
      · have:=ready_of' hsz (by omega) hkf (fun j hj=>hkb j (hback k (by omega) j hj))
        rw [h0] at this;cases this
      · obtain ⟨hnl,hil⟩:=KU hir hsz
        have ho:ops[i]? = some ops[i]:=List.getElem?_eq_getElem hil
        have haft:=IM ho hir hsz (hin i hil)
        have hclose:∀ j,DY ops i j=true→listed[j]? = some true:=fun j hj=>by
          unfold DY at hj
          exact HS (D:=fun j=>listed[j]? = some true) (hdown _ _ _ hi) _ _ haft j (by simpa using hj)
        rcases Nat.lt_or_ge i m with him|hge
        · have hsp:=hstep listed F1 w1 i ops[i] hsz hi him ho hnl haft
          have hno':∀ j,m≤j→(listed.setIfInBounds i true)[j]?≠some true:=fun j hj=>by
            rw [Array.getElem?_setIfInBounds,if_neg (by omega)];exact hno j hj
          refine LZ (K:=fun F2 w2=>INV (listed.setIfInBounds i true) F2 w2) hok ho (fun F2 w2 hK=>ih _ F2 w2 (by simpa using hsz) (by have:=IR hil hsz hnl;omega) hno' hK) (fun hw=>?_) (fun hw=>hsp.2 hw)
          have h1:=hsp.1 hw
          unfold EB at h1 ⊢
          generalize (execOp (CY F1) ⟨none,ops[i].op,ops[i].type,"",#[],none⟩).run P w1=r at h1 ⊢
          cases r with
          | ok x w'=>
            cases x <;> simp only [HM] at h1 ⊢ <;> try exact h1.elim
            case value v=>exact h1
            case skip=>exact h1
            case enter f args=>
              exact Calls.mono h1 fun e w'' he=>by
                cases e with
                | returned v=>exact he
                | panicked c=>exact he.elim
                | outgrown=>exact he.elim
          | halt x w'=>cases x <;> simp only [HM] at h1 ⊢ <;> exact h1.elim
        · -- operation m comes ahead of some late ones
          have him:i=m:=by
            rcases Nat.eq_or_lt_of_le hge with h1|h1
            · exact h1.symm
            · have h2:=hclose m (List.all_eq_true.1 d3 i ((htl i).2 ⟨h1,hil⟩))
              rw [hmn] at h2;cases h2
          subst him
          have hnl':∀ j,j<i→j∉late→listed[j]? = some true:=fun j hj hjl=>by
            have h1:=List.all_eq_true.1 d2 j (by simpa using hj)
            simp only [Bool.or_eq_true,List.contains_iff_mem] at h1
            exact hclose j (h1.resolve_left hjl)
          have hex2:∃ (c:Nat) (j:Nat),late[c]? = some j∧listed[j]?≠some true:=by
            have h1:j0∈late:=Classical.byContradiction fun hc=>hn0 (hnl' j0 hj0 hc)
            obtain ⟨c,hc⟩:=List.mem_iff_getElem?.1 h1
            exact ⟨c,j0,hc,hn0⟩
          have hminc:∀ q c:Nat,q=c→(∃ j:Nat,late[c]? = some j∧listed[j]?≠some true)→∃ c':Nat,(∃ j:Nat,late[c']? = some j∧listed[j]?≠some true)∧∀ x j:Nat,x<c'→late[x]? = some j→listed[j]? = some true:=by
            intro q
            induction q using Nat.strongRecOn with
            | _ q ihq=>
              intro c hqc hc
              by_cases hb:∀ x j:Nat,x<c→late[x]? = some j→listed[j]? = some true
              · exact ⟨c,hc,hb⟩
              · have:∃ x j:Nat,x<c∧late[x]? = some j∧listed[j]?≠some true:=Classical.byContradiction fun hcn=>hb fun x j hx hj=>Classical.byContradiction fun hn=>hcn ⟨x,j,hx,hj,hn⟩
                obtain ⟨x,j,hx,hj,hn⟩:=this
                exact ihq x (by omega) x rfl ⟨j,hj,hn⟩
          obtain ⟨c0,hc0⟩:=hex2
          obtain ⟨c,⟨jc,hjc,hjn⟩,hcb⟩:=hminc c0 c0 rfl hc0
          have hcl:c<late.length:=(List.getElem?_eq_some_iff.1 hjc).1
          have hcw:∀ b a,listed[b]? = some true→DY ops b a=true→listed[a]? = some true:=fun b a hb hba=>by
            unfold DY at hba
            exact HS (D:=fun j=>listed[j]? = some true) (hdown _ _ _ hi) _ _ ((hdown _ _ _ hi) b hb) a (by simpa using hba)
          have hdropn:∀ j∈late.drop c,¬ listed[j]? = some true:=RY (D:=fun j=>listed[j]? = some true) hcw late d7 c ⟨jc,hjc,hjn⟩
          have hdropm:∀ j,j<i→(listed[j]? = some true↔j∉late.drop c):=fun j hj=>by
            constructor
            · intro h1 h2;exact hdropn j h2 h1
            · intro h1
              by_cases hjl:j∈late
              · obtain ⟨x,hx⟩:=List.mem_iff_getElem?.1 hjl
                by_cases hxc:x<c
                · exact hcb x j hxc hx
                · exfalso;apply h1
                  exact List.mem_iff_getElem?.2 ⟨x - c,by rw [List.getElem?_drop,show c+(x - c)=x by omega];exact hx⟩
              · exact hnl' j hj hjl
          have hK:=finL c hcl listed F1 w1 hi hdropm hno
          have hom':om=ops[i]:=by rw [ho] at hom;exact (Option.some.inj hom).symm
          have hso:DH ops (late.drop c)++DH ops (CU ops i)=DH ops (late.drop c++CU ops i):=by unfold DH;rw [List.filterMap_append]
          rw [hso,hom'] at hK
          have hset:∀ j,(listed.setIfInBounds i true)[j]? = some true↔j=i∨listed[j]? = some true:=fun j=>by
            rw [Array.getElem?_setIfInBounds]
            by_cases hji:i=j
            · subst hji;simp;omega
            · rw [if_neg hji];exact ⟨fun h=>.inr h,fun h=>h.resolve_left (fun e=>hji e.symm)⟩
          refine LZ (K:=fun F w=>WL false P ops Q (DH ops (late.drop c++CU ops i)) F w) hok ho (fun F2 w2 hK2=>GW hok hin (late.drop c++CU ops i) fuel _ F2 w2 (by simpa using hsz) (by have:=IR hil hsz hnl;omega) (fun j hj=>?_) (fun j hj=>?_) ?_ (List.all_eq_true.1 d9 c (by simpa using hcl)) (fun j hj q hq=>?_) hK2) (fun hw=>?_) (fun hw=>?_)
          · rw [hset j,List.mem_append,htl j]
            constructor
            · rintro (rfl|h1)
              · rintro (h2|h2)
                · have:=hlm j (List.mem_of_mem_drop h2);omega
                · omega
              · rintro (h2|h2)
                · exact hdropn j h2 h1
                · exact hno j (by omega) h1
            · intro h1
              rcases Nat.lt_trichotomy j i with h2|h2|h2
              · exact .inr ((hdropm j h2).2 (fun h3=>h1 (.inl h3)))
              · exact .inl h2
              · exact absurd (.inr ⟨h2,hj⟩) h1
          · rcases List.mem_append.1 hj with h1|h1
            · have:=hlm j (List.mem_of_mem_drop h1);omega
            · exact ((htl j).1 h1).2
          · refine List.nodup_append.2 ⟨List.Nodup.sublist (List.drop_sublist _ _) hndl,hndt,fun a ha b hb e=>?_⟩
            have h1:=hlm a (List.mem_of_mem_drop ha)
            have h2:=(htl b).1 hb
            omega
          · rw [hset q]
            rcases (hset j).1 hj with rfl|h1
            · exact .inr (haft q hq)
            · exact .inr ((hdown _ _ _ hi) j h1 q hq)
          · unfold WL at hK;rw [if_pos hw] at hK;exact hK.resolve_right (fun e=>by cases e.1)
          · unfold WL at hK;rw [if_neg (by rw [hw];simp)] at hK;exact hK
abbrev Pr2:=Value→Value→World→Prop
def prR (Rs:List Pr2) (i:Nat):Pr2:=(Rs[i]?).getD (fun _ _ _=>True)
def OpSpecR (P:Program) (ops:List Oper) (m:Nat) (Ts:List Pr) (Rs:List Pr2) (F:Fr) (w:World) (a i:Nat) (o:Oper) (T:Pr) (R:Pr2):Prop:=
  ∀ F1 w1,Keep [] w w1→(∀ t,PO ops i t=true→F1 t=F t)→(∀ j d,VR ops m i j d=true→OX Ts j (F1 d) w1)→
    ∀ vo:Option Value,(∀ u,vo=some u→OX Ts a u w1)→(∀ u,vo=some u→∀ j d,j≠a→VR ops m i j d=true→prR Rs j u (F1 d) w1)→
    (Region.wanted o (DG ops F1)=true→EB P o.op o.type F1 w1 (fun v w2=>Keep [] w1 w2∧T v w2∧∀ u,vo=some u→R u v w2) (fun _ _=>False))∧
    (Region.wanted o (DG ops F1)=false→T undef w1∧∀ u,vo=some u→R u undef w1)
def WX:List Pr→List Pr2→Value→World→World→Prop
  | T :: Ts,R :: Rs,v,w1,w2=>(∀ x,T x w1→R v x w2)∧WX Ts Rs v w1 w2
  | _,_,_,_,_=>True
theorem WX.at_:∀ {Ts:List Pr} {Rs:List Pr2} {v:Value} {w1 w2:World},Rs.length=Ts.length→WX Ts Rs v w1 w2→∀ i x,OX Ts i x w1→i<Ts.length→prR Rs i v x w2
  | [],_,_,_,_,_,_,i,x,_,hi=>by simp at hi
  | T :: Ts,[],_,_,_,h,_,_,_,_,_=>by simp at h
  | T :: Ts,R :: Rs,v,w1,w2,hl,h,0,x,hx,_=>h.1 x hx
  | T :: Ts,R :: Rs,v,w1,w2,hl,h,i+1,x,hx,hi=>WX.at_ (by simpa using hl) h.2 i x hx (by simpa using hi)
def OpSpecA (P:Program) (ops:List Oper) (m:Nat) (Ts:List Pr) (Rs:List Pr2) (F:Fr) (w:World) (i:Nat) (o:Oper) (T:Pr):Prop:=
  o.guard=none∧∀ F1 w1,Keep [] w w1→(∀ t,PO ops i t=true→F1 t=F t)→(∀ j d,VR ops m i j d=true→OX Ts j (F1 d) w1)→
    EB P o.op o.type F1 w1 (fun v w2=>Keep [] w1 w2∧T v w2∧WX Ts Rs v w1 w2) (fun _ _=>False)
def SpecsR (P:Program) (ops:List Oper) (m:Nat) (Ts:List Pr) (Rs:List Pr2) (F:Fr) (w:World) (a:Nat):Nat→List Oper→List Pr→List Pr2→Prop
  | i,o :: r,T :: R,Q :: S=>(bif Nat.beq i a then OpSpecA P ops m Ts Rs F w i o T else OpSpecR P ops m Ts Rs F w a i o T Q)∧SpecsR P ops m Ts Rs F w a (i+1) r R S
  | _,_,_,_=>True
theorem SpecsR.at_ {ops:List Oper} {m:Nat} {Ts:List Pr} {Rs:List Pr2} {F:Fr} {w:World} {a:Nat}:∀ (l:List Oper) (R:List Pr) (S:List Pr2) (k i:Nat) (o:Oper) (T:Pr) (Q:Pr2),SpecsR P ops m Ts Rs F w a k l R S→l[i]? = some o→R[i]? = some T→S[i]? = some Q→
    (bif Nat.beq (k+i) a then OpSpecA P ops m Ts Rs F w (k+i) o T else OpSpecR P ops m Ts Rs F w a (k+i) o T Q)
  | [],_,_,_,_,_,_,_,_,h,_,_=>by simp at h
  | _ :: _,[],_,_,_,_,_,_,_,_,h,_=>by simp at h
  | _ :: _,_ :: _,[],_,_,_,_,_,_,_,_,h=>by simp at h
  | o' :: l,T' :: R,Q' :: S,k,0,o,T,Q,h,h1,h2,h3=>by
    simp at h1 h2 h3;subst h1;subst h2;subst h3;exact h.1
  | o' :: l,T' :: R,Q' :: S,k,i+1,o,T,Q,h,h1,h2,h3=>by
    have:=SpecsR.at_ l R S (k+1) i o T Q h.2 (by simpa using h1) (by simpa using h2) (by simpa using h3)
    rwa [show k+1+i=k+(i+1) by omega] at this
def StabR:List Pr2→Prop
  | []=>True
  | T :: R=>(∀ u v w w',T u v w→Keep [] w w'→T u v w')∧StabR R
theorem StabR.of:∀ {Rs:List Pr2},StabR Rs→∀ T∈Rs,∀ u v w w',T u v w→Keep [] w w'→T u v w'
  | [],_,T,h=>by cases h
  | T' :: R,hs,T,h=>by
    rcases List.mem_cons.1 h with rfl|h
    · exact hs.1
    · exact StabR.of hs.2 T h
end
section
variable {P:Program} {w:World} {F:Fr} {K:Value→World→Prop} {Z:List PanicEntry→World→Prop} {ty:TypeId}
end
open Go.RowKit
section
variable {P:Program} {ty:TypeId} {F:Fr} {w w0:World} {O0 B:List Nat} {K:Value→World→Prop} {Z:List PanicEntry→World→Prop} {x y:Operand}
def RdN {α:Type} (E:Enc α) (u:World) (O:List Nat) (w:World) (v:Value) (l:List α):Prop:=
  ∃ (A:Addr) (c:Nat),v = .slice (some A) l.length c∧l.length≤c∧c≤maxLen∧∃ css:List (List Value),css.length=l.length∧(∀ (j:Nat) (cs:List Value) (y:α),css[j]? = some cs→l[j]? = some y→E.rd u O cs y)∧∀ (j:Nat) (q:Value),css.flatten[j]? = some q→w.cell? (A.add j)=some q
theorem RdN.keep {α:Type} {E:Enc α} {u:World} {O:List Nat} {w w':World} {v:Value} {l:List α} (h:RdN E u O w v l) (k:Keep [] w w'):RdN E u O w' v l:=by
  obtain ⟨A,c,h1,h2,h3,css,h4,h5,h6⟩:=h
  exact ⟨A,c,h1,h2,h3,css,h4,h5,fun j q hq=>WB k (h6 j q hq)⟩
theorem o_appendN {α:Type} {E:Enc α} {t e:Nat} {z:Value} {bytes:Nat} {v u:Value} {l m:List α} {O':List Nat} {uw:World} (ht:P.underlying t=some (.slice e)) (hi:(P.info? e).map (fun i=>(i.zero,i.size,i.bytes))=some (some z,E.size,bytes)) (hzs:z.cells.size=E.size) (hpos:0<E.size)
    (hx:CY F x=v) (hy:CY F y=u) (ho:EX E e w0.heap.size (B++O0) w v l) (hu:RdN E uw O' w u m) (hav:∀ cs y,E.rd uw O' cs y→E.rd w (B++O0) cs y) (hv:∀ b,v.ownBlock=some b→b∈B) (hlen:(l.length+m.length)*bytes≤140737488355328) (hlm:l.length+m.length≤maxLen) (s:St w0 O0 w B)
    (h:∀ v' w' B',(∀ b,v'.ownBlock=some b→b∈B')→(v'.ownBlock=v.ownBlock∨v'.ownBlock=some w.heap.size)→(∀ b∈B,b∈B')→St w0 O0 w' B'→Mv B w B' w'→Keep v.ownBlock.toList w w'→EX E e w0.heap.size (B'++O0) w' v' (l++m)→K v' w') :
    EB P (.call { callee:=.builtin .append,args:=#[x,y],argTypes:=#[t,t] }) ty F w K Z:=by
  obtain ⟨i,hi1,hi2,hi3,hi4⟩:=info_parts hi
  obtain ⟨css,h1,h2,h3⟩:=ho
  obtain ⟨ad,c,rfl,h4,h5,css',k1,k2,k3⟩:=hu
  have hlens':∀ cs∈css',cs.length=E.size:=EX.lens k1 k2
  have hones:∀ u∈css'.flatten,u.oneCell'=true:=by
    intro u hu
    obtain ⟨cs,hcs,hucs⟩:=List.mem_flatten.1 hu
    obtain ⟨j,hj,rfl⟩:=List.getElem_of_mem hcs
    exact E.one (k2 j _ m[j] (List.getElem?_eq_getElem hj) (List.getElem?_eq_getElem (by omega))) u hucs
  have hlen':css'.flatten.length=m.length*E.size:=by rw [GL css' hlens',k1]
  have fin:∀ v' w' B',w'.ownsRow w0.heap.size e E.size v' (l.length+m.length) (css.flatten++css'.flatten)→Mv B w B' w'→EX E e w0.heap.size (B'++O0) w' v' (l++m):=by
    intro v' w' B' hr hmv
    refine ⟨css++css',by simp [h1,k1],by simpa using hr,fun j cs y hj hy=>?_⟩
    by_cases hjl:j<l.length
    · rw [List.getElem?_append_left (by omega)] at hj hy
      exact E.mv (h3 j cs y hj hy) hmv
    · rw [List.getElem?_append_right (by omega)] at hj hy
      rw [h1] at hj
      exact E.mv (hav _ _ (k2 _ cs y hj hy)) hmv
  have step:∀ v' w',(Builtin.append_ #[t,t] ty #[v, .slice (some ad) m.length c]).run P w = .ok v' w'→w'.ownsRow w0.heap.size e E.size v' (l.length+m.length) (css.flatten++css'.flatten)→w.grownBy w' v.ownBlock→(v'.ownBlock=v.ownBlock∨v'.ownBlock=some w.heap.size)→
      EB P (.call { callee:=.builtin .append,args:=#[x,y],argTypes:=#[t,t] }) ty F w K Z:=by
    intro v' w' hr hown hg hat
    have hk:Keep v.ownBlock.toList w w':=Keep.of_grown hg
    have hB:Keep B w w':=hk.mono (fun b hb=>.inl (hv b (by simpa using hb)))
    have hown':=hown.lt
    rcases hat with hat|hat
    · have mv:Mv B w B w':=⟨hB,fun b hb=>.inl hb⟩
      exact BW (v:=v') (w':=w') (by simp [execOp,resolve,invoke,builtin,hx,hy,hr]) (h v' w' B (fun b hb=>hv b (by rw [← hat];exact hb)) (.inl hat) (fun b hb=>hb) (s.step mv (fun b hb=>Nat.lt_of_lt_of_le (s.new b hb).2 hk.size)) mv hk (fin v' w' B hown mv))
    · have mv:Mv B w (w.heap.size :: B) w':=⟨hB,fun b hb=>by rcases List.mem_cons.1 hb with h|h;exact .inr (by omega);exact .inl h⟩
      exact BW (v:=v') (w':=w') (by simp [execOp,resolve,invoke,builtin,hx,hy,hr]) (h v' w' (w.heap.size :: B) (fun b hb=>by rw [hat] at hb;cases hb;simp) (.inr hat) (fun b hb=>by simp [hb])
        (s.step mv (fun b hb=>by
          rcases List.mem_cons.1 hb with h|h
          · subst h;exact (hown' _ hat).2
          · exact Nat.lt_of_lt_of_le (s.new b h).2 hk.size)) mv hk (fin v' w' _ hown mv))
  obtain ⟨v',w',hr,g1,g2,_,g4⟩:=run_append_own_at (P:=P) w w0.heap.size t ty e i z E.size bytes ht hi1 hi2 hi3 hi4 hzs hpos v l.length css.flatten h2 ad m.length c css'.flatten hlen' k3 hones hlm hlen s.keep.size
  exact step v' w' hr g1 g2 g4
end
open Go.RowKit
abbrev YM:=List Nat→Value→World→Prop
def prU (Ts:List YM) (i:Nat):YM:=(Ts[i]?).getD (fun _ _ _=>True)
structure Gr where
  g:Nat
  rs:List Nat
  hs:List Nat
  kills:List Nat
  wr:Bool
  uses:List Nat
def SV (G:List Gr) (i:Nat):Gr:=(G[i]?).getD ⟨0,[],[],[],false,[]⟩
def aliveB (G:List Gr) (m i:Nat):Bool:=(List.range m).all fun q=>!(SV G q).kills.contains i
theorem nbf {a b:Nat}:Nat.beq a b=false↔a≠b:=by
  constructor
  · intro h e;subst e;rw [Nat.beq_refl] at h;cases h
  · intro h
    cases hb:Nat.beq a b with
    | false=>rfl
    | true=>exact absurd (Nat.eq_of_beq_eq_true hb) h
def avo (lab:Nat→Nat) (base size g:Nat):List Nat:=(List.range size).filter fun b=>Nat.ble base b && !Nat.beq (lab b) g
theorem KA {lab:Nat→Nat} {base size g b:Nat}:b∈avo lab base size g↔b<size∧base≤b∧lab b≠g:=by
  unfold avo;simp [List.mem_filter,nbf]
def WV (ops:List Oper) (m:Nat) (G:List Gr):Bool:=
  (List.range m).all fun i=>let r:=SV G i
    (Nat.beq r.g 0 || r.rs.all (fun x=>Nat.beq x r.g || r.hs.contains x)) && (!r.wr || !Nat.beq r.g 0) && (!Nat.beq r.g 0 || r.hs.isEmpty) && !r.hs.contains r.g && !r.hs.contains 0 &&
    (List.range m).all (fun q=>Nat.beq q i || Nat.beq (SV G q).g 0 || r.kills.contains q || DY ops q i || (!r.hs.contains (SV G q).g && (!r.wr || !Nat.beq (SV G q).g r.g))) &&
    r.uses.all (fun j=>Nat.blt j m && (KK ops i).contains j && (Nat.beq (SV G j).g 0 || r.rs.contains (SV G j).g) && (List.range m).all (fun q=>Nat.beq q i || !(SV G q).kills.contains j || DY ops q i))
def WT:List YM→List Gr→Prop
  | T :: Ts,r :: G=>(bif Nat.beq r.g 0 then (∀ B B' v w w',T B v w→T B' v w') else (∀ B B' v w w',T B v w→Mv B w B' w'→T B' v w'))∧WT Ts G
  | _,_=>True
theorem WT.at_:∀ {Ts:List YM} {G:List Gr},WT Ts G→G.length=Ts.length→∀ i,(bif Nat.beq (SV G i).g 0 then (∀ B B' v w w',prU Ts i B v w→prU Ts i B' v w') else (∀ B B' v w w',prU Ts i B v w→Mv B w B' w'→prU Ts i B' v w'))
  | [],[],_,_,i=>by simp only [SV,prU,List.getElem?_nil,Option.getD_none];exact fun _ _ _ _ _ _=>trivial
  | T :: Ts,r :: G,h,hl,0=>h.1
  | T :: Ts,r :: G,h,hl,i+1=>WT.at_ h.2 (by simpa using hl) i
  | [],_ :: _,_,h,_=>by simp at h
  | _ :: _,[],_,h,_=>by simp at h
section
variable {P:Program} {n:Nat} {Q:Exit→Fr→World→Prop}
def OpSpecU (P:Program) (ops:List Oper) (m:Nat) (Ts:List YM) (G:List Gr) (F:Fr) (w:World) (B:List Nat) (i:Nat) (o:Oper) (T:YM):Prop:=
  ∀ F1 w1 (B1:List Nat) (Bs:Nat→List Nat),Keep [] w w1→(∀ b∈B,b∈B1)→(∀ b∈B1,b∈B∨(w.heap.size≤b∧b<w1.heap.size))→(∀ g,(SV G i).rs.contains g=true→∀ b∈B1,b∈Bs g)→(∀ g h b,Nat.beq g h=false→w.heap.size≤b→b<w1.heap.size→b∉Bs g→b∈Bs h)→(∀ t,PO ops i t=true→F1 t=F t)→
    (∀ j d,(SV G i).uses.contains j=true→depAt' ops j d=true→prU Ts j (Bs (SV G j).g) (F1 d) w1)→
    (Region.wanted o (DG ops F1)=true→EB P o.op o.type F1 w1 (fun v w2=>∃ C,Keep C w1 w2∧(∀ b∈C,(SV G i).wr=true∧w.heap.size≤b∧b<w1.heap.size∧b∉B1)∧T B1 v w2) (fun _ _=>False))∧
    (Region.wanted o (DG ops F1)=false→T B1 undef w1)
def RA (P:Program) (ops:List Oper) (m:Nat) (Ts:List YM) (G:List Gr) (F:Fr) (w:World) (B:List Nat):Nat→List Oper→List YM→Prop
  | i,o :: r,T :: R=>OpSpecU P ops m Ts G F w B i o T∧RA P ops m Ts G F w B (i+1) r R
  | _,_,_=>True
theorem RA.at_ {ops:List Oper} {m:Nat} {Ts:List YM} {G:List Gr} {F:Fr} {w:World} {B:List Nat}:∀ (l:List Oper) (R:List YM) (k i:Nat) (o:Oper) (T:YM),RA P ops m Ts G F w B k l R→l[i]? = some o→R[i]? = some T→OpSpecU P ops m Ts G F w B (k+i) o T
  | [],_,_,_,_,_,_,h,_=>by simp at h
  | _ :: _,[],_,_,_,_,_,_,h=>by simp at h
  | o' :: l,T' :: R,k,0,o,T,h,h1,h2=>by
    simp at h1 h2;subst h1;subst h2;exact h.1
  | o' :: l,T' :: R,k,i+1,o,T,h,h1,h2=>by
    have:=RA.at_ l R (k+1) i o T h.2 (by simpa using h1) (by simpa using h2)
    rwa [show k+1+i=k+(i+1) by omega] at this
structure UInv (ops:List Oper) (m:Nat) (Ts:List YM) (G:List Gr) (F:Fr) (w:World) (B:List Nat) (listed:Array Bool) (F1:Fr) (w1:World):Prop where
  keep:Keep [] w w1
  down:∀ i,listed[i]? = some true→∀ j∈KK ops i,listed[j]? = some true
  free:∀ (t:Tmp),(∀ (j:Nat) (o:Oper),listed[j]? = some true→ops[j]? = some o→o.dst≠some t)→F1 t=F t
  fact:∃ lab:Nat→Nat,∀ (i:Nat) (o:Oper) (d:Tmp),i<m→listed[i]? = some true→(∀ q,q<m→listed[q]? = some true→i∉(SV G q).kills)→ops[i]? = some o→o.dst=some d→prU Ts i (avo lab w.heap.size w1.heap.size (SV G i).g++B) (F1 d) w1
theorem Keep.behind {a b c:World} {C:List Nat} (h:Keep [] a b) (k:Keep C b c) (hC:∀ x∈C,a.heap.size≤x):Keep [] a c:=
  ⟨k.os.trans h.os,k.tape.trans h.tape,k.output.trans h.output,Nat.le_trans h.size k.size,fun i hi ho=>(k.block i (Nat.lt_of_lt_of_le hi h.size) (fun hc=>by have:=hC i hc;omega)).trans (h.block i hi ho)⟩
theorem stepU {ops:List Oper} {F:Fr} {w:World} {m:Nat} {Ts:List YM} {G:List Gr} {B:List Nat} (hdo:∀ (i j:Nat) (oi oj:Oper),i<m→j<m→i≠j→ops[i]? = some oi→ops[j]? = some oj→oi.dst≠none→oi.dst≠oj.dst)
    (hTl:Ts.length=m) (hGl:G.length=Ts.length) (hle:m≤ops.length) (hgr:WV ops m G=true) (hst:WT Ts G)
    (hs:RA P ops m Ts G F w B 0 (ops.take m) Ts) {listed:Array Bool} {F1:Fr} {w1:World} {i:Nat} {o:Oper} (hsz:listed.size=ops.length) (hi:UInv ops m Ts G F w B listed F1 w1) (him:i<m) (ho:ops[i]? = some o) (hnl:listed[i]? = some false) (haft:∀ j∈KK ops i,listed[j]? = some true) :
    (Region.wanted o (DG ops F1)=true→EB P o.op o.type F1 w1 (fun v w2=>UInv ops m Ts G F w B (listed.setIfInBounds i true) (IO F1 o.dst v) w2) (fun _ _=>False))∧
    (Region.wanted o (DG ops F1)=false→UInv ops m Ts G F w B (listed.setIfInBounds i true) (IO F1 o.dst undef) w1):=by
  have hil:i<ops.length:=by omega
  have hg:=List.all_eq_true.1 hgr i (by simpa using him)
  simp only [Bool.and_eq_true] at hg
  obtain ⟨⟨⟨⟨⟨⟨g1,g2⟩,g3⟩,g4⟩,g5⟩,g6⟩,g7⟩:=hg
  generalize hr:SV G i=r at *
  have c1:r.g≠0→∀ x∈r.rs,x=r.g∨x∈r.hs:=fun h0 x hx=>by
    rcases (Bool.or_eq_true _ _).mp g1 with h|h
    · exact absurd (Nat.eq_of_beq_eq_true h) h0
    · have:=List.all_eq_true.1 h x hx
      rcases (Bool.or_eq_true _ _).mp this with h|h
      · exact .inl (Nat.eq_of_beq_eq_true h)
      · exact .inr (by simpa using h)
  have c2:r.wr=true→r.g≠0:=fun h h0=>by rw [h,h0] at g2;simp at g2
  have c3:r.g=0→r.hs=[]:=fun h0=>by rw [h0] at g3;simpa using g3
  have c4:r.g∉r.hs:=by simpa using g4
  have c6:∀ q,q<m→q≠i→(SV G q).g≠0→q∉r.kills→DY ops q i=false→(SV G q).g∉r.hs∧(r.wr=true→(SV G q).g≠r.g):=fun q hq hqi h0 hk hwt=>by
    have:=List.all_eq_true.1 g6 q (by simpa using hq)
    simp only [Bool.or_eq_true,Bool.and_eq_true] at this
    rcases this with (((h|h)|h)|h)|h
    · exact absurd (Nat.eq_of_beq_eq_true h) hqi
    · exact absurd (Nat.eq_of_beq_eq_true h) h0
    · exact absurd (by simpa using h) hk
    · rw [hwt] at h;cases h
    · exact ⟨by simpa using h.1,fun hw e=>by rw [hw,e] at h;simp at h⟩
  have c7:∀ j∈r.uses,j<m∧j∈KK ops i∧((SV G j).g≠0→(SV G j).g∈r.rs)∧∀ q,q<m→q≠i→j∈(SV G q).kills→DY ops q i=true:=fun j hj=>by
    have:=List.all_eq_true.1 g7 j hj
    simp only [Bool.and_eq_true] at this
    obtain ⟨⟨⟨h1,h2⟩,h3⟩,h4⟩:=this
    refine ⟨blt h1,by simpa using h2,fun h0=>?_,fun q hq hqi hk=>?_⟩
    · rcases (Bool.or_eq_true _ _).mp h3 with h|h
      · exact absurd (Nat.eq_of_beq_eq_true h) h0
      · simpa using h
    · have:=List.all_eq_true.1 h4 q (by simpa using hq)
      simp only [Bool.or_eq_true] at this
      rcases this with (h|h)|h
      · exact absurd (Nat.eq_of_beq_eq_true h) hqi
      · exact absurd hk (by simpa using h)
      · exact h
  obtain ⟨lab,hfact⟩:=hi.fact
  -- what the operation does not read
  have hL:∃ L:List Nat,∀ b,b∈L↔(b<w1.heap.size∧w.heap.size≤b∧lab b≠r.g∧lab b∉r.hs∧lab b∉r.rs):=
    ⟨(List.range w1.heap.size).filter fun b=>Nat.ble w.heap.size b && !Nat.beq (lab b) r.g && !r.hs.contains (lab b) && !r.rs.contains (lab b),fun b=>by simp [List.mem_filter,and_assoc,nbf]⟩
  obtain ⟨L,hL⟩:=hL
  have hstab:∀ j,(SV G j).g≠0→∀ B B' v w w',prU Ts j B v w→Mv B w B' w'→prU Ts j B' v w':=fun j h0=>by
    have:=hst.at_ hGl j
    cases hb:Nat.beq (SV G j).g 0 with
    | true=>exact absurd (Nat.eq_of_beq_eq_true hb) h0
    | false=>rw [hb] at this;exact this
  have hstat:∀ j,(SV G j).g=0→∀ B B' v w w',prU Ts j B v w→prU Ts j B' v w':=fun j h0=>by
    have:=hst.at_ hGl j
    rw [h0] at this;exact this
  have dep:∀ (j d:Nat),depAt' ops j d=true→∃ oj,ops[j]? = some oj∧oj.dst=some d:=fun j d h=>by
    unfold depAt' at h
    cases ho:ops[j]? with
    | none=>rw [ho] at h;cases h
    | some o=>
      rw [ho] at h
      simp only [Option.bind_some] at h
      cases hd':o.dst with
      | none=>rw [hd'] at h;cases h
      | some e=>
        rw [hd'] at h
        have:=Nat.eq_of_beq_eq_true h
        subst this
        exact ⟨o,rfl,hd'⟩
  have hT:Ts[i]? = some Ts[i]:=List.getElem?_eq_getElem (by omega)
  have hTi:prU Ts i=Ts[i]:=by unfold prU;rw [hT];rfl
  have hcl:∀ q j,listed[q]? = some true→DY ops q j=true→listed[j]? = some true:=fun q j hq hj=>by
    unfold DY at hj
    exact HS (D:=fun j=>listed[j]? = some true) hi.down _ _ (hi.down q hq) j (by simpa using hj)
  have hsp:=hs.at_ (ops.take m) Ts 0 i o Ts[i] (by rw [List.getElem?_take,if_pos him];exact ho) hT
  rw [Nat.zero_add] at hsp
  have hsep:∀ g h b,Nat.beq g h=false→w.heap.size≤b→b<w1.heap.size→b∉avo lab w.heap.size w1.heap.size g++B→b∈avo lab w.heap.size w1.heap.size h++B:=fun g h b hgh h1 h2 hb=>by
    refine List.mem_append_left _ (KA.2 ⟨h2,h1,fun e=>?_⟩)
    refine hb (List.mem_append_left _ (KA.2 ⟨h2,h1,fun e'=>?_⟩))
    rw [← e',e,Nat.beq_refl] at hgh;cases hgh
  have hsp:=hsp F1 w1 (L++B) (fun g=>avo lab w.heap.size w1.heap.size g++B) hi.keep (fun b hb=>List.mem_append_right _ hb) (fun b hb=>by
      rcases List.mem_append.1 hb with h|h
      · exact .inr ⟨((hL b).1 h).2.1,((hL b).1 h).1⟩
      · exact .inl h) (fun g hg b hb=>by
      rw [hr] at hg
      have hg:g∈r.rs:=by simpa using hg
      rcases List.mem_append.1 hb with h|h
      · obtain ⟨a1,a2,a3,a4,a5⟩:=(hL b).1 h
        exact List.mem_append_left _ (KA.2 ⟨a1,a2,fun e=>a5 (by rw [e];exact hg)⟩)
      · exact List.mem_append_right _ h) hsep (fun t ht=>hi.free t (fun j oj hj hoj=>by
        intro e
        unfold PO at ht
        have h1:=List.all_eq_true.1 ht j (by simp;exact (List.getElem?_eq_some_iff.1 hoj).1)
        rw [hoj] at h1
        simp only [e,Bool.or_eq_true,List.contains_iff_mem] at h1
        rcases h1 with h1|h1
        · simp at h1
        · have:=hi.down j hj i h1
          rw [hnl] at this;cases this)) (fun j d hj hdep=>by
        rw [hr] at hj
        have hj:j∈r.uses:=by simpa using hj
        obtain ⟨hjm,hja,hjr,hjk⟩:=c7 j hj
        obtain ⟨oj,hoj,hdj⟩:=dep j d hdep
        have hf:=hfact j oj d hjm (haft j hja) (fun q hq hql hk=>by
          by_cases hqi:q=i
          · subst hqi;rw [hnl] at hql;cases hql
          · have:=hcl q i hql (hjk q hq hqi hk)
            rw [hnl] at this;cases this) hoj hdj
        exact hf)
  have hdist:∀ (j:Nat) (oj:Oper),j<m→j≠i→ops[j]? = some oj→oj.dst≠none→oj.dst≠o.dst:=fun j oj hj hji hoj hne=>hdo j i oj o hj him hji hoj ho hne
  have hset:∀ (j:Nat),(listed.setIfInBounds i true)[j]? = some true→j=i∨listed[j]? = some true:=by
    intro j hj
    by_cases hji:j=i
    · exact .inl hji
    · rw [Array.getElem?_setIfInBounds,if_neg (fun e=>hji e.symm)] at hj;exact .inr hj
  have hmono:∀ (j:Nat),listed[j]? = some true→(listed.setIfInBounds i true)[j]? = some true:=by
    intro j hj
    rw [Array.getElem?_setIfInBounds]
    split
    · rename_i e;subst e
      have:i<listed.size:=by omega
      simp [this]
    · exact hj
  have hself:(listed.setIfInBounds i true)[i]? = some true:=by
    rw [Array.getElem?_setIfInBounds,if_pos rfl,if_pos (by omega)]
  have use:∀ v w2,(∃ C,Keep C w1 w2∧(∀ b∈C,r.wr=true∧w.heap.size≤b∧b<w1.heap.size∧b∉L++B)∧Ts[i] (L++B) v w2)→UInv ops m Ts G F w B (listed.setIfInBounds i true) (IO F1 o.dst v) w2:=by
    rintro v w2 ⟨C,hk,hC,hv⟩
    rw [← hTi] at hv
    refine ⟨hi.keep.behind hk (fun x hx=>(hC x hx).2.1),fun j hj q hq=>?_,fun t ht=>?_,fun b=>if b<w1.heap.size then (if lab b∈r.hs then r.g else lab b) else r.g,fun q oq d hqm hql hqk hoq hd=>?_⟩
    · rcases hset j hj with rfl|hj
      · exact hmono q (haft q hq)
      · exact hmono q (hi.down j hj q hq)
    · have h1:o.dst≠some t:=ht i o hself ho
      have h2:F1 t=F t:=hi.free t (fun j oj hj hoj=>ht j oj (hmono j hj) hoj)
      cases hod:o.dst with
      | none=>exact h2
      | some d'=>
        show GS F1 d' v t=F t
        rw [IP _ _ _ (fun e=>h1 (by rw [hod,e]))];exact h2
    · by_cases hqi:q=i
      · subst hqi
        rw [ho] at hoq;cases hoq
        have e:IO F1 o.dst v d=v:=by rw [hd];exact HQ _ _ _
        rw [e,hr]
        by_cases h0:r.g=0
        · exact hstat q (by rw [hr];exact h0) _ _ _ _ _ hv
        · refine hstab q (by rw [hr];exact h0) _ _ _ _ _ hv ⟨Keep.refl _ _,fun b hb=>.inl ?_⟩
          rcases List.mem_append.1 hb with h|h
          · obtain ⟨a1,a2,a3⟩:=KA.1 h
            by_cases hb1:b<w1.heap.size
            · rw [if_pos hb1] at a3
              by_cases hbh:lab b∈r.hs
              · rw [if_pos hbh] at a3;exact absurd rfl a3
              · rw [if_neg hbh] at a3
                refine List.mem_append_left _ ((hL b).2 ⟨hb1,a2,a3,hbh,fun hrs=>?_⟩)
                rcases c1 h0 _ hrs with h|h
                · exact a3 h
                · exact hbh h
            · rw [if_neg hb1] at a3;exact absurd rfl a3
          · exact List.mem_append_right _ h
      · have hql':listed[q]? = some true:=by rcases hset q hql with h|h;exact absurd h hqi;exact h
        have hf:=hfact q oq d hqm hql' (fun x hx hxl=>hqk x hx (hmono x hxl)) hoq hd
        have e:IO F1 o.dst v d=F1 d:=by
          cases hod:o.dst with
          | none=>rfl
          | some d'=>
            have hn:d≠d':=fun e=>hdist q oq hqm hqi hoq (by rw [hd];simp) (by rw [hd,hod,e])
            show GS F1 d' v d=F1 d
            rw [IP _ _ _ hn]
        rw [e]
        by_cases h0:(SV G q).g=0
        · exact hstat q h0 _ _ _ _ _ hf
        · obtain ⟨b1,b2⟩:=c6 q hqm hqi h0 (by have:=hqk i him hself;rwa [hr] at this) (by
            cases hwt:DY ops q i with
            | false=>rfl
            | true=>have:=hcl q i hql' hwt;rw [hnl] at this;cases this)
          refine hstab q h0 _ _ _ _ _ hf ⟨hk.mono (fun b hb=>.inl ?_),fun b hb=>?_⟩
          · obtain ⟨x1,x2,x3,x4⟩:=hC b hb
            refine List.mem_append_left _ (KA.2 ⟨x3,x2,fun e=>x4 (List.mem_append_left _ ((hL b).2 ⟨x3,x2,?_,?_,?_⟩))⟩)
            · rw [e];exact b2 x1
            · rw [e];exact b1
            · rw [e];intro hrs
              rcases c1 (c2 x1) _ hrs with h|h
              · exact b2 x1 h
              · exact b1 h
          · rcases List.mem_append.1 hb with h|h
            · obtain ⟨a1,a2,a3⟩:=KA.1 h
              by_cases hb1:b<w1.heap.size
              · rw [if_pos hb1] at a3
                refine .inl (List.mem_append_left _ (KA.2 ⟨hb1,a2,fun e=>a3 ?_⟩))
                rw [if_neg (by rw [e];exact b1)];exact e
              · exact .inr (by omega)
            · exact .inl (List.mem_append_right _ h)
  refine ⟨fun hw=>?_,fun hw=>use undef w1 ⟨[],Keep.refl _ _,(fun _ h=>by cases h),hsp.2 hw⟩⟩
  have h2:=hsp.1 hw
  rw [hr] at h2
  unfold EB at h2 ⊢
  generalize (execOp (CY F1) ⟨none,o.op,o.type,"",#[],none⟩).run P w1=rr at h2 ⊢
  cases rr with
  | ok x w'=>
    cases x <;> simp only [HM] at h2 ⊢ <;> try exact h2.elim
    case value v=>exact use _ _ h2
    case skip=>exact use _ _ h2
    case enter f args=>
      exact Calls.mono h2 fun e w'' he=>by
        cases e with
        | returned v=>exact use _ _ he
        | panicked c=>exact he.elim
        | outgrown=>exact he.elim
  | halt x w'=>cases x <;> simp only [HM] at h2 ⊢ <;> exact h2.elim
def FinU (ops:List Oper) (m:Nat) (Ts:List YM) (G:List Gr) (F:Fr) (w:World) (B:List Nat) (ex:List Nat) (K:Fr→World→Prop):Prop:=
  ∀ F1 w1 (Bs:Nat→List Nat),Keep [] w w1→(∀ g,∀ b∈B,b∈Bs g)→(∀ g,∀ b∈Bs g,b∈B∨(w.heap.size≤b∧b<w1.heap.size))→(∀ g h b,Nat.beq g h=false→w.heap.size≤b→b<w1.heap.size→b∉Bs g→b∈Bs h)→
    (∀ i d,depAt' ops i d=true→i<m→ex.contains i=false→aliveB G m i=true→prU Ts i (Bs (SV G i).g) (F1 d) w1)→(∀ t,OO ops m t=true→F1 t=F t)→K F1 w1
theorem UInv.fin {ops:List Oper} {m:Nat} {Ts:List YM} {G:List Gr} {F:Fr} {w:World} {B ex:List Nat} {K:Fr→World→Prop} {listed:Array Bool} {F1:Fr} {w1:World} (hi:UInv ops m Ts G F w.drew B listed F1 w1) (hall:∀ i,i<m→ex.contains i=false→listed[i]? = some true) (hno:∀ j,m≤j→listed[j]?≠some true) (fin:FinU ops m Ts G F w B ex K):K F1 w1:=by
  obtain ⟨lab,hf⟩:=hi.fact
  refine fin F1 w1 (fun g=>avo lab w.heap.size w1.heap.size g++B) ((Keep.drew [] w).trans hi.keep) (fun g b hb=>List.mem_append_right _ hb) (fun g b hb=>?_) (fun g h b hgh h1 h2 hb=>?_) (fun i d hdp him hex hal=>?_) (fun t ht=>hi.free t (fun j o hj ho e=>?_))
  · rcases List.mem_append.1 hb with h|h
    · exact .inr ⟨(KA.1 h).2.1,(KA.1 h).1⟩
    · exact .inl h
  · refine List.mem_append_left _ (KA.2 ⟨h2,h1,fun e=>?_⟩)
    exact hb (List.mem_append_left _ (KA.2 ⟨h2,h1,fun e'=>by rw [← e',e,Nat.beq_refl] at hgh;cases hgh⟩))
  · unfold depAt' at hdp
    cases ho:ops[i]? with
    | none=>rw [ho] at hdp;cases hdp
    | some o=>
      rw [ho] at hdp
      simp only [Option.bind_some] at hdp
      cases hd':o.dst with
      | none=>rw [hd'] at hdp;cases hdp
      | some e=>
        rw [hd'] at hdp
        have:=Nat.eq_of_beq_eq_true hdp
        subst this
        refine hf i o e him (hall i him hex) (fun q hq _=>?_) ho hd'
        have:=List.all_eq_true.1 hal q (by simpa using hq)
        simpa using this
  · rcases Nat.lt_or_ge j m with h1|h1
    · unfold OO at ht
      have h3:=List.all_eq_true.1 ht o (List.mem_of_getElem? (by rw [List.getElem?_take,if_pos h1];exact ho))
      rw [e] at h3;simp at h3
    · exact absurd hj (hno j h1)
theorem UInv.start {ops:List Oper} {m:Nat} {Ts:List YM} {G:List Gr} {F:Fr} {w:World} {B:List Nat}:UInv ops m Ts G F w B (Array.replicate ops.length false) F w:=by
  refine ⟨Keep.refl _ _,fun i hi=>?_,fun _ _=>rfl,fun _=>0,fun i o d _ hi=>?_⟩ <;> simp_all [Array.getElem?_replicate]
theorem YE {id:Nat} {ops:List Oper} {F:Fr} {w:World} (m:Nat) (late:List Nat) (pre:List Oper) (om:Oper) (tl:List Oper) (Ts:List YM) (G:List Gr) (B:List Nat) (hm:P.follows .mixedOrders=true) (hok:ops.all (PK n ops)=true) (hd:RM ops m late=true) (hlen:(Nat.beq Ts.length m && Nat.beq G.length m && Nat.ble m ops.length)=true) (hgr:WV ops m G=true) (hnd:late.Nodup)
    (hpre:ops.take m=pre) (hom:ops[m]? = some om) (htl:DH ops (CU ops m)=tl) (hst:WT Ts G) (hs:RA P ops m Ts G F w.drew B 0 pre Ts)
    (fin:FinU ops m Ts G F w B [] (WL false P ops Q (om :: tl))) (finL:∀ c,c<late.length→FinU ops m Ts G F w B (late.drop c) (WL false P ops Q (om :: (DH ops (late.drop c)++tl)))):CW P (ro:=none) n (.region id ops.toArray true) Q F w:=by
  subst hpre;subst htl
  simp only [Bool.and_eq_true] at hlen
  have hTl:Ts.length=m:=Nat.eq_of_beq_eq_true hlen.1.1
  have hGl:G.length=Ts.length:=by rw [hTl];exact Nat.eq_of_beq_eq_true hlen.1.2
  have hle:m≤ops.length:=Nat.le_of_ble_eq_true hlen.2
  have hdr:({ w with drawn:=w.drawn+1 }:World)=w.drew:=rfl
  have hd':=hd
  unfold RM at hd'
  simp only [Bool.and_eq_true] at hd'
  obtain ⟨⟨⟨⟨⟨⟨⟨⟨⟨d1,d2⟩,d3⟩,d4⟩,d5⟩,d6⟩,d7⟩,d8⟩,d9⟩,d10⟩:=hd'
  have hdist:∀ (i j:Nat) (oi oj:Oper),i<m→j<m→i≠j→ops[i]? = some oi→ops[j]? = some oj→oi.dst≠none→oi.dst≠oj.dst:=by
    intro i j oi oj hi hj hij hoi hoj hne
    have:=List.all_eq_true.1 (List.all_eq_true.1 d1 i (by simpa using hi)) j (by simpa using hj)
    simp only [Bool.or_eq_true] at this
    rcases this with h5|h5
    · exact absurd (Nat.eq_of_beq_eq_true h5) hij
    · rw [hoi,hoj] at h5
      intro e
      cases hd:oi.dst with
      | none=>exact hne hd
      | some d=>
        rw [hd] at e
        simp only [Option.bind_some,hd,← e] at h5
        simp at h5
  refine wpIn_wide.2 (wp_region_any hm ?_)
  rw [hdr,List.size_toArray]
  refine draw_runM (UInv ops m Ts G F w.drew B) hd hnd hok hom (fun listed F1 w1 h=>h.down) (fun listed F1 w1 i o hsz h him ho hnl haft=>stepU hdist hTl hGl hle hgr hst hs hsz h him ho hnl haft)
    (fun listed F1 w1 hi hall hno=>hi.fin (fun i him _=>hall i him) hno fin) (fun c hc listed F1 w1 hi hall hno=>hi.fin (fun i him hex=>(hall i him).2 (by simpa using hex)) hno (finL c hc)) ops.length _ F w.drew (by simp) ?_ (fun j _=>?_) UInv.start
  · unfold OT;exact Nat.le_trans (List.countP_le_length) (by simp)
  · simp [Array.getElem?_replicate]
theorem QG {w w1:World} {B1:List Nat} {wr:Bool}:∀ b∈([]:List Nat),wr=true∧w.heap.size≤b∧b<w1.heap.size∧b∉B1:=fun _ h=>by cases h
theorem St.adoptL {w0 w w':World} {O0 B B1:List Nat} (s:St w0 O0 w B) (k:Keep [] w w') (hl:∀ b∈B1,b∈B∨(w.heap.size≤b∧b<w'.heap.size)):St w0 O0 w' B1:=
  ⟨(s.call k).keep,fun b hb=>by
    rcases hl b hb with h|h
    · exact ⟨(s.new b h).1,Nat.lt_of_lt_of_le (s.new b h).2 k.size⟩
    · exact ⟨Nat.le_trans s.keep.size h.1,h.2⟩,s.old⟩
theorem Mv.adoptL {w w':World} {B B1:List Nat} (k:Keep [] w w') (hl:∀ b∈B1,b∈B∨(w.heap.size≤b∧b<w'.heap.size)):Mv B w B1 w':=
  ⟨k.nil,fun b hb=>(hl b hb).imp id (·.1)⟩
theorem Mv.at_ {w:World} {B B1:List Nat} (h:∀ b∈B1,b∈B):Mv B w B1 w:=⟨Keep.refl _ _,fun b hb=>.inl (h b hb)⟩
def UE (u:World) (t:TypeId) (cs:List Value):YM:=fun B v w=>∃ b,v = .pointer (some ⟨b,0,none⟩)∧u.heap.size≤b∧b∉B∧IX w b t cs
theorem UE.st {u:World} {t:TypeId} {cs:List Value}:∀ B B' v w w',UE u t cs B v w→Mv B w B' w'→UE u t cs B' v w':=fun B B' v w w' ⟨b,e,lo,hn,hb⟩ m=>
  ⟨b,e,lo,fun h=>by rcases m.new b h with h1|h1;exact hn h1;have:=hb.lt;omega,hb.keep m.keep hn⟩
def TOw {α:Type} (u:World) (base:Nat) (O:List Nat) (E:Enc α) (e:TypeId) (l:List α):YM:=fun B v w=>(∀ b,v.ownBlock=some b→u.heap.size≤b∧b∉B)∧EX E e base ((v.ownBlock.toList++B)++O) w v l
theorem Mv.app {w w':World} {B B':List Nat} (m:Mv B w B' w') (L:List Nat):Mv (L++B) w (L++B') w':=
  ⟨m.keep.mono (fun x hx=>.inl (List.mem_append_right _ hx)),fun x hx=>by
    rcases List.mem_append.1 hx with h|h
    · exact .inl (List.mem_append_left _ h)
    · exact (m.new x h).imp (List.mem_append_right _) id⟩
theorem TOw.st {α:Type} {u:World} {base:Nat} {O:List Nat} {E:Enc α} {e:TypeId} {l:List α}:∀ B B' v w w',TOw u base O E e l B v w→Mv B w B' w'→TOw u base O E e l B' v w':=fun B B' v w w' ⟨hb,ho⟩ m=>
  ⟨fun b h=>⟨(hb b h).1,fun h2=>by
    rcases m.new b h2 with h1|h1
    · exact (hb b h).2 h1
    · have:=(ho.lt b h).2;omega⟩,ho.mv (m.app _) m.keep (fun c hc=>(hb c hc).2)⟩
theorem TOw.rd {α:Type} {u:World} {base:Nat} {O:List Nat} {E:Enc α} {e:TypeId} {l:List α} {B:List Nat} {v:Value} {w:World} (h:TOw u base O E e l B v w) (hO:∀ x∈O,x<u.heap.size):BB E w (B++O) v l:=by
  refine h.2.rd (fun x hx=>.inl ?_) (fun c hc hx=>?_)
  · rcases List.mem_append.1 hx with h1|h1
    · exact List.mem_append_left _ (List.mem_append_right _ h1)
    · exact List.mem_append_right _ h1
  · rcases List.mem_append.1 hx with h1|h1
    · exact (h.1 c hc).2 h1
    · have:=hO _ h1;have:=(h.1 c hc).1;omega
theorem TOw.one {α:Type} {u:World} {base b:Nat} {O B:List Nat} {E:Enc α} {e:TypeId} {l:List α} {v:Value} {w:World} (hb:v.ownBlock=some b) (lo:u.heap.size≤b) (hn:b∉B) (h:EX E e base ((b :: B)++O) w v l):TOw u base O E e l B v w:=
  ⟨fun c hc=>by rw [hb] at hc;cases hc;exact ⟨lo,hn⟩,by rw [hb];exact h⟩
theorem lt_of {w1:World} {B1:List Nat} {w0:World} {O0:List Nat} (s:St w0 O0 w1 B1):∀ x∈B1,x<w1.heap.size:=fun x hx=>(s.new x hx).2
theorem TOw.call {α:Type} {u w1 w2:World} {base:Nat} {O B1:List Nat} {E:Enc α} {e:TypeId} {l:List α} {v:Value} (hu:u.heap.size≤w1.heap.size) (hbase:base≤w1.heap.size) (hlt:∀ x∈B1,x<w1.heap.size) (hv:∀ b,v.ownBlock=some b→w1.heap.size≤b) (h:EX E e w1.heap.size (v.ownBlock.toList++(B1++O)) w2 v l):TOw u base O E e l B1 v w2:=
  ⟨fun b hb=>⟨Nat.le_trans hu (hv b hb),fun hx=>by have:=hlt _ hx;have:=hv b hb;omega⟩,by
    obtain ⟨css,h1,h2,h3⟩:=h
    refine ⟨css,h1,⟨h2.1,?_⟩,fun i cs x hi hx=>by rw [List.append_assoc];exact h3 i cs x hi hx⟩
    rcases h2.2 with h|⟨g,cap,cur,rfl,hbg,r⟩
    · exact .inl h
    · exact .inr ⟨g,cap,cur,rfl,Nat.le_trans hbase hbg,r⟩⟩
section
variable {ty:TypeId} {F:Fr} {w:World} {K:Value→World→Prop} {Z:List PanicEntry→World→Prop} {x y:Operand}
end
end
open Go.RowKit
section
variable {P:Program} {w:World}
variable {ty yt:TypeId} {F:Fr} {K:Value→World→Prop} {Z:List PanicEntry→World→Prop} {x y:Operand}
def mfind {κ:Type} [BEq κ] (l:List (κ × Value)) (k:κ):Option Value:=(l.findIdx? (fun x=>k == x.1)).bind fun j=>(l[j]?).map (·.2)
def MapV {κ α:Type} [BEq κ] (enc:κ→Value) (venc:α→Value) (w:World) (r:Nat) (M:κ→Option α):Prop:=
  ∃ es c,∃ l:List (κ × Value),Ob w r (.map es c)∧es.toList.map (fun e=>(e.key,e.val))=l.map (fun x=>(enc x.1,x.2))∧∀ k,mfind l k=(M k).map venc
section
variable {κ α:Type} [BEq κ] {enc:κ→Value} {venc:α→Value} {r:Nat} {M:κ→Option α}
theorem MapV.lt (h:MapV enc venc w r M):r<w.heap.size:=let ⟨_,_,_,h,_⟩:=h;h.lt
theorem MapV.keep {w':World} {O:List Nat} (h:MapV enc venc w r M) (k:Keep O w w') (hb:r∉O):MapV enc venc w' r M:=let ⟨es,c,l,h1,h2⟩:=h;⟨es,c,l,h1.keep k hb,h2⟩
variable {w0:World} {O0 B:List Nat} {z:Operand}
variable [LawfulBEq κ]
end
section
variable {κ:Type} [BEq κ] [LawfulBEq κ]
end
end
open Go.RowKit
section
variable {P:Program} {n:Nat} {Q:Exit→Fr→World→Prop}
def KZ (op:Op) (F:Fr):Option Value:=
  match op with
  | .extract x i=>(match CY F x with | .tuple vs=>vs[i]? | _=>none)
  | .move x=>some (CY F x)
  | .assign x=>some (CY F x)
  | _=>none
def MT (op:Op) (d:Tmp):Bool:=
  match op with
  | .extract (.tmp s) _=>!Nat.beq s d
  | .move (.tmp s)=>!Nat.beq s d
  | .assign (.tmp s)=>!Nat.beq s d
  | .assign (.const _)=>true
  | _=>false
theorem ND {op:Op} {d:Tmp} {ty:TypeId} {F:Fr} {w:World} {K:Value→World→Prop} {Z:List PanicEntry→World→Prop} (hp:MT op d=true) (h:EB P op ty F w K Z):∃ v,KZ op F=some v∧K v w:=by
  unfold MT at hp
  split at hp
  · rename_i s i
    unfold EB at h
    have e:CY F (.tmp s)=F s:=rfl
    simp only [execOp,e] at h
    unfold KZ
    simp only [e]
    cases hF:F s with
    | tuple vs=>
      rw [hF] at h
      cases hv:vs[i]? with
      | some v=>refine ⟨v,hv,?_⟩;simpa [Instr.extract,hv,HM] using h
      | none=>exfalso;simp [Instr.extract,hv,HM] at h
    | _=>exfalso;rw [hF] at h;simp [Instr.extract,HM] at h
  · unfold EB at h;simp only [execOp] at h;exact ⟨_,rfl,by simpa [HM] using h⟩
  · unfold EB at h;simp only [execOp] at h;exact ⟨_,rfl,by simpa [HM] using h⟩
  · unfold EB at h;simp only [execOp] at h;exact ⟨_,rfl,by simpa [HM] using h⟩
  · cases hp
theorem JX {op:Op} {v:Value} {ty:TypeId} {F:Fr} {w:World} {K:Value→World→Prop} {Z:List PanicEntry→World→Prop} (hv:KZ op F=some v) (h:K v w):EB P op ty F w K Z:=by
  unfold KZ at hv
  split at hv
  · split at hv
    · rename_i vs e;exact AO (vs:=vs) v e hv h
    · cases hv
  · exact AE v (Option.some.inj hv) h
  · exact AD v (Option.some.inj hv) h
  · cases hv
def exOk (ops:List Oper) (a b:Nat):Bool:=
  match ops[a]?,ops[b]? with
  | some oa,some ob=>oa.guard.isNone && ob.guard.isNone && (match oa.dst,ob.dst with
    | some da,some db=>!Nat.beq da db && MT oa.op db && MT ob.op da
    | _,_=>false)
  | _,_=>false
theorem nbeq {a b:Nat} (h:(!Nat.beq a b)=true):a≠b:=fun e=>by subst e;simp at h
theorem beq_ne {a b:Nat} (h:a≠b):Nat.beq a b=false:=by
  cases e:Nat.beq a b with
  | false=>rfl
  | true=>exact absurd (Nat.eq_of_beq_eq_true e) h
theorem XU {F:Fr} {d t:Nat} {v:Value} (h:t≠d):GS F d v t=F t:=by
  unfold GS;rw [beq_ne h];rfl
theorem upd_swap {F:Fr} {a b:Nat} {v u:Value} (h:a≠b):GS (GS F a v) b u=GS (GS F b u) a v:=by
  funext t
  unfold GS
  cases e1:Nat.beq t a with
  | false=>cases e2:Nat.beq t b <;> rfl
  | true=>
    have h1:=Nat.eq_of_beq_eq_true e1
    subst h1
    rw [beq_ne h];rfl
theorem JY {op:Op} {d:Tmp} {F:Fr} {u:Value} (hp:MT op d=true):KZ op (GS F d u)=KZ op F:=by
  unfold MT at hp
  unfold KZ
  have e:∀ s:Tmp,(!Nat.beq s d)=true→CY (GS F d u) (.tmp s)=CY F (.tmp s):=fun s hs=>XU (nbeq hs)
  split at hp
  · simp only [e _ hp]
  · simp only [e _ hp]
  · simp only [e _ hp]
  · rfl
  · cases hp
theorem wl_swap {ops:List Oper} {a b:Nat} {oa ob:Oper} {rest:List Oper} {F:Fr} {w:World} (hx:exOk ops a b=true) (ha:ops[a]? = some oa) (hb:ops[b]? = some ob) (h:WL false P ops Q (oa :: ob :: rest) F w):WL false P ops Q (ob :: oa :: rest) F w:=by
  unfold exOk at hx
  rw [ha,hb] at hx
  obtain ⟨d1,p1,t1,q1,f1,g1⟩:=oa
  obtain ⟨d2,p2,t2,q2,f2,g2⟩:=ob
  simp only [Bool.and_eq_true] at hx
  obtain ⟨⟨h1,h2⟩,h3⟩:=hx
  cases g1 with
  | some _=>simp at h1
  | none=>
  cases g2 with
  | some _=>simp at h2
  | none=>
  cases d1 with
  | none=>simp at h3
  | some da=>
  cases d2 with
  | none=>simp at h3
  | some db=>
    simp only [Bool.and_eq_true] at h3
    obtain ⟨⟨h3,h4⟩,h5⟩:=h3
    have n1:=nbeq h3
    unfold WL at h
    rw [if_pos (by rfl)] at h
    obtain ⟨v,hv,h⟩:=ND h4 (h.resolve_right (fun e=>by cases e.1))
    unfold WL at h
    rw [if_pos (by rfl)] at h
    obtain ⟨x,hxv,h⟩:=ND h5 (h.resolve_right (fun e=>by cases e.1))
    have hxv':KZ p2 F=some x:=(JY (F:=F) (u:=v) h5).symm.trans hxv
    unfold WL
    rw [if_pos (by rfl)]
    refine .inl (JX hxv' ?_)
    unfold WL
    rw [if_pos (by rfl)]
    refine .inl (JX (v:=v) ((JY (F:=F) (u:=x) h4).trans hv) ?_)
    have e:IO (IO F (some db) x) (some da) v=IO (IO F (some da) v) (some db) x:=(upd_swap (F:=F) (v:=v) (u:=x) n1).symm
    rw [e];exact h
def OA (ops:List Oper):Nat→List Nat→Bool
  | _,[]=>true
  | 0,_=>false
  | _+1,[a]=>(KK ops a).all fun j=>!Nat.beq j a
  | f+1,a :: b :: t=>(KK ops a).all (fun j=>!(a :: b :: t).contains j) && t.all (fun x=>DY ops x a) && OA ops f (b :: t) &&
      (DY ops b a || (exOk ops a b && (KK ops b).all (fun j=>!(a :: b :: t).contains j) && OA ops f (a :: t)))
theorem SG {ops:List Oper} (hok:ops.all (PK n ops)=true) {i fuel:Nat} {listed:Array Bool} {F1:Fr} {w1:World} {rest:List Oper} (hil:i<ops.length) (h:WL false P ops Q (ops[i] :: rest) F1 w1)
    (ih:∀ F w,WL false P ops Q rest F w→wpAny P .any ops.toArray (LI n Q) fuel (listed.setIfInBounds i true) (mk n F) w):wpOp P ops.toArray (LI n Q) i (wpAny P .any ops.toArray (LI n Q) fuel (listed.setIfInBounds i true)) (mk n F1) w1:=by
  have ho:ops[i]? = some ops[i]:=List.getElem?_eq_getElem hil
  refine LZ (K:=fun F w=>WL false P ops Q rest F w) hok ho ih (fun hw=>?_) (fun hw=>?_)
  · unfold WL at h;rw [if_pos hw] at h;exact h.resolve_right (fun e=>by cases e.1)
  · unfold WL at h;rw [if_neg (by rw [hw];simp)] at h;exact h
theorem HT {ops:List Oper} {i:Nat} {t:List Nat} (hil:i<ops.length):DH ops (i :: t)=ops[i] :: DH ops t:=by
  unfold DH;rw [List.filterMap_cons,List.getElem?_eq_getElem hil]
theorem forced_runC {ops:List Oper} (hok:ops.all (PK n ops)=true) (hin:∀ k,k<ops.length→∀ j∈KK ops k,j<ops.length):∀ (g:Nat) (seq:List Nat) (fuel:Nat) (listed:Array Bool) (F1:Fr) (w1:World),listed.size=ops.length→OT ops listed≤fuel→
    (∀ j,j<ops.length→(listed[j]? = some true↔j∉seq))→(∀ j∈seq,j<ops.length)→seq.Nodup→OA ops g seq=true→(∀ i,listed[i]? = some true→∀ j∈KK ops i,listed[j]? = some true)→
    WL false P ops Q (DH ops seq) F1 w1→wpAny P .any ops.toArray (LI n Q) fuel listed (mk n F1) w1:=by
  intro g
  induction g with
  | zero=>
    intro seq fuel listed F1 w1 hsz hfu hl hlt hnd hf hdown h
    cases seq with
    | nil=>exact GW hok hin [] fuel listed F1 w1 hsz hfu hl hlt hnd rfl hdown h
    | cons a t=>cases t <;> simp [OA] at hf
  | succ g ihg=>
    intro seq fuel listed F1 w1 hsz hfu hl hlt hnd hf hdown h
    match seq,hl,hlt,hnd,hf,h with
    | [],hl,hlt,hnd,hf,h=>exact GW hok hin [] fuel listed F1 w1 hsz hfu hl hlt hnd rfl hdown h
    | [a],hl,hlt,hnd,hf,h=>
      refine GW hok hin [a] fuel listed F1 w1 hsz hfu hl hlt hnd ?_ hdown h
      unfold OA at hf
      unfold LP LP
      simp only [List.all_nil,Bool.true_and,Bool.and_true]
      refine List.all_eq_true.2 fun j hj=>?_
      have:=nbeq (List.all_eq_true.1 hf j hj)
      simpa using this
    | a :: b :: t,hl,hlt,hnd,hf,h=>
      unfold OA at hf
      simp only [Bool.and_eq_true] at hf
      obtain ⟨⟨⟨f1,f2⟩,f3⟩,f4⟩:=hf
      have ha:a<ops.length:=hlt a (by simp)
      have hb:b<ops.length:=hlt b (by simp)
      obtain ⟨hat,hnd'⟩:=List.nodup_cons.1 hnd
      obtain ⟨hbt,hnd''⟩:=List.nodup_cons.1 hnd'
      have hunl:∀ q,q<ops.length→q∈a :: b :: t→listed[q]? = some false:=fun q hq hm=>by
        have h1:¬ listed[q]? = some true:=fun e=>((hl q hq).1 e) hm
        have:q<listed.size:=by omega
        rw [Array.getElem?_eq_getElem this] at h1 ⊢
        simpa using h1
      have han:=hunl a ha (by simp)
      have hbn:=hunl b hb (by simp)
      have hula:=IR ha hsz han
      have hulb:=IR hb hsz hbn
      obtain ⟨fuel,rfl⟩:∃ f,fuel=f+1:=⟨fuel - 1,by omega⟩
      have haq:∀ j∈KK ops a,listed[j]? = some true:=fun j hj=>by
        have h1:=List.all_eq_true.1 f1 j hj
        exact (hl j (hin a ha j hj)).2 (by simpa using h1)
      have hset:∀ i,i<ops.length→∀ j,(listed.setIfInBounds i true)[j]? = some true↔j=i∨listed[j]? = some true:=fun i hi j=>by
        rw [Array.getElem?_setIfInBounds]
        by_cases hji:i=j
        · subst hji;simp;omega
        · rw [if_neg hji];exact ⟨fun h=>.inr h,fun h=>h.resolve_left (fun e=>hji e.symm)⟩
      refine ⟨fun h0=>?_,fun i hi=>?_⟩
      · have:=ready_of' hsz ha han haq
        rw [h0] at this;cases this
      · obtain ⟨hnl,hil⟩:=KU hi hsz
        have hmem:i∈a :: b :: t:=Classical.byContradiction fun hc=>by have:=(hl i hil).2 hc;rw [hnl] at this;cases this
        have hready:=IM (List.getElem?_eq_getElem hil) hi hsz (hin i hil)
        have hwait:∀ q,DY ops i q=true→listed[q]? = some true:=fun q hq=>by
          unfold DY at hq
          exact HS (D:=fun j=>listed[j]? = some true) hdown _ _ hready q (by simpa using hq)
        rcases List.mem_cons.1 hmem with rfl|hmem
        · rw [HT ha] at h
          refine SG hok ha h fun F w hK=>ihg (b :: t) fuel _ F w (by simpa using hsz) (by omega) (fun j hj=>?_) (fun j hj=>hlt j (List.mem_cons_of_mem _ hj)) hnd' f3 (fun j hj x hx=>?_) hK
          · rw [hset i ha j,hl j hj]
            constructor
            · rintro (rfl|h1)
              · exact hat
              · exact fun h2=>h1 (List.mem_cons_of_mem _ h2)
            · intro h1
              by_cases hji:j=i
              · exact .inl hji
              · exact .inr fun h2=>by rcases List.mem_cons.1 h2 with h3|h3;exact hji h3;exact h1 h3
          · rw [hset i ha x]
            rcases (hset i ha j).1 hj with h1|h1
            · subst h1;exact .inr (haq x hx)
            · exact .inr (hdown j h1 x hx)
        · rcases List.mem_cons.1 hmem with rfl|hmem
          · -- the second comes first
            simp only [Bool.or_eq_true,Bool.and_eq_true] at f4
            rcases f4 with f4|⟨⟨f4,f5⟩,f6⟩
            · have:=hwait a f4;rw [han] at this;cases this
            · rw [HT ha,HT hb] at h
              have h':=wl_swap f4 (List.getElem?_eq_getElem ha) (List.getElem?_eq_getElem hb) h
              rw [← HT (t:=t) ha] at h'
              refine SG hok hb h' fun F w hK=>ihg (a :: t) fuel _ F w (by simpa using hsz) (by omega) (fun j hj=>?_) (fun j hj=>hlt j (by rcases List.mem_cons.1 hj with h1|h1;exact h1 ▸ List.mem_cons_self;exact List.mem_cons_of_mem _ (List.mem_cons_of_mem _ h1))) (List.nodup_cons.2 ⟨fun h2=>hat (List.mem_cons_of_mem _ h2),hnd''⟩) f6 (fun j hj x hx=>?_) hK
              · rw [hset i hb j,hl j hj]
                constructor
                · rintro (rfl|h1)
                  · intro h2
                    rcases List.mem_cons.1 h2 with h3|h3
                    · exact hat (h3 ▸ List.mem_cons_self)
                    · exact hbt h3
                  · intro h2
                    apply h1
                    rcases List.mem_cons.1 h2 with h3|h3
                    · rw [h3];exact List.mem_cons_self
                    · exact List.mem_cons_of_mem _ (List.mem_cons_of_mem _ h3)
                · intro h1
                  by_cases hji:j=i
                  · exact .inl hji
                  · refine .inr fun h2=>?_
                    rcases List.mem_cons.1 h2 with h3|h3
                    · exact h1 (h3 ▸ List.mem_cons_self)
                    · rcases List.mem_cons.1 h3 with h4|h4
                      · exact hji h4
                      · exact h1 (List.mem_cons_of_mem _ h4)
              · rw [hset i hb x]
                rcases (hset i hb j).1 hj with h1|h1
                · subst h1
                  have h5:=List.all_eq_true.1 f5 x hx
                  exact .inr ((hl x (hin j hb x hx)).2 (by simpa using h5))
                · exact .inr (hdown j h1 x hx)
          · have:=hwait a (List.all_eq_true.1 f2 i hmem)
            rw [han] at this;cases this
def drawOkC (ops:List Oper) (m:Nat):Bool:=
  (List.range m).all (fun i=>(List.range m).all fun j=>Nat.beq i j || (match (ops[i]?).bind (·.dst),(ops[j]?).bind (·.dst) with|some a,some b=>!Nat.beq a b | _,_=>true)) &&
  ((List.range ops.length).drop m).all (fun k=>(List.range m).all fun j=>DY ops k j) &&
  (List.range ops.length).all (fun k=>(KK ops k).all fun j=>Nat.blt j k) && Nat.ble m ops.length && OA ops ops.length ((List.range ops.length).drop m)
end
open Go.RowKit
section
variable {P:Program} {n:Nat} {Q:Exit→Fr→World→Prop}
theorem SO {ρ σ:Operand→Value} (o:Oper) (h2:(match o.op with | .select ..=>false | _=>true)=true) (key:∀ x∈o.op.operands.toList,ρ x=σ x):execOp ρ o=execOp σ o:=by
  have keyA:∀ (xs:Array Operand),(∀ x∈xs.toList,x∈o.op.operands.toList)→xs.map ρ=xs.map σ:=fun xs hx=>
    Array.map_congr_left fun x hm=>key x (hx x (by simpa using hm))
  have keyO:∀ (x:Option Operand),(∀ y,x=some y→y∈o.op.operands.toList)→x.map ρ=x.map σ:=fun x hx=>by
    cases x with
    | none=>rfl
    | some y=>simp [key y (hx y rfl)]
  obtain ⟨d,op,ty,pos,after,g⟩:=o
  simp only at key keyA keyO
  have call:∀ (c:Call),c.operands=op.operands→(∀ t,resolve ρ c t=resolve σ c t):=fun c hc t=>by
    obtain ⟨callee,args,ats⟩:=c
    have ha:args.map ρ=args.map σ:=keyA args (fun x hx=>by rw [← hc];simp [Call.operands];exact .inr (by simpa using hx))
    unfold resolve
    simp only [ha]
    cases callee with
    | value f=>simp only [key f (by rw [← hc];simp [Call.operands])]
    | invoke r m=>simp only [key r (by rw [← hc];simp [Call.operands])]
    | builtin b=>rfl
  cases op with
  | select cs b=>simp at h2
  | build t ps=>
    simp only [execOp]
    have:ps.map (fun p=>(p.1,ρ p.2))=ps.map (fun p=>(p.1,σ p.2)):=Array.map_congr_left fun p hp=>by rw [key p.2 (by have hp:p∈ps.toList:=(by simpa using hp);simp only [Op.operands,List.mem_map];exact ⟨p,hp,rfl⟩)]
    rw [this]
  | buildSlice t len ps=>
    simp only [execOp]
    have:ps.map (fun p=>(p.1,ρ p.2))=ps.map (fun p=>(p.1,σ p.2)):=Array.map_congr_left fun p hp=>by rw [key p.2 (by have hp:p∈ps.toList:=(by simpa using hp);simp only [Op.operands,List.mem_map];exact ⟨p,hp,rfl⟩)]
    rw [this]
  | call c=>simp only [execOp,call c rfl]
  | go c=>simp only [execOp,call c rfl]
  | defer c=>simp only [execOp,call c rfl]
  | makeFunc fn first captured=>
    simp only [execOp]
    rw [keyA first (fun x hx=>by simp [Op.operands];exact .inl (by simpa using hx)),keyA captured (fun x hx=>by simp [Op.operands];exact .inr (by simpa using hx))]
  | makeMap t r=>
    simp only [execOp]
    rw [keyO r (fun y hy=>by subst hy;simp [Op.operands])]
  | slice t x lo hi mx=>
    simp only [execOp]
    rw [key x (by simp [Op.operands]),keyO lo (fun y hy=>by subst hy;simp [Op.operands]),keyO hi (fun y hy=>by subst hy;simp [Op.operands]),keyO mx (fun y hy=>by subst hy;simp [Op.operands])]
  | alloc t=>rfl
  | ready g=>rfl
  | waits g=>rfl
  | move x|assign x|box _ x|load _ x|nilCheck x|unOp _ _ x|convert _ _ x|sliceToArrayPointer _ x|makeInterface _ x|makeChan _ x|fieldAddr _ x _|field _ x _|range _ x|next x _|entry x|typeAssert x _ _ _|extract x _|panic x|recv _ x _=>
    simp only [execOp,key x (by simp [Op.operands])]
  | pick c a b=>simp only [execOp,key c (by simp [Op.operands]),key a (by simp [Op.operands]),key b (by simp [Op.operands])]
  | store _ a v|binOp _ _ a v _|makeSlice _ a v|indexAddr _ a v|index _ a v|lookup _ a v _|mapEntry _ a v|send a v=>
    simp only [execOp,key a (by simp [Op.operands]),key v (by simp [Op.operands])]
  | mapUpdate _ m k v|entryStore _ m k v|insert _ m k v=>
    simp only [execOp,key m (by simp [Op.operands]),key k (by simp [Op.operands]),key v (by simp [Op.operands])]
def offB (op:Op) (d:Tmp):Bool:=op.operands.toList.all (fun x=>match x with | .tmp t=>!Nat.beq t d | _=>true) && (match op with | .select ..=>false | .defer ..=>false | _=>true)
theorem evF_off {F:Fr} {d:Tmp} {v:Value} {x:Operand} (h:(match x with | .tmp t=>!Nat.beq t d | _=>true)=true):CY (GS F d v) x=CY F x:=by
  cases x with
  | tmp t=>exact XU (nbeq h)
  | _=>rfl
theorem opw_off {op:Op} {d:Tmp} {v:Value} {ty:TypeId} {F:Fr} {w:World} {K:Value→World→Prop} {Z:List PanicEntry→World→Prop} (h:offB op d=true):EB P op ty (GS F d v) w K Z↔EB P op ty F w K Z:=by
  unfold offB at h
  simp only [Bool.and_eq_true] at h
  unfold EB
  rw [SO (ρ:=CY (GS F d v)) (σ:=CY F) ⟨none,op,ty,"",#[],none⟩ (by have:=h.2;cases op <;> first|rfl|(simp at this)) (fun x hx=>evF_off (List.all_eq_true.1 h.1 x hx))]
theorem opw_mono {op:Op} {ty:TypeId} {F:Fr} {w:World} {K K':Value→World→Prop} {Z Z':List PanicEntry→World→Prop} (h:EB P op ty F w K Z) (hk:∀ v w',K v w'→K' v w') (hz:∀ c w',Z c w'→Z' c w'):EB P op ty F w K' Z':=by
  unfold EB at h ⊢
  generalize (execOp (CY F) ⟨none,op,ty,"",#[],none⟩).run P w=r at h ⊢
  cases r with
  | ok x w'=>
    cases x <;> simp only [HM] at h ⊢ <;> try exact h.elim
    case value v=>exact hk _ _ h
    case skip=>exact hk _ _ h
    case enter f args=>
      exact Calls.mono h fun e w'' he=>by
        cases e with
        | returned v=>exact hk _ _ he
        | panicked c=>exact hz _ _ he
        | outgrown=>exact he.elim
  | halt x w'=>
    cases x <;> simp only [HM] at h ⊢ <;> try exact h.elim
    case panic v=>exact hz _ _ h
def TI (op:Op) (d:Tmp):Bool:=
  match op with
  | .move (.tmp s)=>!Nat.beq s d
  | .assign (.tmp s)=>!Nat.beq s d
  | _=>false
theorem MR {op:Op} {d:Tmp} (h:TI op d=true):MT op d=true:=by
  unfold TI at h;unfold MT
  split at h <;> first|exact h|cases h
theorem moveOp_val {op:Op} {d:Tmp} (h:TI op d=true) (F:Fr):∃ v,KZ op F=some v:=by
  unfold TI at h;unfold KZ
  split at h <;> first|exact ⟨_,rfl⟩|cases h
def exOk2 (ops:List Oper) (a b:Nat):Bool:=
  match ops[a]?,ops[b]? with
  | some oa,some ob=>oa.guard.isNone && ob.guard.isNone && (match oa.dst,ob.dst with
    | some da,some db=>!Nat.beq da db && ((TI oa.op db && offB ob.op da) || (TI ob.op da && offB oa.op db) || (MT oa.op db && MT ob.op da))
    | _,_=>false)
  | _,_=>false
theorem wl_swap2 {ops:List Oper} {a b:Nat} {oa ob:Oper} {rest:List Oper} {F:Fr} {w:World} (hx:exOk2 ops a b=true) (ha:ops[a]? = some oa) (hb:ops[b]? = some ob) (hok:ops.all (PK n ops)=true) (hq:∀ c F d v w,d<n→(Q (.panic c) (GS F d v) w↔Q (.panic c) F w)) (h:WL false P ops Q (oa :: ob :: rest) F w):WL false P ops Q (ob :: oa :: rest) F w:=by
  have hda:=KY (List.all_eq_true.1 hok _ (List.mem_of_getElem? ha))
  have hdb:=KY (List.all_eq_true.1 hok _ (List.mem_of_getElem? hb))
  unfold exOk2 at hx
  rw [ha,hb] at hx
  obtain ⟨d1,p1,t1,q1,f1,g1⟩:=oa
  obtain ⟨d2,p2,t2,q2,f2,g2⟩:=ob
  simp only [Bool.and_eq_true] at hx
  obtain ⟨⟨h1,h2⟩,h3⟩:=hx
  cases g1 with
  | some _=>simp at h1
  | none=>
  cases g2 with
  | some _=>simp at h2
  | none=>
  cases d1 with
  | none=>simp at h3
  | some da=>
  cases d2 with
  | none=>simp at h3
  | some db=>
    simp only [Bool.and_eq_true,Bool.or_eq_true] at h3
    obtain ⟨h3,h4⟩:=h3
    have n1:=nbeq h3
    have e:∀ (F:Fr) (v x:Value),IO (IO F (some db) x) (some da) v=IO (IO F (some da) v) (some db) x:=fun F v x=>(upd_swap (F:=F) (v:=v) (u:=x) n1).symm
    rcases h4 with (⟨h4,h5⟩|⟨h4,h5⟩)|⟨h4,h5⟩
    · unfold WL at h
      rw [if_pos (by rfl)] at h
      obtain ⟨v,hv,h⟩:=ND (MR h4) (h.resolve_right (fun e=>by cases e.1))
      unfold WL at h
      rw [if_pos (by rfl)] at h
      have h:=(opw_off h5).1 (h.resolve_right (fun e=>by cases e.1))
      unfold WL
      rw [if_pos (by rfl)]
      refine .inl (opw_mono h (fun x w' hk=>?_) (fun c w' hz=>(hq _ _ _ _ _ (blt hda)).1 hz))
      unfold WL
      rw [if_pos (by rfl)]
      exact .inl (JX (v:=v) ((JY (F:=F) (u:=x) (MR h4)).trans hv) (by rw [e];exact hk))
    · unfold WL at h
      rw [if_pos (by rfl)] at h
      have h:=h.resolve_right (fun e=>by cases e.1)
      obtain ⟨x,hxv⟩:=moveOp_val h4 F
      unfold WL
      rw [if_pos (by rfl)]
      refine .inl (JX hxv ?_)
      unfold WL
      rw [if_pos (by rfl)]
      refine .inl ((opw_off h5).2 (opw_mono h (fun v w' hk=>?_) (fun c w' hz=>(hq _ _ _ _ _ (blt hdb)).2 hz)))
      unfold WL at hk
      rw [if_pos (by rfl)] at hk
      obtain ⟨x',hx',hk⟩:=ND (MR h4) (hk.resolve_right (fun e=>by cases e.1))
      have:x'=x:=by
        have:=(JY (F:=F) (u:=v) (MR h4)).symm.trans hx'
        rw [hxv] at this;exact (Option.some.inj this).symm
      subst this
      have:=e F v x'
      show WL false P ops Q rest (IO (IO F (some db) x') (some da) v) w'
      rw [this];exact hk
    · unfold WL at h
      rw [if_pos (by rfl)] at h
      obtain ⟨v,hv,h⟩:=ND h4 (h.resolve_right (fun e=>by cases e.1))
      unfold WL at h
      rw [if_pos (by rfl)] at h
      obtain ⟨x,hx2,h⟩:=ND h5 (h.resolve_right (fun e=>by cases e.1))
      unfold WL
      rw [if_pos (by rfl)]
      refine .inl (JX (v:=x) ((JY (F:=F) (u:=v) h5).symm.trans hx2) ?_)
      unfold WL
      rw [if_pos (by rfl)]
      exact .inl (JX (v:=v) ((JY (F:=F) (u:=x) h4).trans hv) (by rw [e];exact h))
def LH (ops:List Oper):Nat→List Nat→Bool
  | _,[]=>true
  | 0,_=>false
  | _+1,[a]=>(KK ops a).all fun j=>!Nat.beq j a
  | f+1,a :: b :: t=>(KK ops a).all (fun j=>!(a :: b :: t).contains j) && t.all (fun x=>DY ops x a) && LH ops f (b :: t) &&
      (DY ops b a || (exOk2 ops a b && (KK ops b).all (fun j=>!(a :: b :: t).contains j) && LH ops f (a :: t)))
theorem SA {ops:List Oper} (hok:ops.all (PK n ops)=true) (hqp:∀ c F d v w,d<n→(Q (.panic c) (GS F d v) w↔Q (.panic c) F w)) (hin:∀ k,k<ops.length→∀ j∈KK ops k,j<ops.length):∀ (g:Nat) (seq:List Nat) (fuel:Nat) (listed:Array Bool) (F1:Fr) (w1:World),listed.size=ops.length→OT ops listed≤fuel→
    (∀ j,j<ops.length→(listed[j]? = some true↔j∉seq))→(∀ j∈seq,j<ops.length)→seq.Nodup→LH ops g seq=true→(∀ i,listed[i]? = some true→∀ j∈KK ops i,listed[j]? = some true)→
    WL false P ops Q (DH ops seq) F1 w1→wpAny P .any ops.toArray (LI n Q) fuel listed (mk n F1) w1:=by
  intro g
  induction g with
  | zero=>
    intro seq fuel listed F1 w1 hsz hfu hl hlt hnd hf hdown h
    cases seq with
    | nil=>exact GW hok hin [] fuel listed F1 w1 hsz hfu hl hlt hnd rfl hdown h
    | cons a t=>cases t <;> simp [LH] at hf
  | succ g ihg=>
    intro seq fuel listed F1 w1 hsz hfu hl hlt hnd hf hdown h
    match seq,hl,hlt,hnd,hf,h with
    | [],hl,hlt,hnd,hf,h=>exact GW hok hin [] fuel listed F1 w1 hsz hfu hl hlt hnd rfl hdown h
    | [a],hl,hlt,hnd,hf,h=>
      refine GW hok hin [a] fuel listed F1 w1 hsz hfu hl hlt hnd ?_ hdown h
      unfold LH at hf
      unfold LP LP
      simp only [List.all_nil,Bool.true_and,Bool.and_true]
      refine List.all_eq_true.2 fun j hj=>?_
      have:=nbeq (List.all_eq_true.1 hf j hj)
      simpa using this
    | a :: b :: t,hl,hlt,hnd,hf,h=>
      unfold LH at hf
      simp only [Bool.and_eq_true] at hf
      obtain ⟨⟨⟨f1,f2⟩,f3⟩,f4⟩:=hf
      have ha:a<ops.length:=hlt a (by simp)
      have hb:b<ops.length:=hlt b (by simp)
      obtain ⟨hat,hnd'⟩:=List.nodup_cons.1 hnd
      obtain ⟨hbt,hnd''⟩:=List.nodup_cons.1 hnd'
      have hunl:∀ q,q<ops.length→q∈a :: b :: t→listed[q]? = some false:=fun q hq hm=>by
        have h1:¬ listed[q]? = some true:=fun e=>((hl q hq).1 e) hm
        have:q<listed.size:=by omega
        rw [Array.getElem?_eq_getElem this] at h1 ⊢
        simpa using h1
      have han:=hunl a ha (by simp)
      have hbn:=hunl b hb (by simp)
      have hula:=IR ha hsz han
      have hulb:=IR hb hsz hbn
      obtain ⟨fuel,rfl⟩:∃ f,fuel=f+1:=⟨fuel - 1,by omega⟩
      have haq:∀ j∈KK ops a,listed[j]? = some true:=fun j hj=>by
        have h1:=List.all_eq_true.1 f1 j hj
        exact (hl j (hin a ha j hj)).2 (by simpa using h1)
      have hset:∀ i,i<ops.length→∀ j,(listed.setIfInBounds i true)[j]? = some true↔j=i∨listed[j]? = some true:=fun i hi j=>by
        rw [Array.getElem?_setIfInBounds]
        by_cases hji:i=j
        · subst hji;simp;omega
        · rw [if_neg hji];exact ⟨fun h=>.inr h,fun h=>h.resolve_left (fun e=>hji e.symm)⟩
      refine ⟨fun h0=>?_,fun i hi=>?_⟩
      · have:=ready_of' hsz ha han haq
        rw [h0] at this;cases this
      · obtain ⟨hnl,hil⟩:=KU hi hsz
        have hmem:i∈a :: b :: t:=Classical.byContradiction fun hc=>by have:=(hl i hil).2 hc;rw [hnl] at this;cases this
        have hready:=IM (List.getElem?_eq_getElem hil) hi hsz (hin i hil)
        have hwait:∀ q,DY ops i q=true→listed[q]? = some true:=fun q hq=>by
          unfold DY at hq
          exact HS (D:=fun j=>listed[j]? = some true) hdown _ _ hready q (by simpa using hq)
        rcases List.mem_cons.1 hmem with rfl|hmem
        · rw [HT ha] at h
          refine SG hok ha h fun F w hK=>ihg (b :: t) fuel _ F w (by simpa using hsz) (by omega) (fun j hj=>?_) (fun j hj=>hlt j (List.mem_cons_of_mem _ hj)) hnd' f3 (fun j hj x hx=>?_) hK
          · rw [hset i ha j,hl j hj]
            constructor
            · rintro (rfl|h1)
              · exact hat
              · exact fun h2=>h1 (List.mem_cons_of_mem _ h2)
            · intro h1
              by_cases hji:j=i
              · exact .inl hji
              · exact .inr fun h2=>by rcases List.mem_cons.1 h2 with h3|h3;exact hji h3;exact h1 h3
          · rw [hset i ha x]
            rcases (hset i ha j).1 hj with h1|h1
            · subst h1;exact .inr (haq x hx)
            · exact .inr (hdown j h1 x hx)
        · rcases List.mem_cons.1 hmem with rfl|hmem
          · -- the second comes first
            simp only [Bool.or_eq_true,Bool.and_eq_true] at f4
            rcases f4 with f4|⟨⟨f4,f5⟩,f6⟩
            · have:=hwait a f4;rw [han] at this;cases this
            · rw [HT ha,HT hb] at h
              have h':=wl_swap2 f4 (List.getElem?_eq_getElem ha) (List.getElem?_eq_getElem hb) hok hqp h
              rw [← HT (t:=t) ha] at h'
              refine SG hok hb h' fun F w hK=>ihg (a :: t) fuel _ F w (by simpa using hsz) (by omega) (fun j hj=>?_) (fun j hj=>hlt j (by rcases List.mem_cons.1 hj with h1|h1;exact h1 ▸ List.mem_cons_self;exact List.mem_cons_of_mem _ (List.mem_cons_of_mem _ h1))) (List.nodup_cons.2 ⟨fun h2=>hat (List.mem_cons_of_mem _ h2),hnd''⟩) f6 (fun j hj x hx=>?_) hK
              · rw [hset i hb j,hl j hj]
                constructor
                · rintro (rfl|h1)
                  · intro h2
                    rcases List.mem_cons.1 h2 with h3|h3
                    · exact hat (h3 ▸ List.mem_cons_self)
                    · exact hbt h3
                  · intro h2
                    apply h1
                    rcases List.mem_cons.1 h2 with h3|h3
                    · rw [h3];exact List.mem_cons_self
                    · exact List.mem_cons_of_mem _ (List.mem_cons_of_mem _ h3)
                · intro h1
                  by_cases hji:j=i
                  · exact .inl hji
                  · refine .inr fun h2=>?_
                    rcases List.mem_cons.1 h2 with h3|h3
                    · exact h1 (h3 ▸ List.mem_cons_self)
                    · rcases List.mem_cons.1 h3 with h4|h4
                      · exact hji h4
                      · exact h1 (List.mem_cons_of_mem _ h4)
              · rw [hset i hb x]
                rcases (hset i hb j).1 hj with h1|h1
                · subst h1
                  have h5:=List.all_eq_true.1 f5 x hx
                  exact .inr ((hl x (hin j hb x hx)).2 (by simpa using h5))
                · exact .inr (hdown j h1 x hx)
          · have:=hwait a (List.all_eq_true.1 f2 i hmem)
            rw [han] at this;cases this
theorem qp_end {fn:Func} {R:Ending→World→Prop}:∀ (c:List PanicEntry) (F:Fr) (d:Tmp) (v:Value) (w:World),d<n→(VD P fn n R (.panic c) (GS F d v) w↔VD P fn n R (.panic c) F w):=fun c F d v w hd=>by
  show (UQ (GS F d v n)=[]∧_)↔(UQ (F n)=[]∧_);rw [IP F d v (Nat.ne_of_gt hd)]
def subs:List Nat→List (List Nat)
  | []=>[[]]
  | a :: l=>(subs l).map (a :: ·)++subs l
theorem PB (p:Nat→Bool):∀ l:List Nat,l.filter p∈subs l
  | []=>by simp [subs]
  | a :: l=>by
    unfold subs
    rw [List.mem_append,List.filter_cons]
    split
    · exact .inl (List.mem_map.2 ⟨_,PB p l,rfl⟩)
    · exact .inr (PB p l)
def upB (ops:List Oper) (U S:List Nat):Bool:=S.all fun a=>U.all fun b=>!DY ops b a || S.contains b
def lat (lates:List (List Nat)) (c:Nat):List Nat:=(lates[c]?).getD []
def UH (ops:List Oper) (m:Nat) (late:List Nat) (lates:List (List Nat)):Bool:=
  (List.range m).all (fun i=>(List.range m).all fun j=>Nat.beq i j || (match (ops[i]?).bind (·.dst),(ops[j]?).bind (·.dst) with|some a,some b=>!Nat.beq a b | _,_=>true)) &&
  (List.range m).all (fun j=>late.contains j || DY ops m j) && (CU ops m).all (fun k=>DY ops k m) &&
  (List.range ops.length).all (fun k=>(KK ops k).all fun j=>Nat.blt j k) && Nat.blt m ops.length && lates.all (fun S=>S.all (Nat.blt · m)) &&
  (subs late).all (fun S=>S.isEmpty || !upB ops late S || lates.any (fun L=>L.all S.contains && S.all L.contains)) &&
  LH ops (ops.length+1) (m :: CU ops m) && lates.all (fun S=>LH ops (ops.length+1) (S++CU ops m))
theorem draw_runN {ops:List Oper} {m:Nat} {late:List Nat} {lates:List (List Nat)} {om:Oper} (INV:Array Bool→Fr→World→Prop) (hqp:∀ c F d v w,d<n→(Q (.panic c) (GS F d v) w↔Q (.panic c) F w)) (hd:UH ops m late lates=true) (hndl:∀ S∈lates,S.Nodup) (hok:ops.all (PK n ops)=true) (hom:ops[m]? = some om)
    (hdown:∀ listed F1 w1,INV listed F1 w1→∀ i,listed[i]? = some true→∀ j∈KK ops i,listed[j]? = some true)
    (hstep:∀ (listed:Array Bool) (F1:Fr) (w1:World) (i:Nat) (o:Oper),listed.size=ops.length→INV listed F1 w1→i<m→ops[i]? = some o→listed[i]? = some false→(∀ j∈KK ops i,listed[j]? = some true)→
      (Region.wanted o (DG ops F1)=true→EB P o.op o.type F1 w1 (fun v w2=>INV (listed.setIfInBounds i true) (IO F1 o.dst v) w2) (fun _ _=>False))∧
      (Region.wanted o (DG ops F1)=false→INV (listed.setIfInBounds i true) (IO F1 o.dst undef) w1))
    (fin:∀ listed F1 w1,INV listed F1 w1→(∀ j,j<m→listed[j]? = some true)→(∀ j,m≤j→listed[j]?≠some true)→WL false P ops Q (om :: DH ops (CU ops m)) F1 w1)
    (finL:∀ c,c<lates.length→∀ listed F1 w1,INV listed F1 w1→(∀ j,j<m→(listed[j]? = some true↔j∉lat lates c))→(∀ j,m≤j→listed[j]?≠some true)→WL false P ops Q (om :: (DH ops (lat lates c)++DH ops (CU ops m))) F1 w1) :
    ∀ (fuel:Nat) (listed:Array Bool) (F1:Fr) (w1:World),listed.size=ops.length→OT ops listed≤fuel→(∀ j,m≤j→listed[j]?≠some true)→INV listed F1 w1→wpAny P .any ops.toArray (LI n Q) fuel listed (mk n F1) w1:=by
  unfold UH at hd
  simp only [Bool.and_eq_true] at hd
  obtain ⟨⟨⟨⟨⟨⟨⟨⟨d1,d2⟩,d3⟩,d4⟩,d5⟩,d6⟩,d7⟩,d8⟩,d9⟩:=hd
  have hml:m<ops.length:=blt d5
  have hback:∀ k,k<ops.length→∀ j∈KK ops k,j<k:=fun k hk j hj=>blt (List.all_eq_true.1 (List.all_eq_true.1 d4 k (by simpa using hk)) j hj)
  have hin:∀ k,k<ops.length→∀ j∈KK ops k,j<ops.length:=fun k hk j hj=>Nat.lt_trans (hback k hk j hj) hk
  have hlm:∀ S∈lates,∀ j∈S,j<m:=fun S hS j hj=>blt (List.all_eq_true.1 (List.all_eq_true.1 d6 S hS) j hj)
  have htl:∀ j,j∈CU ops m↔m<j∧j<ops.length:=fun j=>by
    unfold CU
    rw [List.mem_iff_getElem?]
    simp only [List.getElem?_drop]
    constructor
    · rintro ⟨i,hi⟩
      have:=(List.getElem?_eq_some_iff.1 hi)
      obtain ⟨h1,h2⟩:=this
      simp at h1 h2;omega
    · rintro ⟨h1,h2⟩
      exact ⟨j - (m+1),by rw [List.getElem?_eq_getElem (by simp;omega)];simp;omega⟩
  have hndt:(CU ops m).Nodup:=by unfold CU;exact List.Nodup.sublist (List.drop_sublist _ _) List.nodup_range
  intro fuel
  induction fuel with
  | zero=>
    intro listed F1 w1 hsz hfu hno hi
    exfalso
    have h0:OT ops listed=0:=by omega
    unfold OT at h0
    have:=List.countP_eq_zero.1 h0 m (by simpa using hml)
    exact hno m (Nat.le_refl _) (by simpa using this)
  | succ fuel ih=>
    intro listed F1 w1 hsz hfu hno hi
    have hmn:listed[m]? = some false:=by
      have h1:=hno m (Nat.le_refl _)
      have:m<listed.size:=by omega
      rw [Array.getElem?_eq_getElem this] at h1 ⊢
      simpa using h1
    by_cases hall:∀ j,j<m→listed[j]? = some true
    · -- all of the first part have been carried out
      have e:DH ops (m :: CU ops m)=om :: DH ops (CU ops m):=by unfold DH;rw [List.filterMap_cons,hom]
      refine SA hok hqp hin (ops.length+1) (m :: CU ops m) (fuel+1) listed F1 w1 hsz hfu (fun j hj=>⟨fun h=>?_,fun h=>?_⟩) (fun j hj=>?_) (List.nodup_cons.2 ⟨fun h=>by have:=(htl m).1 h;omega,hndt⟩) d8 (hdown _ _ _ hi) (by
        rw [e]
        exact fin listed F1 w1 hi hall hno)
      · intro hm'
        have:m≤j:=by rcases List.mem_cons.1 hm' with h1|h1;omega;have:=(htl j).1 h1;omega
        exact hno j this h
      · exact hall j (by
          rcases Nat.lt_or_ge j m with h1|h1
          · exact h1
          · exfalso;apply h
            rcases Nat.eq_or_lt_of_le h1 with h2|h2
            · subst h2;simp
            · exact List.mem_cons_of_mem _ ((htl j).2 ⟨h2,hj⟩))
      · rcases List.mem_cons.1 hj with h1|h1
        · omega
        · exact ((htl j).1 h1).2
    · have hex:∃ j,j<m∧listed[j]?≠some true:=by
        refine Classical.byContradiction fun hc=>hall fun j hj=>Classical.byContradiction fun hn=>hc ⟨j,hj,hn⟩
      have hmin:∀ q j,q=j→j<m→listed[j]?≠some true→∃ k,k<m∧listed[k]?≠some true∧∀ i,i<k→listed[i]? = some true:=by
        intro q
        induction q using Nat.strongRecOn with
        | _ q ihq=>
          intro j hqj hj hn
          by_cases hb:∀ i,i<j→listed[i]? = some true
          · exact ⟨j,hj,hn,hb⟩
          · have:∃ i,i<j∧listed[i]?≠some true:=Classical.byContradiction fun hc=>hb fun i hi=>Classical.byContradiction fun hn=>hc ⟨i,hi,hn⟩
            obtain ⟨i,hij,hni⟩:=this
            exact ihq i (by omega) i rfl (by omega) hni
      obtain ⟨j0,hj0,hn0⟩:=hex
      obtain ⟨k,hkm,hkn,hkb⟩:=hmin j0 j0 rfl hj0 hn0
      have hkf:listed[k]? = some false:=by
        have:k<listed.size:=by omega
        rw [Array.getElem?_eq_getElem this] at hkn ⊢
        simpa using hkn
      refine ⟨fun h0=>?_,fun i hir=>?_⟩
      · have:=ready_of' hsz (by omega) hkf (fun j hj=>hkb j (hback k (by omega) j hj))
        rw [h0] at this;cases this
      · obtain ⟨hnl,hil⟩:=KU hir hsz
        have ho:ops[i]? = some ops[i]:=List.getElem?_eq_getElem hil
        have haft:=IM ho hir hsz (hin i hil)
        have hclose:∀ j,DY ops i j=true→listed[j]? = some true:=fun j hj=>by
          unfold DY at hj
          exact HS (D:=fun j=>listed[j]? = some true) (hdown _ _ _ hi) _ _ haft j (by simpa using hj)
        rcases Nat.lt_or_ge i m with him|hge
        · have hsp:=hstep listed F1 w1 i ops[i] hsz hi him ho hnl haft
          have hno':∀ j,m≤j→(listed.setIfInBounds i true)[j]?≠some true:=fun j hj=>by
            rw [Array.getElem?_setIfInBounds,if_neg (by omega)];exact hno j hj
          refine LZ (K:=fun F2 w2=>INV (listed.setIfInBounds i true) F2 w2) hok ho (fun F2 w2 hK=>ih _ F2 w2 (by simpa using hsz) (by have:=IR hil hsz hnl;omega) hno' hK) (fun hw=>?_) (fun hw=>hsp.2 hw)
          have h1:=hsp.1 hw
          unfold EB at h1 ⊢
          generalize (execOp (CY F1) ⟨none,ops[i].op,ops[i].type,"",#[],none⟩).run P w1=r at h1 ⊢
          cases r with
          | ok x w'=>
            cases x <;> simp only [HM] at h1 ⊢ <;> try exact h1.elim
            case value v=>exact h1
            case skip=>exact h1
            case enter f args=>
              exact Calls.mono h1 fun e w'' he=>by
                cases e with
                | returned v=>exact he
                | panicked c=>exact he.elim
                | outgrown=>exact he.elim
          | halt x w'=>cases x <;> simp only [HM] at h1 ⊢ <;> exact h1.elim
        · -- operation m comes ahead of some late ones
          have him:i=m:=by
            rcases Nat.eq_or_lt_of_le hge with h1|h1
            · exact h1.symm
            · have h2:=hclose m (List.all_eq_true.1 d3 i ((htl i).2 ⟨h1,hil⟩))
              rw [hmn] at h2;cases h2
          subst him
          have hnl':∀ j,j<i→j∉late→listed[j]? = some true:=fun j hj hjl=>by
            have h1:=List.all_eq_true.1 d2 j (by simpa using hj)
            simp only [Bool.or_eq_true,List.contains_iff_mem] at h1
            exact hclose j (h1.resolve_left hjl)
          have hcw:∀ b a,listed[b]? = some true→DY ops b a=true→listed[a]? = some true:=fun b a hb hba=>by
            unfold DY at hba
            exact HS (D:=fun j=>listed[j]? = some true) (hdown _ _ _ hi) _ _ ((hdown _ _ _ hi) b hb) a (by simpa using hba)
          have hS:=List.all_eq_true.1 d7 _ (PB (fun j=>listed[j]? != some true) late)
          have hmS:∀ j,j∈late.filter (fun j=>listed[j]? != some true)↔j∈late∧listed[j]?≠some true:=fun j=>by simp [List.mem_filter]
          generalize late.filter (fun j=>listed[j]? != some true)=S at hS hmS
          simp only [Bool.or_eq_true] at hS
          have hne:¬ S.isEmpty=true:=fun h=>by
            have h1:j0∈late:=Classical.byContradiction fun hc=>hn0 (hnl' j0 hj0 hc)
            have:=(hmS j0).2 ⟨h1,hn0⟩
            rw [List.isEmpty_iff.1 h] at this;simp at this
          have hup:upB ops late S=true:=by
            unfold upB
            refine List.all_eq_true.2 fun a ha=>List.all_eq_true.2 fun b hb=>?_
            simp only [Bool.or_eq_true,List.contains_iff_mem]
            cases hw:DY ops b a with
            | false=>exact .inl rfl
            | true=>exact .inr ((hmS b).2 ⟨hb,fun h=>((hmS a).1 ha).2 (hcw b a h hw)⟩)
          rw [hup] at hS
          have hS:=(hS.resolve_left (fun h=>h.elim hne (fun h=>by cases h)))
          obtain ⟨L,hL,hLS⟩:=List.any_eq_true.1 hS
          simp only [Bool.and_eq_true] at hLS
          obtain ⟨c,hc⟩:=List.mem_iff_getElem?.1 hL
          have hcl:c<lates.length:=(List.getElem?_eq_some_iff.1 hc).1
          have hlat:lat lates c=L:=by unfold lat;rw [hc];rfl
          have hmL:∀ j,j∈L↔j∈late∧listed[j]?≠some true:=fun j=>by
            rw [← hmS j]
            exact ⟨fun h=>by simpa using List.all_eq_true.1 hLS.1 j h,fun h=>by simpa using List.all_eq_true.1 hLS.2 j h⟩
          have hdropn:∀ j∈lat lates c,¬ listed[j]? = some true:=fun j hj=>by rw [hlat] at hj;exact ((hmL j).1 hj).2
          have hdropm:∀ j,j<i→(listed[j]? = some true↔j∉lat lates c):=fun j hj=>by
            constructor
            · intro h1 h2;exact hdropn j h2 h1
            · intro h1
              by_cases hjl:j∈late
              · exact Classical.byContradiction fun h2=>h1 (by rw [hlat];exact (hmL j).2 ⟨hjl,h2⟩)
              · exact hnl' j hj hjl
          have hK:=finL c hcl listed F1 w1 hi hdropm hno
          have hom':om=ops[i]:=by rw [ho] at hom;exact (Option.some.inj hom).symm
          have hso:DH ops (lat lates c)++DH ops (CU ops i)=DH ops (lat lates c++CU ops i):=by unfold DH;rw [List.filterMap_append]
          rw [hso,hom'] at hK
          have hset:∀ j,(listed.setIfInBounds i true)[j]? = some true↔j=i∨listed[j]? = some true:=fun j=>by
            rw [Array.getElem?_setIfInBounds]
            by_cases hji:i=j
            · subst hji;simp;omega
            · rw [if_neg hji];exact ⟨fun h=>.inr h,fun h=>h.resolve_left (fun e=>hji e.symm)⟩
          refine LZ (K:=fun F w=>WL false P ops Q (DH ops (lat lates c++CU ops i)) F w) hok ho (fun F2 w2 hK2=>SA hok hqp hin (ops.length+1) (lat lates c++CU ops i) fuel _ F2 w2 (by simpa using hsz) (by have:=IR hil hsz hnl;omega) (fun j hj=>?_) (fun j hj=>?_) ?_ (by rw [hlat];exact List.all_eq_true.1 d9 L hL) (fun j hj q hq=>?_) hK2) (fun hw=>?_) (fun hw=>?_)
          · rw [hset j,List.mem_append,htl j]
            constructor
            · rintro (rfl|h1)
              · rintro (h2|h2)
                · have:=hlm L hL j (hlat ▸ h2);omega
                · omega
              · rintro (h2|h2)
                · exact hdropn j h2 h1
                · exact hno j (by omega) h1
            · intro h1
              rcases Nat.lt_trichotomy j i with h2|h2|h2
              · exact .inr ((hdropm j h2).2 (fun h3=>h1 (.inl h3)))
              · exact .inl h2
              · exact absurd (.inr ⟨h2,hj⟩) h1
          · rcases List.mem_append.1 hj with h1|h1
            · have:=hlm L hL j (hlat ▸ h1);omega
            · exact ((htl j).1 h1).2
          · refine List.nodup_append.2 ⟨hlat ▸ hndl L hL,hndt,fun a ha b hb e=>?_⟩
            have h1:=hlm L hL a (hlat ▸ ha)
            have h2:=(htl b).1 hb
            omega
          · rw [hset q]
            rcases (hset j).1 hj with rfl|h1
            · exact .inr (haft q hq)
            · exact .inr ((hdown _ _ _ hi) j h1 q hq)
          · unfold WL at hK;rw [if_pos hw] at hK;exact hK.resolve_right (fun e=>by cases e.1)
          · unfold WL at hK;rw [if_neg (by rw [hw];simp)] at hK;exact hK
theorem cw_drawUN {id:Nat} {ops:List Oper} {F:Fr} {w:World} (m:Nat) (late:List Nat) (lates:List (List Nat)) (hqp:∀ c F d v w,d<n→(Q (.panic c) (GS F d v) w↔Q (.panic c) F w)) (pre:List Oper) (om:Oper) (tl:List Oper) (Ts:List YM) (G:List Gr) (B:List Nat) (hm:P.follows .mixedOrders=true) (hok:ops.all (PK n ops)=true) (hd:UH ops m late lates=true) (hlen:(Nat.beq Ts.length m && Nat.beq G.length m && Nat.ble m ops.length)=true) (hgr:WV ops m G=true) (hnd:∀ S∈lates,S.Nodup)
    (hpre:ops.take m=pre) (hom:ops[m]? = some om) (htl:DH ops (CU ops m)=tl) (hst:WT Ts G) (hs:RA P ops m Ts G F w.drew B 0 pre Ts)
    (fin:FinU ops m Ts G F w B [] (WL false P ops Q (om :: tl))) (finL:∀ c,c<lates.length→FinU ops m Ts G F w B (lat lates c) (WL false P ops Q (om :: (DH ops (lat lates c)++tl)))):CW P (ro:=none) n (.region id ops.toArray true) Q F w:=by
  subst hpre;subst htl
  simp only [Bool.and_eq_true] at hlen
  have hTl:Ts.length=m:=Nat.eq_of_beq_eq_true hlen.1.1
  have hGl:G.length=Ts.length:=by rw [hTl];exact Nat.eq_of_beq_eq_true hlen.1.2
  have hle:m≤ops.length:=Nat.le_of_ble_eq_true hlen.2
  have hdr:({ w with drawn:=w.drawn+1 }:World)=w.drew:=rfl
  have hd':=hd
  unfold UH at hd'
  simp only [Bool.and_eq_true] at hd'
  obtain ⟨⟨⟨⟨⟨⟨⟨⟨d1,d2⟩,d3⟩,d4⟩,d5⟩,d6⟩,d7⟩,d8⟩,d9⟩:=hd'
  have hdist:∀ (i j:Nat) (oi oj:Oper),i<m→j<m→i≠j→ops[i]? = some oi→ops[j]? = some oj→oi.dst≠none→oi.dst≠oj.dst:=by
    intro i j oi oj hi hj hij hoi hoj hne
    have:=List.all_eq_true.1 (List.all_eq_true.1 d1 i (by simpa using hi)) j (by simpa using hj)
    simp only [Bool.or_eq_true] at this
    rcases this with h5|h5
    · exact absurd (Nat.eq_of_beq_eq_true h5) hij
    · rw [hoi,hoj] at h5
      intro e
      cases hd:oi.dst with
      | none=>exact hne hd
      | some d=>
        rw [hd] at e
        simp only [Option.bind_some,hd,← e] at h5
        simp at h5
  refine wpIn_wide.2 (wp_region_any hm ?_)
  rw [hdr,List.size_toArray]
  refine draw_runN (late:=late) (lates:=lates) (UInv ops m Ts G F w.drew B) hqp hd hnd hok hom (fun listed F1 w1 h=>h.down) (fun listed F1 w1 i o hsz h him ho hnl haft=>stepU hdist hTl hGl hle hgr hst hs hsz h him ho hnl haft)
    (fun listed F1 w1 hi hall hno=>hi.fin (fun i him _=>hall i him) hno fin) (fun c hc listed F1 w1 hi hall hno=>hi.fin (fun i him hex=>(hall i him).2 (by simpa using hex)) hno (finL c hc)) ops.length _ F w.drew (by simp) ?_ (fun j _=>?_) UInv.start
  · unfold OT;exact Nat.le_trans (List.countP_le_length) (by simp)
  · simp [Array.getElem?_replicate]
end
variable {P:Program} {ro:Option Nat} {n:Nat} {Q:Exit→Fr→World→Prop} {F:Fr} {w:World}
theorem cw_cut {x y:Code} (I:Fr→World→Prop) (h1:CW P (ro:=ro) n x (SF I Q) F w) (h2:∀ F w,I F w→CW P (ro:=ro) n y Q F w):CW P (ro:=ro) n (.seq x y) Q F w:=
  AF (wpIn_mono h1 fun e _ _ ⟨F,ha,hQ⟩=>⟨F,ha,by cases e <;> first|exact h2 _ _ hQ|exact hQ⟩)
open Go.RowKit
section
variable {P:Program} {ro:Option Nat} {n:Nat} {Q:Exit→Fr→World→Prop} {F:Fr} {w:World}
end
section
variable {P:Program}
theorem wl_yT {ops rest:List Oper} {Q:Exit→Fr→World→Prop} {F:Fr} {w:World} {d:Tmp} {ty:TypeId} {pos:String} {af:Array Edge} {xf:Operand} {xs:List Operand} {ats:Array TypeId} {j:Nat} {b:Bool} (hg:DG ops F j=some b) (l:Nat) (vs:List Value)
    (hf:CY F xf = .func (.yield l) #[] #[]) (hv:xs.map (CY F)=vs) (hy:MQ P l vs w (fun v w'=>WL true P ops Q rest (GS F d v) w')) :
    WL true P ops Q (⟨some d, .call { callee:=.value xf,args:=xs.toArray,argTypes:=ats },ty,pos,af,some (j,b)⟩ :: rest) F w:=by
  unfold WL
  rw [if_pos (by simp [Region.wanted,hg])]
  refine .inr ⟨rfl,?_⟩
  unfold RoundW
  obtain ⟨fn,tmps,assign,body,h1,h2⟩:=hy
  have:(execOp (CY F) ⟨none, .call { callee:=.value xf,args:=xs.toArray,argTypes:=ats },ty,"",#[],none⟩).run P w = .ok (.round l fn tmps assign body) w:=by
    simp [execOp,resolve,Deferred.ofValue,invoke,hf,hv,h1]
  rw [this]
  exact h2.mono fun e w' ⟨v,he,hk⟩=>by subst he;exact hk
end
section
variable {P:Program} {t yt ty:TypeId} {x y:Operand} {F:Fr} {w:World} {K:Value→World→Prop} {Z:List PanicEntry→World→Prop}
end
def Enc.cells (n:Nat):Enc (List Value) where
  size:=n
  rd:=fun _ _ cs x=>cs=x∧x.length=n∧∀ u∈x,u.oneCell'=true
  len:=fun h=>h.1 ▸ h.2.1
  one:=fun h u hu=>h.2.2 u (h.1 ▸ hu)
  mv:=fun h _=>h
  sub:=fun h _=>h
open Go.RowKit
def vOp (op:Op):Bool:=
  match op with
  | .move _ | .assign _ | .pick .. | .load .. | .binOp .. | .unOp .. | .convert .. | .slice .. | .fieldAddr .. | .field .. | .indexAddr .. | .index .. | .extract ..=>true
  | .call c=>(match c.callee with | .builtin .len=>true | _=>false)
  | _=>false
theorem vOp_val {P:Program} {o:Oper} (h:vOp o.op=true) {ρ:Operand→Value} {w w':World} {r:Next} (e:(execOp ρ o).run P w = .ok r w'):∃ v,r = .value v:=by
  have key:∀ (s:Sem Value),(do pure (Next.value (← s)):Sem Next).run P w = .ok r w'→∃ v,r = .value v:=fun s e=>by
    simp only [Sem.run_bind] at e
    cases hs:s.run P w with
    | ok x w2=>rw [hs] at e;simp only [Result.andThen_ok,Sem.run_pure] at e;cases e;exact ⟨_,rfl⟩
    | halt x w2=>rw [hs] at e;cases e
  obtain ⟨d,op,ty,pos,af,g⟩:=o
  have h:vOp op=true:=h
  cases op with
  | move x=>simp only [execOp,Sem.run_pure] at e;cases e;exact ⟨_,rfl⟩
  | assign x=>simp only [execOp,Sem.run_pure] at e;cases e;exact ⟨_,rfl⟩
  | pick c a b=>
    refine key (do pure (if ← asBool (ρ c) then ρ a else ρ b)) ?_
    rw [← e]
    simp only [execOp,Sem.run_bind]
    cases (asBool (ρ c)).run P w <;> rfl
  | call c=>
    unfold vOp at h
    simp only at h
    split at h
    · rename_i hc
      simp only [execOp,resolve,invoke,hc,Sem.run_bind,Sem.run_pure,Result.andThen_ok,builtin] at e
      exact key (Builtin.len_ c.argTypes ty (Array.map ρ c.args)) (by simp only [Sem.run_bind,Sem.run_pure];exact e)
    · cases h
  | _=>first|exact key _ e|(exfalso;simp [vOp] at h)
def WP (P:Program) (ops:List Oper) (w0:World) (R:Fr→Prop):List Oper→Fr→World→Prop
  | [],F,w=>w=w0∧R F
  | o :: rest,F,w=>w=w0∧if Region.wanted o (DG ops F)=true then EB P o.op o.type F w (fun v w'=>WP P ops w0 R rest (IO F o.dst v) w') (fun _ _=>False) else WP P ops w0 R rest (IO F o.dst undef) w
section
variable {P:Program} {ops rest:List Oper} {w0:World} {R:Fr→Prop} {F:Fr} {d:Tmp} {op:Op} {ty:TypeId} {pos:String} {af:Array Edge} {j:Nat} {b:Bool}
theorem EO (h:R F):WP P ops w0 R [] F w0:=⟨rfl,h⟩
theorem BU (h:EB P op ty F w0 (fun v w'=>WP P ops w0 R rest (GS F d v) w') (fun _ _=>False)):WP P ops w0 R (⟨some d,op,ty,pos,af,none⟩ :: rest) F w0:=by
  unfold WP;refine ⟨rfl,?_⟩;rw [if_pos (show Region.wanted _ _=true from rfl)];exact h
theorem DW (hy:DG ops F j=some b) (h:EB P op ty F w0 (fun v w'=>WP P ops w0 R rest (GS F d v) w') (fun _ _=>False)):WP P ops w0 R (⟨some d,op,ty,pos,af,some (j,b)⟩ :: rest) F w0:=by
  unfold WP;refine ⟨rfl,?_⟩;rw [if_pos (by simp [Region.wanted,hy])];exact h
theorem CK (hy:DG ops F j=some (!b)) (h:WP P ops w0 R rest (GS F d undef) w0):WP P ops w0 R (⟨some d,op,ty,pos,af,some (j,b)⟩ :: rest) F w0:=by
  unfold WP;refine ⟨rfl,?_⟩;rw [if_neg (by cases b <;> simp [Region.wanted,hy])];exact h
theorem GY (hy:DG ops F j=none) (h:WP P ops w0 R rest (GS F d undef) w0):WP P ops w0 R (⟨some d,op,ty,pos,af,some (j,b)⟩ :: rest) F w0:=by
  unfold WP;refine ⟨rfl,?_⟩;rw [if_neg (by cases b <;> simp [Region.wanted,hy])];exact h
end
def outP (P:Program) (ops:List Oper) (w0:World) (o:Oper) (F:Fr) (v:Value):Prop:=
  (Region.wanted o (DG ops F)=true∧(execOp (CY F) ⟨none,o.op,o.type,"",#[],none⟩).run P w0 = .ok (.value v) w0)∨(Region.wanted o (DG ops F)=false∧v=undef)
def RunP (P:Program) (ops:List Oper) (w0:World):List Oper→Fr→Fr→Prop
  | [],F,Fe=>Fe=F
  | o :: rest,F,Fe=>∃ v,outP P ops w0 o F v∧RunP P ops w0 rest (IO F o.dst v) Fe
theorem WP.world {P:Program} {ops l:List Oper} {w0 w:World} {R:Fr→Prop} {F:Fr} (h:WP P ops w0 R l F w):w=w0:=by
  cases l with
  | nil=>exact h.1
  | cons=>exact h.1
theorem WP.run {P:Program} {ops:List Oper} {w0:World} {R:Fr→Prop}:∀ (l:List Oper) (F:Fr),l.all (fun o=>vOp o.op)=true→WP P ops w0 R l F w0→∃ Fe,RunP P ops w0 l F Fe∧R Fe
  | [],F,_,h=>⟨F,rfl,h.2⟩
  | o :: rest,F,hv,h=>by
    simp only [List.all_cons,Bool.and_eq_true] at hv
    have h:=h.2
    by_cases hw:Region.wanted o (DG ops F)=true
    · rw [if_pos hw] at h
      unfold EB at h
      cases hr:(execOp (CY F) ⟨none,o.op,o.type,"",#[],none⟩).run P w0 with
      | ok r w'=>
        obtain ⟨v,rfl⟩:=vOp_val (o:=⟨none,o.op,o.type,"",#[],none⟩) hv.1 hr
        rw [hr] at h
        have h:WP P ops w0 R rest (IO F o.dst v) w':=h
        have e:=h.world
        subst e
        obtain ⟨Fe,h1,h2⟩:=WP.run rest _ hv.2 h
        exact ⟨Fe,⟨v, .inl ⟨hw,hr⟩,h1⟩,h2⟩
      | halt x w'=>
        rw [hr] at h
        cases x <;> exact h.elim
    · rw [if_neg hw] at h
      obtain ⟨Fe,h1,h2⟩:=WP.run rest _ hv.2 h
      exact ⟨Fe,⟨undef, .inr ⟨by simpa using hw,rfl⟩,h1⟩,h2⟩
theorem run_at {P:Program} {ops:List Oper} {w0:World}:∀ (l:List Oper) (F Fe:Fr),RunP P ops w0 l F Fe→l.Pairwise (fun a b=>a.dst≠b.dst)→(∀ o∈l,o.dst≠none)→
    (∀ t,(∀ o∈l,o.dst≠some t)→Fe t=F t)∧∀ i (hi:i<l.length),∃ Fi,(∀ t,(∀ j (hj:j<l.length),j<i→l[j].dst≠some t)→Fi t=F t)∧(∀ t j (hj:j<l.length),j<i→l[j].dst=some t→Fi t=Fe t)∧∃ v,outP P ops w0 l[i] Fi v∧∀ d,l[i].dst=some d→Fe d=v
  | [],F,Fe,h,_,_=>⟨fun t _=>by rw [show Fe=F from h],fun i hi=>absurd hi (by simp)⟩
  | o :: rest,F,Fe,⟨v,hv,h⟩,hp,hn=>by
    obtain ⟨hp1,hp2⟩:=List.pairwise_cons.1 hp
    obtain ⟨a1,a2⟩:=run_at rest _ Fe h hp2 (fun x hx=>hn x (List.mem_cons_of_mem _ hx))
    cases hd:o.dst with
    | none=>exact absurd hd (hn o List.mem_cons_self)
    | some d=>
      rw [hd] at h a1 a2
      have hFd:Fe d=v:=by
        rw [a1 d (fun x hx e=>hp1 x hx (by rw [hd,e]))]
        show GS F d v d=v
        exact HQ _ _ _
      refine ⟨fun t ht=>?_,fun i hi=>?_⟩
      · have hne:t≠d:=fun e=>ht o List.mem_cons_self (by rw [hd,e])
        rw [a1 t (fun x hx=>ht x (List.mem_cons_of_mem _ hx))]
        show GS F d v t=F t
        exact IP _ _ _ hne
      · cases i with
        | zero=>exact ⟨F,fun t _=>rfl,fun t j _ hj=>absurd hj (by omega),v,hv,fun d' hd'=>by rw [show o.dst=some d' from hd'] at hd;cases hd;exact hFd⟩
        | succ i=>
          obtain ⟨Fi,b1,b2,b3⟩:=a2 i (by simpa using hi)
          refine ⟨Fi,fun t ht=>?_,fun t j hj hji hjt=>?_,b3⟩
          · have hne:t≠d:=fun e=>ht 0 (by simp) (by omega) (by rw [e];exact hd)
            rw [b1 t (fun j hj hji=>ht (j+1) (by simp;omega) (by omega))]
            show GS F d v t=F t
            exact IP _ _ _ hne
          · cases j with
            | zero=>
              have hdt:some d=some t:=by rw [← hd];exact hjt
              cases hdt
              rw [b1 d (fun j hj hji e=>hp1 _ (List.getElem_mem hj) (by rw [hd,e])),hFd]
              show GS F d v d=v
              exact HQ _ _ _
            | succ j=>exact b2 t j (by simpa using hj) (by omega) hjt
def XW (ops:List Oper) (o:Oper):List Nat:=
  o.op.operands.toList.filterMap (fun x=>match x with | .tmp t=>some t | _=>none)++(match o.guard with|some (g,_)=>((ops[g]?).bind (·.dst)).toList|none=>[])
def TL (ops:List Oper) (m:Nat):Bool:=
  (ops.take m).all (fun o=>vOp o.op && o.dst.isSome) &&
  (List.range m).all fun i=>match ops[i]? with
    | some o=>(XW ops o).all fun t=>(List.range m).all fun j=>match (ops[j]?).bind (·.dst) with
      | some d=>!Nat.beq d t || ((KK ops i).contains j && Nat.blt j i)
      | none=>true
    | none=>true
section
variable {P:Program} {n:Nat} {Q:Exit→Fr→World→Prop}
theorem pure_dep {ops:List Oper} {m:Nat} (h:TL ops m=true) {i:Nat} (hi:i<m) {o:Oper} (ho:ops[i]? = some o) {t:Nat} (ht:t∈XW ops o) {j:Nat} (hj:j<m) {oj:Oper} (hoj:ops[j]? = some oj) (hd:oj.dst=some t):j∈KK ops i∧j<i:=by
  unfold TL at h
  simp only [Bool.and_eq_true] at h
  have h1:=List.all_eq_true.1 h.2 i (by simpa using hi)
  rw [ho] at h1
  have h2:=List.all_eq_true.1 (List.all_eq_true.1 h1 t ht) j (by simpa using hj)
  rw [hoj] at h2
  simp only [Option.bind_some,hd,Bool.or_eq_true,Bool.and_eq_true] at h2
  rcases h2 with h2|⟨h2,h3⟩
  · exact absurd rfl (nbeq h2)
  · exact ⟨by simpa using h2,blt h3⟩
theorem out_agree {ops:List Oper} {w0:World} {o:Oper} {F F':Fr} {v:Value} (hv:vOp o.op=true) (h:outP P ops w0 o F v) (hl:∀ t∈XW ops o,F' t=F t):outP P ops w0 o F' v:=by
  have hw:Region.wanted o (DG ops F')=Region.wanted o (DG ops F):=by
    unfold Region.wanted
    cases hg:o.guard with
    | none=>rfl
    | some p=>
      obtain ⟨g,b⟩:=p
      simp only
      have:DG ops F' g=DG ops F g:=by
        unfold DG
        cases hd:(ops[g]?).bind (·.dst) with
        | none=>rfl
        | some d=>simp only;rw [hl d (by unfold XW;rw [hg];simp only [hd];simp)]
      rw [this]
  have he:execOp (CY F') ⟨none,o.op,o.type,"",#[],none⟩ = execOp (CY F) ⟨none,o.op,o.type,"",#[],none⟩:=by
    refine SO _ (by revert hv;unfold vOp;cases o.op <;> intro hv <;> first|rfl|cases hv) fun x hx=>?_
    cases x with
    | tmp t=>exact hl t (by unfold XW;exact List.mem_append_left _ (List.mem_filterMap.2 ⟨.tmp t,hx,rfl⟩))
    | _=>rfl
  unfold outP at h ⊢
  rw [hw,he];exact h
structure PuInv (ops:List Oper) (m:Nat) (F Fe:Fr) (w0:World) (listed:Array Bool) (F1:Fr) (w1:World):Prop where
  world:w1=w0
  down:∀ i,listed[i]? = some true→∀ j∈KK ops i,listed[j]? = some true
  fact:∀ (j:Nat) (oj:Oper) (d:Tmp),j<m→listed[j]? = some true→ops[j]? = some oj→oj.dst=some d→F1 d=Fe d
  free:∀ t,(∀ (j:Nat) (oj:Oper),j<m→listed[j]? = some true→ops[j]? = some oj→oj.dst≠some t)→F1 t=F t
theorem draw_runP {ops:List Oper} {m:Nat} {F Fe:Fr} {w0:World} (hd:drawOkC ops m=true) (hok:ops.all (PK n ops)=true) (hp:TL ops m=true) (hr:RunP P ops w0 (ops.take m) F Fe)
    (fin:WL false P ops Q (DH ops ((List.range ops.length).drop m)) Fe w0) :
    ∀ (fuel:Nat) (listed:Array Bool) (F1:Fr) (w1:World),listed.size=ops.length→OT ops listed≤fuel→(∀ j,m≤j→listed[j]?≠some true)→PuInv ops m F Fe w0 listed F1 w1→wpAny P .any ops.toArray (LI n Q) fuel listed (mk n F1) w1:=by
  unfold drawOkC at hd
  simp only [Bool.and_eq_true] at hd
  obtain ⟨⟨⟨⟨d1,d3⟩,d4⟩,d5⟩,d8⟩:=hd
  have hml:m≤ops.length:=Nat.le_of_ble_eq_true d5
  have hback:∀ k,k<ops.length→∀ j∈KK ops k,j<k:=fun k hk j hj=>blt (List.all_eq_true.1 (List.all_eq_true.1 d4 k (by simpa using hk)) j hj)
  have hin:∀ k,k<ops.length→∀ j∈KK ops k,j<ops.length:=fun k hk j hj=>Nat.lt_trans (hback k hk j hj) hk
  have htl:∀ j,j∈(List.range ops.length).drop m↔m≤j∧j<ops.length:=fun j=>by
    rw [List.mem_iff_getElem?]
    simp only [List.getElem?_drop]
    constructor
    · rintro ⟨i,hi⟩
      have:=(List.getElem?_eq_some_iff.1 hi)
      obtain ⟨h1,h2⟩:=this
      simp at h1 h2;omega
    · rintro ⟨h1,h2⟩
      exact ⟨j - m,by rw [List.getElem?_eq_getElem (by simp;omega)];simp;omega⟩
  have hdist:∀ i j oi oj,i<m→j<m→i≠j→ops[i]? = some oi→ops[j]? = some oj→oi.dst≠none→oi.dst≠oj.dst:=by
    intro i j oi oj hi hj hij hoi hoj hne
    have:=List.all_eq_true.1 (List.all_eq_true.1 d1 i (by simpa using hi)) j (by simpa using hj)
    simp only [Bool.or_eq_true] at this
    rcases this with h5|h5
    · exact absurd (Nat.eq_of_beq_eq_true h5) hij
    · rw [hoi,hoj] at h5
      intro e
      cases hd:oi.dst with
      | none=>exact hne hd
      | some d=>
        rw [hd] at e
        simp only [Option.bind_some,hd,← e] at h5
        simp at h5
  have hndt:((List.range ops.length).drop m).Nodup:=List.Nodup.sublist (List.drop_sublist _ _) List.nodup_range
  have hm:=hml
  have hall0:∀ o∈ops.take m,vOp o.op=true∧o.dst≠none:=fun o ho=>by
    unfold TL at hp
    simp only [Bool.and_eq_true] at hp
    have:=List.all_eq_true.1 hp.1 o ho
    simp only [Bool.and_eq_true] at this
    exact ⟨this.1,fun e=>by rw [e] at this;simp at this⟩
  have hlen:(ops.take m).length=m:=by rw [List.length_take];omega
  have hget:∀ j (hj:j<m),(ops.take m)[j]'(by omega)=ops[j]'(by omega):=fun j hj=>List.getElem_take
  have hpw:(ops.take m).Pairwise (fun a b=>a.dst≠b.dst):=by
    rw [List.pairwise_iff_getElem]
    intro i j hi hj hij
    rw [hlen] at hi hj
    rw [hget i hi,hget j hj]
    exact hdist i j _ _ hi hj (by omega) (List.getElem?_eq_getElem (by omega)) (List.getElem?_eq_getElem (by omega)) (by have:=(hall0 _ (List.getElem_mem (l:=ops.take m) (n:=i) (by omega))).2;rw [hget i hi] at this;exact this)
  obtain ⟨r1,r2⟩:=run_at (ops.take m) F Fe hr hpw (fun o ho=>(hall0 o ho).2)
  have hend:∀ (listed:Array Bool) (F1:Fr) (w1:World),PuInv ops m F Fe w0 listed F1 w1→(∀ j,j<m→listed[j]? = some true)→F1=Fe:=fun listed F1 w1 hi hall=>by
    funext t
    by_cases c:∃ (j:Nat) (hj:j<m),(ops[j]'(by omega)).dst=some t
    · obtain ⟨j,hj,he⟩:=c
      exact hi.fact j _ t hj (hall j hj) (List.getElem?_eq_getElem (by omega)) he
    · rw [hi.free t (fun j oj hj _ hoj e=>c ⟨j,hj,by rw [List.getElem?_eq_getElem (by omega)] at hoj;cases hoj;exact e⟩)]
      refine (r1 t fun o ho e=>?_).symm
      obtain ⟨j,hj,rfl⟩:=List.getElem_of_mem ho
      rw [hlen] at hj
      exact c ⟨j,hj,by rw [← hget j hj];exact e⟩
  intro fuel
  have toTail:∀ (fuel:Nat) (listed:Array Bool) (F1:Fr) (w1:World),listed.size=ops.length→OT ops listed≤fuel→(∀ j,m≤j→listed[j]?≠some true)→PuInv ops m F Fe w0 listed F1 w1→(∀ j,j<m→listed[j]? = some true)→wpAny P .any ops.toArray (LI n Q) fuel listed (mk n F1) w1:=by
    intro fuel listed F1 w1 hsz hfu hno hi hall
    have e1:=hend listed F1 w1 hi hall
    have e2:=hi.world
    have hdn:=hi.down
    clear hi
    subst e1;subst e2
    refine forced_runC hok hin ops.length _ fuel listed F1 w1 hsz hfu (fun j hj=>⟨fun h hm'=>hno j ((htl j).1 hm').1 h,fun h=>hall j ?_⟩) (fun j hj=>((htl j).1 hj).2) hndt d8 hdn fin
    rcases Nat.lt_or_ge j m with h1|h1
    · exact h1
    · exact absurd ((htl j).2 ⟨h1,hj⟩) h
  induction fuel with
  | zero=>
    intro listed F1 w1 hsz hfu hno hi
    refine toTail 0 listed F1 w1 hsz hfu hno hi (fun j hj=>?_)
    have h0:OT ops listed=0:=by omega
    unfold OT at h0
    have:=List.countP_eq_zero.1 h0 j (by simp;omega)
    simpa using this
  | succ fuel ih=>
    intro listed F1 w1 hsz hfu hno hi
    by_cases hall:∀ j,j<m→listed[j]? = some true
    · exact toTail (fuel+1) listed F1 w1 hsz hfu hno hi hall
    · have hex:∃ j,j<m∧listed[j]?≠some true:=by
        refine Classical.byContradiction fun hc=>hall fun j hj=>Classical.byContradiction fun hn=>hc ⟨j,hj,hn⟩
      have hmin:∀ q j,q=j→j<m→listed[j]?≠some true→∃ k,k<m∧listed[k]?≠some true∧∀ i,i<k→listed[i]? = some true:=by
        intro q
        induction q using Nat.strongRecOn with
        | _ q ihq=>
          intro j hqj hj hn
          by_cases hb:∀ i,i<j→listed[i]? = some true
          · exact ⟨j,hj,hn,hb⟩
          · have:∃ i,i<j∧listed[i]?≠some true:=Classical.byContradiction fun hc=>hb fun i hi=>Classical.byContradiction fun hn=>hc ⟨i,hi,hn⟩
            obtain ⟨i,hij,hni⟩:=this
            exact ihq i (by omega) i rfl (by omega) hni
      obtain ⟨j0,hj0,hn0⟩:=hex
      obtain ⟨k,hkm,hkn,hkb⟩:=hmin j0 j0 rfl hj0 hn0
      have hkf:listed[k]? = some false:=by
        have:k<listed.size:=by omega
        rw [Array.getElem?_eq_getElem this] at hkn ⊢
        simpa using hkn
      refine ⟨fun h0=>?_,fun i hir=>?_⟩
      · have:=ready_of' hsz (by omega) hkf (fun j hj=>hkb j (hback k (by omega) j hj))
        rw [h0] at this;cases this
      · obtain ⟨hnl,hil⟩:=KU hir hsz
        have ho:ops[i]? = some ops[i]:=List.getElem?_eq_getElem hil
        have haft:=IM ho hir hsz (hin i hil)
        have hclose:∀ j,DY ops i j=true→listed[j]? = some true:=fun j hj=>by
          unfold DY at hj
          exact HS (D:=fun j=>listed[j]? = some true) hi.down _ _ haft j (by simpa using hj)
        have him:i<m:=by
          rcases Nat.lt_or_ge i m with h1|hge
          · exact h1
          · have h1:=hclose k (List.all_eq_true.1 (List.all_eq_true.1 d3 i ((htl i).2 ⟨hge,hil⟩)) k (by simpa using hkm))
            rw [hkf] at h1;cases h1
        have hno':∀ j,m≤j→(listed.setIfInBounds i true)[j]?≠some true:=fun j hj=>by
          rw [Array.getElem?_setIfInBounds,if_neg (by omega)];exact hno j hj
        have hset:∀ (j:Nat),(listed.setIfInBounds i true)[j]? = some true→j=i∨listed[j]? = some true:=by
          intro j hj
          by_cases hji:j=i
          · exact .inl hji
          · rw [Array.getElem?_setIfInBounds,if_neg (fun e=>hji e.symm)] at hj;exact .inr hj
        have hmono:∀ (j:Nat),listed[j]? = some true→(listed.setIfInBounds i true)[j]? = some true:=by
          intro j hj
          rw [Array.getElem?_setIfInBounds]
          split
          · rename_i e;subst e
            have:i<listed.size:=by omega
            simp [this]
          · exact hj
        obtain ⟨Fi,b1,b2,v,hv,hve⟩:=r2 i (by omega)
        rw [hget i him] at hv hve
        have hvo:=(hall0 (ops[i]) (by rw [← hget i him];exact List.getElem_mem _)).1
        have hlk:∀ t∈XW ops ops[i],F1 t=Fi t:=fun t ht=>by
          by_cases c:∃ (j:Nat) (hj:j<m),(ops[j]'(by omega)).dst=some t
          · obtain ⟨j,hj,he⟩:=c
            have hdp:=pure_dep hp him ho ht hj (List.getElem?_eq_getElem (by omega)) he
            rw [hi.fact j _ t hj (haft j hdp.1) (List.getElem?_eq_getElem (by omega)) he]
            exact (b2 t j (by omega) hdp.2 (by rw [hget j hj];exact he)).symm
          · rw [hi.free t (fun j oj hj _ hoj e=>c ⟨j,hj,by rw [List.getElem?_eq_getElem (by omega)] at hoj;cases hoj;exact e⟩)]
            refine (b1 t fun j hj hji e=>?_).symm
            rw [hlen] at hj
            exact c ⟨j,hj,by rw [← hget j hj];exact e⟩
        have hout:=out_agree hvo hv hlk
        have next:PuInv ops m F Fe w0 (listed.setIfInBounds i true) (IO F1 ops[i].dst v) w1:=by
          cases hdi:ops[i].dst with
          | none=>exact absurd hdi (hall0 (ops[i]) (by rw [← hget i him];exact List.getElem_mem _)).2
          | some d=>
            refine ⟨hi.world,fun j hj q hq=>?_,fun j oj d' hjm hj hoj hd'=>?_,fun t ht=>?_⟩
            · rcases hset j hj with rfl|hj
              · exact hmono q (haft q hq)
              · exact hmono q (hi.down j hj q hq)
            · show GS F1 d v d'=Fe d'
              by_cases hji:j=i
              · subst hji
                rw [ho] at hoj;cases hoj
                rw [hdi] at hd';cases hd'
                rw [HQ];exact (hve d hdi).symm
              · have hjl:listed[j]? = some true:=(hset j hj).resolve_left hji
                have hne:d'≠d:=fun e=>by
                  subst e
                  exact hdist j i oj ops[i] hjm him hji hoj ho (by rw [hd'];simp) (by rw [hd',hdi])
                rw [IP _ _ _ hne]
                exact hi.fact j oj d' hjm hjl hoj hd'
            · have hne:t≠d:=fun e=>by
                subst e
                refine ht i ops[i] him ?_ ho hdi
                have:i<listed.size:=by omega
                simp [this]
              show GS F1 d v t=F t
              rw [IP _ _ _ hne]
              exact hi.free t (fun j oj hj hl hoj=>ht j oj hj (hmono j hl) hoj)
        refine LZ (K:=fun F2 w2=>PuInv ops m F Fe w0 (listed.setIfInBounds i true) F2 w2) hok ho (fun F2 w2 hK=>ih _ F2 w2 (by simpa using hsz) (by have:=IR hil hsz hnl;omega) hno' hK) (fun hw=>?_) (fun hw=>?_)
        · rcases hout with ⟨_,h1⟩|⟨h1,_⟩
          · unfold EB
            have ew:=hi.world
            subst ew
            rw [h1]
            exact next
          · rw [hw] at h1;cases h1
        · rcases hout with ⟨h1,_⟩|⟨_,h1⟩
          · rw [hw] at h1;cases h1
          · rw [← h1];exact next
theorem FK {id:Nat} {ops:List Oper} {F:Fr} {w:World} (m:Nat) (pre tl:List Oper) (hm:P.follows .mixedOrders=true) (hok:ops.all (PK n ops)=true) (hd:drawOkC ops m=true) (hp:TL ops m=true) (hlen:Nat.ble m ops.length=true) (hpre:ops.take m=pre) (htl:ops.drop m=tl)
    (h:∀ w1,Keep [] w w1→WP P ops w1 (fun F1=>WL false P ops Q tl F1 w1) pre F w1):CW P (ro:=none) n (.region id ops.toArray true) Q F w:=by
  have hseq:DH ops ((List.range ops.length).drop m)=ops.drop m:=by
    unfold DH
    have:∀ (l:List Oper) (k:Nat),k≤l.length→((List.range l.length).drop k).filterMap (l[·]?)=l.drop k:=by
      intro l k hk
      induction hq:l.length - k generalizing k with
      | zero=>rw [List.drop_of_length_le (by simp;omega),List.drop_of_length_le (by omega)];rfl
      | succ q ih=>
        have hlt:k<l.length:=by omega
        rw [List.drop_eq_getElem_cons (by simpa using hlt),List.filterMap_cons]
        simp only [List.getElem_range,List.getElem?_eq_getElem hlt]
        rw [ih (k+1) (by omega) (by omega),← List.drop_eq_getElem_cons hlt]
    exact this ops m (Nat.le_of_ble_eq_true hlen)
  subst hpre;subst htl
  have hv:(ops.take m).all (fun o=>vOp o.op)=true:=by
    unfold TL at hp
    simp only [Bool.and_eq_true] at hp
    exact List.all_eq_true.2 fun o ho=>by have:=List.all_eq_true.1 hp.1 o ho;simp only [Bool.and_eq_true] at this;exact this.1
  obtain ⟨Fe,h1,h2⟩:=(h w.drew (Keep.drew [] w)).run _ _ hv
  refine wpIn_wide.2 (wp_region_any hm ?_)
  rw [show ({ w with drawn:=w.drawn+1 }:World)=w.drew from rfl,List.size_toArray]
  refine draw_runP hd hok hp h1 (by rw [hseq];exact h2) ops.length _ F w.drew (by simp) ?_ (fun j _=>?_) ⟨rfl,fun i hi=>?_,fun i o d _ hi=>?_,fun _ _=>rfl⟩
  · unfold OT;exact Nat.le_trans (List.countP_le_length) (by simp)
  all_goals simp_all [Array.getElem?_replicate]
end
end Go.Fw
namespace Go.Proofs.YtjgfokolnkhafaaGreat
open Go.Fw Go.RowKit
theorem MS:EL Tryz.prog 3=some 1:=by kernel_rfl
theorem z_3:IQ Tryz.prog 3=some (.int .i64 0):=by kernel_rfl
theorem i_3:(Tryz.prog.info? 3).map (fun i=>(i.zero,i.size,i.bytes))=some (some (.int .i64 0),1,8):=by kernel_rfl
theorem z_4:IQ Tryz.prog 4=some (.bool false):=by kernel_rfl
theorem IZ:EL Tryz.prog 5=some 1:=by kernel_rfl
theorem z_5:IQ Tryz.prog 5=some (.int .u8 0):=by kernel_rfl
theorem i_5:(Tryz.prog.info? 5).map (fun i=>(i.zero,i.size,i.bytes))=some (some (.int .u8 0),1,1):=by kernel_rfl
theorem s_22:EL Tryz.prog 22=some 1:=by kernel_rfl
theorem s_23:EL Tryz.prog 23=some 1:=by kernel_rfl
theorem BM:EL Tryz.prog 25=some 5:=by kernel_rfl
theorem KM:IQ Tryz.prog 25=some (.agg #[.int .i64 0, .int .i64 0, .int .i64 0, .slice none 0 0, .slice none 0 0]):=by kernel_rfl
theorem OR:OF Tryz.prog 25=some [(0,1),(1,1),(2,1),(3,1),(4,1)]:=by kernel_rfl
theorem JF:ES Tryz.prog 25 0=some 0:=by kernel_rfl
theorem KP:ES Tryz.prog 25 1=some 1:=by kernel_rfl
theorem TA:ES Tryz.prog 25 2=some 2:=by kernel_rfl
theorem JE:ES Tryz.prog 25 3=some 3:=by kernel_rfl
theorem DL:ES Tryz.prog 25 4=some 4:=by kernel_rfl
theorem s_26:EL Tryz.prog 26=some 1:=by kernel_rfl
theorem z_26:IQ Tryz.prog 26=some (.slice none 0 0):=by kernel_rfl
theorem i_26:(Tryz.prog.info? 26).map (fun i=>(i.zero,i.size,i.bytes))=some (some (.slice none 0 0),1,24):=by kernel_rfl
theorem s_27:EL Tryz.prog 27=some 1:=by kernel_rfl
theorem z_27:IQ Tryz.prog 27=some (.slice none 0 0):=by kernel_rfl
theorem TK:EL Tryz.prog 30=some 1:=by kernel_rfl
theorem z_30:IQ Tryz.prog 30=some (.int .i64 0):=by kernel_rfl
theorem DO:EL Tryz.prog 49=some 5:=by kernel_rfl
theorem NH:IQ Tryz.prog 49=some (.agg #[.int .i64 0, .int .i64 0, .int .i64 0, .int .i64 0, .slice none 0 0]):=by kernel_rfl
theorem i_49:(Tryz.prog.info? 49).map (fun i=>(i.zero,i.size,i.bytes))=some (some (.agg #[.int .i64 0, .int .i64 0, .int .i64 0, .int .i64 0, .slice none 0 0]),5,56):=by kernel_rfl
theorem pl_49:OF Tryz.prog 49=some [(0,1),(1,1),(2,1),(3,1),(4,1)]:=by kernel_rfl
theorem HO:ES Tryz.prog 49 0=some 0:=by kernel_rfl
theorem KX:ES Tryz.prog 49 1=some 1:=by kernel_rfl
theorem HP:ES Tryz.prog 49 2=some 2:=by kernel_rfl
theorem HW:ES Tryz.prog 49 3=some 3:=by kernel_rfl
theorem FX:ES Tryz.prog 49 4=some 4:=by kernel_rfl
theorem GM:EL Tryz.prog 59=some 5:=by kernel_rfl
theorem NA:IQ Tryz.prog 59=some (.agg #[.int .i64 0, .int .i64 0, .int .i64 0, .slice none 0 0, .slice none 0 0]):=by kernel_rfl
theorem XJ:(Tryz.prog.info? 59).map (fun i=>(i.zero,i.size,i.bytes))=some (some (.agg #[.int .i64 0, .int .i64 0, .int .i64 0, .slice none 0 0, .slice none 0 0]),5,72):=by kernel_rfl
theorem pl_59:OF Tryz.prog 59=some [(0,1),(1,1),(2,1),(3,1),(4,1)]:=by kernel_rfl
theorem RC:ES Tryz.prog 59 0=some 0:=by kernel_rfl
theorem JD:ES Tryz.prog 59 1=some 1:=by kernel_rfl
theorem HN:ES Tryz.prog 59 2=some 2:=by kernel_rfl
theorem MA:ES Tryz.prog 59 3=some 3:=by kernel_rfl
theorem LK:ES Tryz.prog 59 4=some 4:=by kernel_rfl
theorem z_74:IQ Tryz.prog 74=some (.agg #[.int .i64 0, .int .i64 0, .int .i64 0, .slice none 0 0, .slice none 0 0]):=by kernel_rfl
theorem pl_74:OF Tryz.prog 74=some [(0,5)]:=by kernel_rfl
theorem KR:ES Tryz.prog 74 0=some 0:=by kernel_rfl
theorem s_81:EL Tryz.prog 81=some 1:=by kernel_rfl
theorem z_81:IQ Tryz.prog 81=some (.slice none 0 0):=by kernel_rfl
theorem s_103:EL Tryz.prog 103=some 1:=by kernel_rfl
theorem RV:IQ Tryz.prog 103=some (.agg #[.int .i64 0]):=by kernel_rfl
theorem PS:OF Tryz.prog 103=some [(0,1)]:=by kernel_rfl
theorem f_103_0:ES Tryz.prog 103 0=some 0:=by kernel_rfl
theorem s_119:EL Tryz.prog 119=some 8:=by kernel_rfl
theorem z_119:IQ Tryz.prog 119=some (.agg #[.int .u8 0, .int .u8 0, .int .u8 0, .int .u8 0, .int .u8 0, .int .u8 0, .int .u8 0, .int .u8 0]):=by kernel_rfl
theorem s_121:EL Tryz.prog 121=some 1:=by kernel_rfl
theorem z_121:IQ Tryz.prog 121=some (.map none):=by kernel_rfl
theorem enter_5 (xs:Array Value) (w:World):(callFunc 5 xs).run Tryz.prog w = .ok (.enter 5 xs) w:=AV Tryz.func5 (by kernel_rfl) rfl xs w
theorem enter_6 (xs:Array Value) (w:World):(callFunc 6 xs).run Tryz.prog w = .ok (.enter 6 xs) w:=AV Tryz.func6 (by kernel_rfl) rfl xs w
theorem UP (xs:Array Value) (w:World):(callFunc 7 xs).run Tryz.prog w = .ok (.enter 7 xs) w:=AV Tryz.func7 (by kernel_rfl) rfl xs w
theorem enter_8 (xs:Array Value) (w:World):(callFunc 8 xs).run Tryz.prog w = .ok (.enter 8 xs) w:=AV Tryz.func8 (by kernel_rfl) rfl xs w
theorem enter_9 (xs:Array Value) (w:World):(callFunc 9 xs).run Tryz.prog w = .ok (.enter 9 xs) w:=AV Tryz.func9 (by kernel_rfl) rfl xs w
theorem enter_11 (xs:Array Value) (w:World):(callFunc 11 xs).run Tryz.prog w = .ok (.enter 11 xs) w:=AV Tryz.func11 (by kernel_rfl) rfl xs w
theorem enter_12 (xs:Array Value) (w:World):(callFunc 12 xs).run Tryz.prog w = .ok (.enter 12 xs) w:=AV Tryz.func12 (by kernel_rfl) rfl xs w
theorem enter_13 (xs:Array Value) (w:World):(callFunc 13 xs).run Tryz.prog w = .ok (.enter 13 xs) w:=AV Tryz.func13 (by kernel_rfl) rfl xs w
theorem enter_14 (xs:Array Value) (w:World):(callFunc 14 xs).run Tryz.prog w = .ok (.enter 14 xs) w:=AV Tryz.func14 (by kernel_rfl) rfl xs w
theorem PN (xs:Array Value) (w:World):(callFunc 15 xs).run Tryz.prog w = .ok (.enter 15 xs) w:=AV Tryz.func15 (by kernel_rfl) rfl xs w
theorem enter_16 (xs:Array Value) (w:World):(callFunc 16 xs).run Tryz.prog w = .ok (.enter 16 xs) w:=AV Tryz.func16 (by kernel_rfl) rfl xs w
theorem enter_17 (xs:Array Value) (w:World):(callFunc 17 xs).run Tryz.prog w = .ok (.enter 17 xs) w:=AV Tryz.func17 (by kernel_rfl) rfl xs w
theorem enter_18 (xs:Array Value) (w:World):(callFunc 18 xs).run Tryz.prog w = .ok (.enter 18 xs) w:=AV Tryz.func18 (by kernel_rfl) rfl xs w
theorem enter_19 (xs:Array Value) (w:World):(callFunc 19 xs).run Tryz.prog w = .ok (.enter 19 xs) w:=AV Tryz.func19 (by kernel_rfl) rfl xs w
theorem enter_20 (xs:Array Value) (w:World):(callFunc 20 xs).run Tryz.prog w = .ok (.enter 20 xs) w:=AV Tryz.func20 (by kernel_rfl) rfl xs w
theorem enter_21 (xs:Array Value) (w:World):(callFunc 21 xs).run Tryz.prog w = .ok (.enter 21 xs) w:=AV Tryz.func21 (by kernel_rfl) rfl xs w
theorem enter_22 (xs:Array Value) (w:World):(callFunc 22 xs).run Tryz.prog w = .ok (.enter 22 xs) w:=AV Tryz.func22 (by kernel_rfl) rfl xs w
theorem enter_23 (xs:Array Value) (w:World):(callFunc 23 xs).run Tryz.prog w = .ok (.enter 23 xs) w:=AV Tryz.func23 (by kernel_rfl) rfl xs w
theorem SR (xs:Array Value) (w:World):(callFunc 24 xs).run Tryz.prog w = .ok (.enter 24 xs) w:=AV Tryz.func24 (by kernel_rfl) rfl xs w
theorem VX (xs:Array Value) (w:World):(callFunc 25 xs).run Tryz.prog w = .ok (.enter 25 xs) w:=AV Tryz.func25 (by kernel_rfl) rfl xs w
theorem UV (xs:Array Value) (w:World):(callFunc 26 xs).run Tryz.prog w = .ok (.enter 26 xs) w:=AV Tryz.func26 (by kernel_rfl) rfl xs w
theorem enter_27 (xs:Array Value) (w:World):(callFunc 27 xs).run Tryz.prog w = .ok (.enter 27 xs) w:=AV Tryz.func27 (by kernel_rfl) rfl xs w
theorem VP (xs:Array Value) (w:World):(callFunc 28 xs).run Tryz.prog w = .ok (.enter 28 xs) w:=AV Tryz.func28 (by kernel_rfl) rfl xs w
theorem enter_29 (xs:Array Value) (w:World):(callFunc 29 xs).run Tryz.prog w = .ok (.enter 29 xs) w:=AV Tryz.func29 (by kernel_rfl) rfl xs w
theorem enter_30 (xs:Array Value) (w:World):(callFunc 30 xs).run Tryz.prog w = .ok (.enter 30 xs) w:=AV Tryz.func30 (by kernel_rfl) rfl xs w
theorem enter_32 (xs:Array Value) (w:World):(callFunc 32 xs).run Tryz.prog w = .ok (.enter 32 xs) w:=AV Tryz.func32 (by kernel_rfl) rfl xs w
theorem VG (xs:Array Value) (w:World):(callFunc 33 xs).run Tryz.prog w = .ok (.enter 33 xs) w:=AV Tryz.func33 (by kernel_rfl) rfl xs w
theorem enter_34 (xs:Array Value) (w:World):(callFunc 34 xs).run Tryz.prog w = .ok (.enter 34 xs) w:=AV Tryz.func34 (by kernel_rfl) rfl xs w
theorem WE (xs:Array Value) (w:World):(callFunc 35 xs).run Tryz.prog w = .ok (.enter 35 xs) w:=AV Tryz.func35 (by kernel_rfl) rfl xs w
theorem enter_36 (xs:Array Value) (w:World):(callFunc 36 xs).run Tryz.prog w = .ok (.enter 36 xs) w:=AV Tryz.func36 (by kernel_rfl) rfl xs w
theorem NK (xs:Array Value) (w:World):(callFunc 37 xs).run Tryz.prog w = .ok (.enter 37 xs) w:=AV Tryz.func37 (by kernel_rfl) rfl xs w
theorem NO (xs:Array Value) (w:World):(callFunc 38 xs).run Tryz.prog w = .ok (.enter 38 xs) w:=AV Tryz.func38 (by kernel_rfl) rfl xs w
theorem NL (xs:Array Value) (w:World):(callFunc 39 xs).run Tryz.prog w = .ok (.enter 39 xs) w:=AV Tryz.func39 (by kernel_rfl) rfl xs w
theorem enter_40 (xs:Array Value) (w:World):(callFunc 40 xs).run Tryz.prog w = .ok (.enter 40 xs) w:=AV Tryz.func40 (by kernel_rfl) rfl xs w
theorem enter_41 (xs:Array Value) (w:World):(callFunc 41 xs).run Tryz.prog w = .ok (.enter 41 xs) w:=AV Tryz.func41 (by kernel_rfl) rfl xs w
theorem enter_42 (xs:Array Value) (w:World):(callFunc 42 xs).run Tryz.prog w = .ok (.enter 42 xs) w:=AV Tryz.func42 (by kernel_rfl) rfl xs w
theorem enter_43 (xs:Array Value) (w:World):(callFunc 43 xs).run Tryz.prog w = .ok (.enter 43 xs) w:=AV Tryz.func43 (by kernel_rfl) rfl xs w
theorem LB (xs:Array Value) (w:World):(callFunc 44 xs).run Tryz.prog w = .ok (.enter 44 xs) w:=AV Tryz.func44 (by kernel_rfl) rfl xs w
theorem enter_45 (xs:Array Value) (w:World):(callFunc 45 xs).run Tryz.prog w = .ok (.enter 45 xs) w:=AV Tryz.func45 (by kernel_rfl) rfl xs w
theorem enter_46 (xs:Array Value) (w:World):(callFunc 46 xs).run Tryz.prog w = .ok (.enter 46 xs) w:=AV Tryz.func46 (by kernel_rfl) rfl xs w
theorem enter_47 (xs:Array Value) (w:World):(callFunc 47 xs).run Tryz.prog w = .ok (.enter 47 xs) w:=AV Tryz.func47 (by kernel_rfl) rfl xs w
theorem enter_48 (xs:Array Value) (w:World):(callFunc 48 xs).run Tryz.prog w = .ok (.enter 48 xs) w:=AV Tryz.func48 (by kernel_rfl) rfl xs w
theorem enter_49 (xs:Array Value) (w:World):(callFunc 49 xs).run Tryz.prog w = .ok (.enter 49 xs) w:=AV Tryz.func49 (by kernel_rfl) rfl xs w
theorem enter_50 (xs:Array Value) (w:World):(callFunc 50 xs).run Tryz.prog w = .ok (.enter 50 xs) w:=AV Tryz.func50 (by kernel_rfl) rfl xs w
theorem enter_51 (xs:Array Value) (w:World):(callFunc 51 xs).run Tryz.prog w = .ok (.enter 51 xs) w:=AV Tryz.func51 (by kernel_rfl) rfl xs w
theorem enter_52 (xs:Array Value) (w:World):(callFunc 52 xs).run Tryz.prog w = .ok (.enter 52 xs) w:=AV Tryz.func52 (by kernel_rfl) rfl xs w
theorem enter_53 (xs:Array Value) (w:World):(callFunc 53 xs).run Tryz.prog w = .ok (.enter 53 xs) w:=AV Tryz.func53 (by kernel_rfl) rfl xs w
theorem NG (xs:Array Value) (w:World):(callFunc 54 xs).run Tryz.prog w = .ok (.enter 54 xs) w:=AV Tryz.func54 (by kernel_rfl) rfl xs w
theorem enter_55 (xs:Array Value) (w:World):(callFunc 55 xs).run Tryz.prog w = .ok (.enter 55 xs) w:=AV Tryz.func55 (by kernel_rfl) rfl xs w
theorem enter_56 (xs:Array Value) (w:World):(callFunc 56 xs).run Tryz.prog w = .ok (.enter 56 xs) w:=AV Tryz.func56 (by kernel_rfl) rfl xs w
theorem enter_57 (xs:Array Value) (w:World):(callFunc 57 xs).run Tryz.prog w = .ok (.enter 57 xs) w:=AV Tryz.func57 (by kernel_rfl) rfl xs w
theorem enter_58 (xs:Array Value) (w:World):(callFunc 58 xs).run Tryz.prog w = .ok (.enter 58 xs) w:=AV Tryz.func58 (by kernel_rfl) rfl xs w
theorem enter_59 (xs:Array Value) (w:World):(callFunc 59 xs).run Tryz.prog w = .ok (.enter 59 xs) w:=AV Tryz.func59 (by kernel_rfl) rfl xs w
theorem enter_60 (xs:Array Value) (w:World):(callFunc 60 xs).run Tryz.prog w = .ok (.enter 60 xs) w:=AV Tryz.func60 (by kernel_rfl) rfl xs w
theorem WZ (xs:Array Value) (w:World):(callFunc 61 xs).run Tryz.prog w = .ok (.enter 61 xs) w:=AV Tryz.func61 (by kernel_rfl) rfl xs w
theorem enter_62 (xs:Array Value) (w:World):(callFunc 62 xs).run Tryz.prog w = .ok (.enter 62 xs) w:=AV Tryz.func62 (by kernel_rfl) rfl xs w
theorem PM (xs:Array Value) (w:World):(callFunc 63 xs).run Tryz.prog w = .ok (.enter 63 xs) w:=AV Tryz.func63 (by kernel_rfl) rfl xs w
theorem enter_64 (xs:Array Value) (w:World):(callFunc 64 xs).run Tryz.prog w = .ok (.enter 64 xs) w:=AV Tryz.func64 (by kernel_rfl) rfl xs w
theorem VT (xs:Array Value) (w:World):(callFunc 65 xs).run Tryz.prog w = .ok (.enter 65 xs) w:=AV Tryz.func65 (by kernel_rfl) rfl xs w
theorem HG (xs:Array Value) (w:World):(callFunc 66 xs).run Tryz.prog w = .ok (.enter 66 xs) w:=AV Tryz.func66 (by kernel_rfl) rfl xs w
theorem WG (xs:Array Value) (w:World):(callFunc 67 xs).run Tryz.prog w = .ok (.enter 67 xs) w:=AV Tryz.func67 (by kernel_rfl) rfl xs w
theorem enter_68 (xs:Array Value) (w:World):(callFunc 68 xs).run Tryz.prog w = .ok (.enter 68 xs) w:=AV Tryz.func68 (by kernel_rfl) rfl xs w
theorem enter_69 (xs:Array Value) (w:World):(callFunc 69 xs).run Tryz.prog w = .ok (.enter 69 xs) w:=AV Tryz.func69 (by kernel_rfl) rfl xs w
theorem enter_70 (xs:Array Value) (w:World):(callFunc 70 xs).run Tryz.prog w = .ok (.enter 70 xs) w:=AV Tryz.func70 (by kernel_rfl) rfl xs w
theorem enter_71 (xs:Array Value) (w:World):(callFunc 71 xs).run Tryz.prog w = .ok (.enter 71 xs) w:=AV Tryz.func71 (by kernel_rfl) rfl xs w
theorem enter_72 (xs:Array Value) (w:World):(callFunc 72 xs).run Tryz.prog w = .ok (.enter 72 xs) w:=AV Tryz.func72 (by kernel_rfl) rfl xs w
theorem enter_73 (xs:Array Value) (w:World):(callFunc 73 xs).run Tryz.prog w = .ok (.enter 73 xs) w:=AV Tryz.func73 (by kernel_rfl) rfl xs w
theorem enter_74 (xs:Array Value) (w:World):(callFunc 74 xs).run Tryz.prog w = .ok (.enter 74 xs) w:=AV Tryz.func74 (by kernel_rfl) rfl xs w
theorem enter_75 (xs:Array Value) (w:World):(callFunc 75 xs).run Tryz.prog w = .ok (.enter 75 xs) w:=AV Tryz.func75 (by kernel_rfl) rfl xs w
theorem enter_76 (xs:Array Value) (w:World):(callFunc 76 xs).run Tryz.prog w = .ok (.enter 76 xs) w:=AV Tryz.func76 (by kernel_rfl) rfl xs w
theorem enter_77 (xs:Array Value) (w:World):(callFunc 77 xs).run Tryz.prog w = .ok (.enter 77 xs) w:=AV Tryz.func77 (by kernel_rfl) rfl xs w
theorem enter_78 (xs:Array Value) (w:World):(callFunc 78 xs).run Tryz.prog w = .ok (.enter 78 xs) w:=AV Tryz.func78 (by kernel_rfl) rfl xs w
theorem enter_79 (xs:Array Value) (w:World):(callFunc 79 xs).run Tryz.prog w = .ok (.enter 79 xs) w:=AV Tryz.func79 (by kernel_rfl) rfl xs w
theorem enter_80 (xs:Array Value) (w:World):(callFunc 80 xs).run Tryz.prog w = .ok (.enter 80 xs) w:=AV Tryz.func80 (by kernel_rfl) rfl xs w
theorem enter_81 (xs:Array Value) (w:World):(callFunc 81 xs).run Tryz.prog w = .ok (.enter 81 xs) w:=AV Tryz.func81 (by kernel_rfl) rfl xs w
theorem enter_82 (xs:Array Value) (w:World):(callFunc 82 xs).run Tryz.prog w = .ok (.enter 82 xs) w:=AV Tryz.func82 (by kernel_rfl) rfl xs w
theorem enter_83 (xs:Array Value) (w:World):(callFunc 83 xs).run Tryz.prog w = .ok (.enter 83 xs) w:=AV Tryz.func83 (by kernel_rfl) rfl xs w
theorem IG (xs:Array Value) (w:World):(callFunc 84 xs).run Tryz.prog w = .ok (.enter 84 xs) w:=AV Tryz.func84 (by kernel_rfl) rfl xs w
theorem enter_85 (xs:Array Value) (w:World):(callFunc 85 xs).run Tryz.prog w = .ok (.enter 85 xs) w:=AV Tryz.func85 (by kernel_rfl) rfl xs w
theorem enter_86 (xs:Array Value) (w:World):(callFunc 86 xs).run Tryz.prog w = .ok (.enter 86 xs) w:=AV Tryz.func86 (by kernel_rfl) rfl xs w
theorem enter_87 (xs:Array Value) (w:World):(callFunc 87 xs).run Tryz.prog w = .ok (.enter 87 xs) w:=AV Tryz.func87 (by kernel_rfl) rfl xs w
theorem enter_88 (xs:Array Value) (w:World):(callFunc 88 xs).run Tryz.prog w = .ok (.enter 88 xs) w:=AV Tryz.func88 (by kernel_rfl) rfl xs w
theorem enter_89 (xs:Array Value) (w:World):(callFunc 89 xs).run Tryz.prog w = .ok (.enter 89 xs) w:=AV Tryz.func89 (by kernel_rfl) rfl xs w
theorem enter_90 (xs:Array Value) (w:World):(callFunc 90 xs).run Tryz.prog w = .ok (.enter 90 xs) w:=AV Tryz.func90 (by kernel_rfl) rfl xs w
theorem enter_91 (xs:Array Value) (w:World):(callFunc 91 xs).run Tryz.prog w = .ok (.enter 91 xs) w:=AV Tryz.func91 (by kernel_rfl) rfl xs w
theorem enter_92 (xs:Array Value) (w:World):(callFunc 92 xs).run Tryz.prog w = .ok (.enter 92 xs) w:=AV Tryz.func92 (by kernel_rfl) rfl xs w
theorem enter_93 (xs:Array Value) (w:World):(callFunc 93 xs).run Tryz.prog w = .ok (.enter 93 xs) w:=AV Tryz.func93 (by kernel_rfl) rfl xs w
theorem NI (xs:Array Value) (w:World):(callFunc 94 xs).run Tryz.prog w = .ok (.enter 94 xs) w:=AV Tryz.func94 (by kernel_rfl) rfl xs w
theorem PP (xs:Array Value) (w:World):(callFunc 95 xs).run Tryz.prog w = .ok (.enter 95 xs) w:=AV Tryz.func95 (by kernel_rfl) rfl xs w
theorem enter_96 (xs:Array Value) (w:World):(callFunc 96 xs).run Tryz.prog w = .ok (.enter 96 xs) w:=AV Tryz.func96 (by kernel_rfl) rfl xs w
theorem enter_97 (xs:Array Value) (w:World):(callFunc 97 xs).run Tryz.prog w = .ok (.enter 97 xs) w:=AV Tryz.func97 (by kernel_rfl) rfl xs w
theorem enter_98 (xs:Array Value) (w:World):(callFunc 98 xs).run Tryz.prog w = .ok (.enter 98 xs) w:=AV Tryz.func98 (by kernel_rfl) rfl xs w
theorem enter_99 (xs:Array Value) (w:World):(callFunc 99 xs).run Tryz.prog w = .ok (.enter 99 xs) w:=AV Tryz.func99 (by kernel_rfl) rfl xs w
theorem enter_100 (xs:Array Value) (w:World):(callFunc 100 xs).run Tryz.prog w = .ok (.enter 100 xs) w:=AV Tryz.func100 (by kernel_rfl) rfl xs w
theorem enter_101 (xs:Array Value) (w:World):(callFunc 101 xs).run Tryz.prog w = .ok (.enter 101 xs) w:=AV Tryz.func101 (by kernel_rfl) rfl xs w
theorem enter_102 (xs:Array Value) (w:World):(callFunc 102 xs).run Tryz.prog w = .ok (.enter 102 xs) w:=AV Tryz.func102 (by kernel_rfl) rfl xs w
theorem ov_103 (x y:Value) (w:World) (h:(Extern.SlicesOverlaps.overlaps #[22,22] #[4] #[x,y]).run Tryz.prog w = .ok (.bool false) w):(callFunc 103 #[x,y]).run Tryz.prog w = .ok (.value (.bool false)) w:=by
  rw [run_callFunc_extern Tryz.func103 (by kernel_rfl) (by kernel_rfl) (by kernel_rfl) (e:=Extern.SlicesOverlaps.overlaps #[22,22] #[4]) (by kernel_rfl),h];rfl
theorem enter_105 (xs:Array Value) (w:World):(callFunc 105 xs).run Tryz.prog w = .ok (.enter 105 xs) w:=AV Tryz.func105 (by kernel_rfl) rfl xs w
theorem enter_106 (xs:Array Value) (w:World):(callFunc 106 xs).run Tryz.prog w = .ok (.enter 106 xs) w:=AV Tryz.func106 (by kernel_rfl) rfl xs w
theorem enter_107 (xs:Array Value) (w:World):(callFunc 107 xs).run Tryz.prog w = .ok (.enter 107 xs) w:=AV Tryz.func107 (by kernel_rfl) rfl xs w
theorem enter_108 (xs:Array Value) (w:World):(callFunc 108 xs).run Tryz.prog w = .ok (.enter 108 xs) w:=AV Tryz.func108 (by kernel_rfl) rfl xs w
theorem enter_109 (xs:Array Value) (w:World):(callFunc 109 xs).run Tryz.prog w = .ok (.enter 109 xs) w:=AV Tryz.func109 (by kernel_rfl) rfl xs w
theorem enter_111 (xs:Array Value) (w:World):(callFunc 111 xs).run Tryz.prog w = .ok (.enter 111 xs) w:=AV Tryz.func111 (by kernel_rfl) rfl xs w
theorem enter_112 (xs:Array Value) (w:World):(callFunc 112 xs).run Tryz.prog w = .ok (.enter 112 xs) w:=AV Tryz.func112 (by kernel_rfl) rfl xs w
theorem enter_114 (xs:Array Value) (w:World):(callFunc 114 xs).run Tryz.prog w = .ok (.enter 114 xs) w:=AV Tryz.func114 (by kernel_rfl) rfl xs w
open Go.Fw Go.RowKit
set_option maxHeartbeats 4000000 in
set_option maxRecDepth 100000 in
theorem YO {O B:List Nat} {w0 w:World} (v u:Value) (l m:List Int) (i:Nat) (s0:St w0 O w B) (ho:EX Enc.int 3 w0.heap.size (B++O) w v l) (hu:EX Enc.int 3 w0.heap.size (B++O) w u m) (hB:∀ b,v.ownBlock=some b→b∈B) (d1:∀ b,u.ownBlock=some b→b∈B) (hne:∀ b,v.ownBlock=some b→u.ownBlock≠some b) (hm:0<m.length) (hi:i≤l.length) (hlen:(l.length+m.length)*8≤140737488355328) (c2:l.length+m.length≤maxLen):Calls Tryz.prog 87 [v,vI (i:Int),u].toArray w (fun e w'=>∃ (v':Value) (B':List Nat),e = .returned v'∧(∀ b,v'.ownBlock=some b→b∈B')∧(∀ b,v'.ownBlock=some b→v.ownBlock=some b∨w.heap.size≤b)∧(∀ b∈B,b∈B')∧St w0 O w' B'∧Mv B w B' w'∧Keep v.ownBlock.toList w w'∧EX Enc.int 3 w0.heap.size (B'++O) w' v' (l.take i++m++l.drop i)):= by
  have ms:Mv B w B w:=Mv.refl _ _
  have ks:Keep v.ownBlock.toList w w:=Keep.refl _ _
  have g1:=c2
  simp only [maxLen] at g1
  refine CE 95 Tryz.func87 rfl rfl oT (fun F0=>AF (AC kR (AA (AD (nS) rfl (AG (AB (AF (AC kR (AA (AE (v) rfl (AA (AE (vI (i:Int)) rfl (AA (VO U22_ MS i .i64 (i:Int) rfl rfl rfl oM ho fun g9 g2=>(AG (AB (AF (AC kR (AA (AE (u) rfl (AA (VH U22_ rfl hu (AA (AD (vI (m.length:Int)) rfl (AG (AB (AF (AF (AC kR (AA (AE (vI (m.length:Int)) rfl (AA (EK .i64 (m.length:Int) (0:Int) rfl rfl (AG (AB (?_))))))))))))))))))))))))))))))))))))
  have d2:((m.length:Int) == (0:Int))=false:=(by rw [beq_eq_false_iff_ne];omega)
  rw [d2]
  refine AJ false rfl rfl (fun h=>by cases h) (fun _=>AR (AB (AF (AC kR (AA (AE (v) rfl (AA (VH U22_ rfl ho (AA (AD (vI (l.length:Int)) rfl (AG (AB (AF (AF (AC kR (AA (AE (vI (i:Int)) rfl (AA (AE (vI (l.length:Int)) rfl (AA (EK .i64 (i:Int) (l.length:Int) rfl rfl (AG (AB (AJ ((i:Int) == (l.length:Int)) rfl rfl (fun a7=>?_) (fun a7=>?_)))))))))))))))))))))))))
  · have g3:(i:Int)=(l.length:Int):=by simpa using a7
    refine AF (AC kR (AA (AE (v) rfl (AA (AE (u) rfl (AA (o_appendOO (E:=Enc.int) (l:=l) (m:=m) U22_ i_3 rfl (by decide) rfl rfl ho hu  hB hlen c2 s0 fun b2 h0 c3 d3 b8 b0 e2 c4 c5 b9=>(?_))))))))
    have g4:∀ b,u.ownBlock=some b→b2.ownBlock≠some b:=fun b hb e=>by rcases b8 with e1|e1 <;> rw [e1] at e <;> first|(cases e;have:=(hu.lt _ hb).2;omega)|(exact absurd e ((fun b hb e=>hne b e hb) b hb))
    have d1:∀ b,u.ownBlock=some b→b∈c3:=fun b hb=>b0 b (d1 b hb)
    have hu:=hu.mv c4 c5 (fun b hb=>by simp only [Option.mem_toList];exact (fun b hb e=>hne b e hb) b hb)
    have ms:=ms.trans c4
    have ks:=ks.step0 c5 (fun b hb=>by exact .inl hb)
    refine AA (AD (b2) rfl (AG (AB (AM (AI (AS rfl (BZ rfl rfl rfl) (?_)))))))
    rw [show l++m=l.take i++m++l.drop i from by rw [show i=l.length from by omega,List.take_length,List.drop_length,List.append_nil]] at b9
    exact ⟨b2,c3,rfl,d3,fun b hb=>by rcases b8 with e1|e1 <;> rw [e1] at hb;exact .inl hb;cases hb;exact .inr (Nat.le_refl _),b0,e2,ms,ks,b9⟩
  have g5:(i:Int)≠(l.length:Int):=by simpa using a7
  obtain ⟨g,c,cur,css,rfl,hgb,bg,hnc,hcm,hcl,hcss,hrd⟩:=own_open ho oM
  obtain ⟨gu,cu,curu,cssu,rfl,hgub,bgu,hncu,hcmu,hclu,hcssu,b3⟩:=own_open hu oM
  have hgB:g∈B:=hB g rfl
  have hguB:gu∈B:=d1 gu rfl
  have hgg:g≠gu:=fun e=>hne g rfl (by rw [e];rfl)
  have hns:l.length*Enc.int.size≤cur.length:=by rw [hcl];exact Nat.mul_le_mul_right _ hnc
  have c6:m.length*Enc.int.size≤curu.length:=by rw [hclu];exact Nat.mul_le_mul_right _ hncu
  have one1:=ones_drop hrd hcss hi hns
  have one2:=ones_all b3 hcssu
  have hfm:=b3.flen
  refine AR (AB (AF (AF (AC kR (AA (AE (vI (l.length:Int)) rfl (AA (AE (vI (m.length:Int)) rfl (AA (DF .i64 (l.length:Int) (m.length:Int) (((l.length+m.length:Nat):Int)) rfl rfl (GA oM oM) (AA (AE (vS (some ⟨g,0,none⟩) l.length c) rfl (AA (o_cap _ _ c U22_ rfl (AA (FN .i64 ((l.length+m.length:Nat):Int) ((c:Nat):Int) rfl rfl (AG (AB (AJ (decide (((c:Nat):Int)<((l.length+m.length:Nat):Int))) rfl rfl (fun a8=>?_) (fun a8=>?_))))))))))))))))))))
  · have g6:((c:Nat):Int)<((l.length+m.length:Nat):Int):=by simpa using a8
    refine AF (AC kR (AA (AE (vS (some ⟨g,0,none⟩) l.length c) rfl (AA (AE (vI (i:Int)) rfl (AA (YD (size:=Enc.int.size) U22_ MS g 0 l.length c i .i64 (i:Int) rfl rfl rfl oM (AA (AE (vI (l.length:Int)) rfl (AA (AE (vI (m.length:Int)) rfl (AA (DF .i64 (l.length:Int) (m.length:Int) (((l.length+m.length:Nat):Int)) rfl rfl (GA oM oM) (AA (AE (vI (i:Int)) rfl (AA (HK .i64 ((l.length+m.length:Nat):Int) (i:Int) ((((l.length+m.length) - i:Nat):Int)) rfl rfl (GA oM oM) (AA (o_appendZ (size:=Enc.int.size) (i:=i) ((l.length+m.length) - i) (l.length+m.length) (((l.length+m.length) - i:Nat):Int) oM U22_ U3_ i_3 rfl (by decide) rfl rfl rfl bg (by rw [hcl];exact Nat.mul_le_mul_right _ oM) oM oM hlen c2 s0 fun a0 a1 b1 h1 e3 d4 e4 e5 b4 d5 a2 g7 d6 d7=>(?_))))))))))))))))))))
    have c0:g≠a0:=by have:=bg.lt;omega
    have c1:gu≠a0:=by have:=bgu.lt;omega
    have b5:w.heap.size≤a0:=by have:=ks.size;omega
    clear e3
    have bg:=bg.keep b4 (by simp)
    have bgu:=bgu.keep b4 (by simp)
    have ms:=ms.trans e5
    have ks:=ks.step0 b4 (fun b hb=>by (simp at hb;done))
    refine AA (AD (vS (some ⟨a0,0,none⟩) (l.length+m.length) a1) rfl (AG (AB (AF (AC kR (AA (AE (vS (some ⟨a0,0,none⟩) (l.length+m.length) a1) rfl (AA (AE (vI (i:Int)) rfl (AA (KS (size:=Enc.int.size) U22_ MS a0 (l.length+m.length) a1 i .i64 (i:Int) rfl rfl rfl oM oM oM (AA (AE (vS (some ⟨gu,0,none⟩) m.length cu) rfl (AA (QD (size:=Enc.int.size) m.length U22_ MS rfl rfl d5 bgu (by repeat (constructor)) (by simp only [Nat.min_def];split <;> omega) (by rw [a2,← Nat.add_mul];exact Nat.mul_le_mul_right _ oM) (by rw [Nat.zero_add];exact c6) one2 e4 fun e6 e7 e8 b6 a9=>(?_))))))))))))))))
    have a5:(HX b1 (i*Enc.int.size) ((curu.drop 0).take (m.length*Enc.int.size))).length=a1*Enc.int.size:=by rw [NV (by rw [List.length_take,List.length_drop,Nat.min_eq_left (by have h2:=((by rw [Nat.zero_add];exact c6):0+m.length*Enc.int.size≤curu.length);omega)];exact (by rw [a2,← Nat.add_mul];exact Nat.mul_le_mul_right _ oM))];exact a2
    have bg:=bg.keep b6 (BH c0)
    have bgu:=bgu.keep b6 (BH c1)
    have ms:=ms.trans e8
    have ks:=ks.step0 b6 (fun b hb=>by (simp only [List.mem_singleton] at hb;subst hb;(right;omega)))
    refine AG (AB (AF (FK 8 _ _ kR kR kR kR kR rfl rfl fun e9 a3=>?_)))
    have f0:=e7.call a3
    have f1:Mv (a0 :: B) e6 (a0 :: B) e9:=Mv.of_keep a3
    have bg:=bg.keep a3 (by simp)
    have bgu:=bgu.keep a3 (by simp)
    have a9:=a9.keep a3 (by simp)
    have ms:=ms.trans f1
    have ks:=ks.step0 a3 (fun b hb=>by (simp at hb;done))
    refine BU (AE (vS (some ⟨a0,0,none⟩) (l.length+m.length) a1) rfl (BU (AE (vI (i:Int)) rfl (BU (AE (vI (m.length:Int)) rfl (BU (DF .i64 (i:Int) (m.length:Int) (((i+m.length:Nat):Int)) rfl rfl (GA oM oM) (BU (KS (size:=Enc.int.size) U22_ MS a0 (l.length+m.length) a1 (i+m.length) .i64 ((i+m.length:Nat):Int) rfl rfl rfl oM oM oM (BU (AE (vS (some ⟨g,0,none⟩) l.length c) rfl (BU (AE (vI (i:Int)) rfl (BU (KS (size:=Enc.int.size) U22_ MS g l.length c i .i64 (i:Int) rfl rfl rfl oM oM oM (EO (AA (QD (size:=Enc.int.size) (l.length - i) U22_ MS rfl rfl a9 bg (by repeat (constructor)) (by simp only [Nat.min_def];split <;> omega) (by rw [a5,← Nat.add_mul];exact Nat.mul_le_mul_right _ oM) (by rw [← Nat.add_mul];exact Nat.le_trans (Nat.mul_le_mul_right _ oM) hns) one1 f0 fun h3 f2 f3 b7 d8=>(?_)))))))))))))))))))
    have c9:(HX (HX b1 (i*Enc.int.size) ((curu.drop 0).take (m.length*Enc.int.size))) ((i+m.length)*Enc.int.size) ((cur.drop (i*Enc.int.size)).take ((l.length - i)*Enc.int.size))).length=a1*Enc.int.size:=by rw [NV (by rw [List.length_take,List.length_drop,Nat.min_eq_left (by have h2:=((by rw [← Nat.add_mul];exact Nat.le_trans (Nat.mul_le_mul_right _ oM) hns):(i*Enc.int.size)+(l.length - i)*Enc.int.size≤cur.length);omega)];exact (by rw [a5,← Nat.add_mul];exact Nat.mul_le_mul_right _ oM))];exact a5
    have bg:=bg.keep b7 (BH c0)
    have bgu:=bgu.keep b7 (BH c1)
    have ms:=ms.trans f3
    have ks:=ks.step0 b7 (fun b hb=>by (simp only [List.mem_singleton] at hb;subst hb;(right;omega)))
    refine AG (AB (AF (AC kR (AA (AE (vS (some ⟨a0,0,none⟩) (l.length+m.length) a1) rfl (AA (AD (vS (some ⟨a0,0,none⟩) (l.length+m.length) a1) rfl (AG (AB (AM (AI (AS rfl (BZ rfl rfl rfl) (?_)))))))))))))
    exact ⟨_,(a0 :: B),rfl,fun b hb=>by cases hb;exact (by repeat (constructor)),fun b hb=>by cases hb;exact .inr b5,fun b hb=>List.mem_cons_of_mem _ hb,f2,ms,ks,EX.ins hrd b3 ms d8 d4 hi c9 oM d6 (tk_grow hcss hrd.lens hrd.1 hi hns hcssu hfm d7 (by rw [a2];exact Nat.mul_le_mul_right _ oM))⟩
  have g8:((l.length+m.length:Nat):Int)≤((c:Nat):Int):=by simpa using a8
  refine AR (AB (AF (AC kR (AA (AE (vS (some ⟨g,0,none⟩) l.length c) rfl (AA (AE (vI (l.length:Int)) rfl (AA (AE (vI (m.length:Int)) rfl (AA (DF .i64 (l.length:Int) (m.length:Int) (((l.length+m.length:Nat):Int)) rfl rfl (GA oM oM) (AA (YD (size:=Enc.int.size) U22_ MS g 0 l.length c (l.length+m.length) .i64 ((l.length+m.length:Nat):Int) rfl rfl rfl oM (AA (AD (vS (some ⟨g,0,none⟩) (l.length+m.length) c) rfl (AG (AB (AF (AF (AC kR (AA (AE (vS (some ⟨gu,0,none⟩) m.length cu) rfl (AA (AE (vS (some ⟨g,0,none⟩) (l.length+m.length) c) rfl (AA (AE (vI (i:Int)) rfl (AA (AE (vI (m.length:Int)) rfl (AA (DF .i64 (i:Int) (m.length:Int) (((i+m.length:Nat):Int)) rfl rfl (GA oM oM) (AA (KS (size:=Enc.int.size) U22_ MS g (l.length+m.length) c (i+m.length) .i64 ((i+m.length:Nat):Int) rfl rfl rfl oM oM oM (AA (o_overlaps (size:=Enc.int.size) ov_103 U22_ MS rfl bgu bg (Ne.symm hgg) (by rw [hcl];exact Nat.mul_pos oM (by decide)) (AA (EU false rfl (AG (AB (AJ true rfl rfl (fun _=>AF (FK 8 _ _ kR kR kR kR kR rfl rfl fun f4 a4=>?_)) (fun h=>by cases h))))))))))))))))))))))))))))))))))))))))
  have f5:=s0.call a4
  have f6:Mv B w B f4:=Mv.of_keep a4
  have bg:=bg.keep a4 (by simp)
  have bgu:=bgu.keep a4 (by simp)
  have ms:=ms.trans f6
  have ks:=ks.step0 a4 (fun b hb=>by (simp at hb;done))
  refine BU (AE (vS (some ⟨g,0,none⟩) (l.length+m.length) c) rfl (BU (AE (vI (i:Int)) rfl (BU (AE (vI (m.length:Int)) rfl (BU (DF .i64 (i:Int) (m.length:Int) (((i+m.length:Nat):Int)) rfl rfl (GA oM oM) (BU (KS (size:=Enc.int.size) U22_ MS g (l.length+m.length) c (i+m.length) .i64 ((i+m.length:Nat):Int) rfl rfl rfl oM oM oM (BU (AE (vS (some ⟨g,0,none⟩) (l.length+m.length) c) rfl (BU (AE (vI (i:Int)) rfl (BU (KS (size:=Enc.int.size) U22_ MS g (l.length+m.length) c i .i64 (i:Int) rfl rfl rfl oM oM oM (EO (AA (QD (size:=Enc.int.size) (l.length - i) U22_ MS rfl rfl bg bg (by repeat (assumption)) (by simp only [Nat.min_def];split <;> omega) (by rw [hcl,← Nat.add_mul];exact Nat.mul_le_mul_right _ oM) (by rw [← Nat.add_mul];exact Nat.le_trans (Nat.mul_le_mul_right _ oM) hns) one1 f5 fun h4 f7 f8 c7 d9=>(?_)))))))))))))))))))
  have a6:(HX cur ((i+m.length)*Enc.int.size) ((cur.drop (i*Enc.int.size)).take ((l.length - i)*Enc.int.size))).length=c*Enc.int.size:=by rw [NV (by rw [List.length_take,List.length_drop,Nat.min_eq_left (by have h2:=((by rw [← Nat.add_mul];exact Nat.le_trans (Nat.mul_le_mul_right _ oM) hns):(i*Enc.int.size)+(l.length - i)*Enc.int.size≤cur.length);omega)];exact (by rw [hcl,← Nat.add_mul];exact Nat.mul_le_mul_right _ oM))];exact hcl
  have bgu:=bgu.keep c7 (BH (Ne.symm hgg))
  have ms:=ms.trans f8
  have ks:=ks.step0 c7 (fun b hb=>by exact .inl hb)
  refine AG (AB (AF (AC kR (AA (AE (vS (some ⟨g,0,none⟩) (l.length+m.length) c) rfl (AA (AE (vI (i:Int)) rfl (AA (KS (size:=Enc.int.size) U22_ MS g (l.length+m.length) c i .i64 (i:Int) rfl rfl rfl oM oM oM (AA (AE (vS (some ⟨gu,0,none⟩) m.length cu) rfl (AA (QD (size:=Enc.int.size) m.length U22_ MS rfl rfl d9 bgu (by repeat (assumption)) (by simp only [Nat.min_def];split <;> omega) (by rw [a6,← Nat.add_mul];exact Nat.mul_le_mul_right _ oM) (by rw [Nat.zero_add];exact c6) one2 f7 fun h5 f9 g0 c8 e0=>(?_))))))))))))))
  have d0:(HX (HX cur ((i+m.length)*Enc.int.size) ((cur.drop (i*Enc.int.size)).take ((l.length - i)*Enc.int.size))) (i*Enc.int.size) ((curu.drop 0).take (m.length*Enc.int.size))).length=c*Enc.int.size:=by rw [NV (by rw [List.length_take,List.length_drop,Nat.min_eq_left (by have h2:=((by rw [Nat.zero_add];exact c6):0+m.length*Enc.int.size≤curu.length);omega)];exact (by rw [a6,← Nat.add_mul];exact Nat.mul_le_mul_right _ oM))];exact a6
  have bgu:=bgu.keep c8 (BH (Ne.symm hgg))
  have ms:=ms.trans g0
  have ks:=ks.step0 c8 (fun b hb=>by exact .inl hb)
  refine AG (AB (AF (AC kR (AA (AE (vS (some ⟨g,0,none⟩) (l.length+m.length) c) rfl (AA (AD (vS (some ⟨g,0,none⟩) (l.length+m.length) c) rfl (AG (AB (AM (AI (AS rfl (BZ rfl rfl rfl) (?_)))))))))))))
  exact ⟨_,B,rfl,fun b hb=>by cases hb;exact (by repeat (assumption)),fun b hb=>by cases hb;exact .inl rfl,fun b hb=>hb,f9,ms,ks,EX.ins hrd b3 ms e0 hgb hi d0 oM hcm (tk_shift hcss hrd.lens hrd.1 hi (by rw [hcl];exact Nat.mul_le_mul_right _ oM) hcssu hfm)⟩
open Go.Fw
def KQ (l:List Int) (k:Nat):Int:=if k=0 then -1 else l[k - 1]!
def IN (l:List Int) (k:Nat):Bool:=decide (l[k]!≤KQ l k) || decide (4096≤l[k]!)
def FR (l:List Int):Bool:=EW (fun k=>if IN l k then some false else none) true 0 (l.length - 0)
def DC (d f:Int):Bool:=decide (f≤d) && decide (d<1024)
def GI (r:Recovery):Bool:=
  if (decide (r.state<0) || decide (2<r.state)) || !FR r.approved then false
  else if r.state == 2 then ((r.vetoed.length:Int) == 1) && DC r.vetoed[0]! r.asked else (r.vetoed.length:Int) == 0
def HZ (l:List Recovery) (k:Nat):Int:=if k=0 then 0 else l[k - 1]!.asked
def EE (l:List Recovery) (k:Nat):Bool:=
  ((l[k]!.no != (k:Int) || !DC l[k]!.asked (HZ l k)) || !GI l[k]!) || (l[k]!.state == 0 && decide ((k:Int)<(l.length:Int) - 1))
def DT (c:Circle):Bool:=
  (((((((decide (c.epoch<0) || decide (1048576<c.epoch)) || decide ((c.guardians.length:Int)<1)) || decide (8<(c.guardians.length:Int))) || !FR c.guardians) || decide (c.threshold<1)) || decide ((c.guardians.length:Int)<c.threshold)) || !DC c.wait 0) || decide (1024<(c.recs.length:Int))
def AP (c:Circle):Int:=if DT c then 450 else EW (fun k=>if EE c.recs k then some 450 else none) 0 0 (c.recs.length - 0)
def ET:Circle:=⟨0,0,0,[],[]⟩
def MI (l:List Int) (t w:Int):Circle × Int:=if AP ⟨0,t,w,l,[]⟩ != 0 then (ET,AP ⟨0,t,w,l,[]⟩) else (⟨0,t,w,l,[]⟩,0)
def PF (c:Circle):Recovery:=if 0<c.recs.length then c.recs[c.recs.length - 1]! else ⟨0,0,1,[],[]⟩
def CL (c:Circle) (day:Int):Circle × Int × Int:=
  if AP c != 0 then (ET,0,AP c) else if !DC day (PF c).asked then (ET,0,1) else if (PF c).state == 0 then (ET,0,451) else if (c.recs.length:Int) == 1024 then (ET,0,2)
  else (⟨c.epoch,c.threshold,c.wait,c.guardians,c.recs++[⟨(c.recs.length:Int),day,0,[],[]⟩]⟩,(c.recs.length:Int),0)
def CT (c:Circle) (no:Int) (f:Recovery→Except Int Recovery):Circle × Int:=
  if AP c != 0 then (ET,AP c) else if no<0∨(c.recs.length:Int)≤no then (ET,1)
  else match f c.recs[no.toNat]! with | .error e=>(ET,e) | .ok r=>(⟨c.epoch,c.threshold,c.wait,c.guardians,c.recs.set no.toNat r⟩,0)
def idxI (l:List Int) (x:Int):Int:=EW (fun k=>if x == l[k]! then some (k:Int) else none) (-1) 0 (l.length - 0)
def tw (l:List Int) (x:Int):Nat:=(l.takeWhile (fun y=>decide (y<x))).length
def XL (l:List Int) (x:Int):Bool:=decide (tw l x<l.length) && (l[tw l x]! == x)
def putIn (l:List Int) (x:Int):List Int:=l.take (tw l x)++[x]++l.drop (tw l x)
def JO (l g:List Int) (k:Nat):Nat:=((g.take k).filter (fun x=>l.contains x)).length
def MK (c:Circle) (r:Recovery):Bool:=decide (c.threshold≤(JO r.approved c.guardians c.guardians.length:Int))
def BV (c:Circle) (g:Int) (r:Recovery):Except Int Recovery:=
  if r.state == 2 then .error 452 else if r.state == 1 then .error 1 else if !(c.guardians.contains g) then .error 450 else if XL r.approved g then .ok r else .ok ⟨r.no,r.asked,r.state,putIn r.approved g,r.vetoed⟩
def CF (c:Circle) (day:Int) (r:Recovery):Except Int Recovery:=
  if r.state == 2 then .error 452 else if r.state == 1 then .error 1 else if !DC day 0 then .error 1 else if !MK c r then .error 450 else if decide (day<r.asked+c.wait) then .error 451 else .ok ⟨r.no,r.asked,1,r.approved,r.vetoed⟩
theorem QA {β:Type} {p:Nat→Bool} {d r:β} (hne:r≠d):∀ {m i:Nat},EW (fun k=>if p k then some r else none) d i m=d↔∀ k,i≤k→k<i+m→p k=false
  | 0,i=>by simp [EW];intro k h1 h2;omega
  | m+1,i=>by
    unfold EW
    cases hp:p i with
    | true=>
      simp only [if_true]
      refine ⟨fun h=>absurd h hne,fun h=>?_⟩
      have:=h i (Nat.le_refl _) (by omega)
      rw [hp] at this;cases this
    | false=>
      simp only [Bool.false_eq_true,if_false]
      rw [QA hne]
      refine ⟨fun h k h1 h2=>?_,fun h k h1 h2=>h k (by omega) (by omega)⟩
      by_cases hk:k=i
      · subst hk;exact hp
      · exact h k (by omega) (by omega)
theorem UJ (l:List Int):FR l=true↔∀ k,k<l.length→IN l k=false:=by
  unfold FR
  rw [QA (by simp)]
  exact ⟨fun h k hk=>h k (by omega) (by omega),fun h k _ hk=>h k (by omega)⟩
theorem PV {l:List Int} {k:Nat}:IN l k=false↔KQ l k<l[k]!∧l[k]! < 4096:=by
  simp [IN]
theorem OJ {l:List Int} (h:FR l=true):∀ p q,p<q→q<l.length→l[p]! < l[q]!:=by
  intro p q hpq hq
  induction q with
  | zero=>omega
  | succ q ih=>
    have h1:=(PV.1 ((UJ l).1 h (q+1) hq)).1
    simp only [KQ,Nat.add_one_ne_zero,if_false,Nat.add_sub_cancel] at h1
    by_cases hp:p=q
    · subst hp;exact h1
    · have:=ih (by omega) (by omega);omega
theorem SX {l:List Int} (h:FR l=true):∀ q,q<l.length→0≤l[q]!∧l[q]! < 4096:=by
  intro q hq
  have h2:=(PV.1 ((UJ l).1 h q hq))
  refine ⟨?_,h2.2⟩
  have h0:=(PV.1 ((UJ l).1 h 0 (by omega))).1
  simp only [KQ,if_true] at h0
  by_cases hq0:q=0
  · subst hq0;omega
  · have:=OJ h 0 q (by omega) hq;omega
theorem inc_ge {l:List Int} (h:FR l=true):∀ q,q<l.length→(q:Int)≤l[q]!:=by
  intro q hq
  induction q with
  | zero=>exact (SX h 0 hq).1
  | succ q ih=>have:=ih (by omega);have:=OJ h q (q+1) (by omega) hq;omega
theorem NW {l:List Int} (h:FR l=true):l.length≤4096:=by
  by_cases h0:l.length=0
  · omega
  · have h1:=inc_ge h (l.length - 1) (by omega)
    have h2:=(SX h (l.length - 1) (by omega)).2
    omega
theorem LV (c:Circle):AP c=0↔DT c=false∧∀ k,k<c.recs.length→EE c.recs k=false:=by
  unfold AP
  cases hh:DT c with
  | true=>simp
  | false=>
    simp only [Bool.false_eq_true,if_false,true_and]
    rw [QA (by decide)]
    exact ⟨fun h k hk=>h k (by omega) (by omega),fun h k _ hk=>h k (by omega)⟩
theorem gCheck_two (c:Circle):AP c=0∨AP c=450:=by
  unfold AP
  split
  · exact .inr rfl
  · by_cases h:EW (fun k=>if EE c.recs k then some (450:Int) else none) 0 0 (c.recs.length - 0)=0
    · exact .inl h
    · right
      have:∀ (m i:Nat),EW (fun k=>if EE c.recs k then some (450:Int) else none) 0 i m=0∨EW (fun k=>if EE c.recs k then some (450:Int) else none) 0 i m=450:=by
        intro m
        induction m with
        | zero=>intro i;exact .inl rfl
        | succ m ih=>intro i;unfold EW;cases EE c.recs i <;> simp [ih]
      rcases this (c.recs.length - 0) 0 with h1|h1
      · exact absurd h1 h
      · exact h1
theorem GN {r:Recovery} (h:GI r=true):0≤r.state∧r.state≤2∧FR r.approved=true:=by
  unfold GI at h
  split at h
  · cases h
  · rename_i hh
    have hh':((decide (r.state<0) || decide (2<r.state)) || !FR r.approved)=false:=by simpa using hh
    simp only [dbs] at hh'
    exact ⟨by omega,by omega,by simpa using hh'.2⟩
theorem MU {c:Circle} (h:AP c=0) {k:Nat} (hk:k<c.recs.length):GI c.recs[k]! = true:=by
  have:=((LV c).1 h).2 k hk
  simp only [EE,dbs] at this
  exact this.1.2
theorem TT {c:Circle} (h:AP c=0) {no:Int} (h1:0≤no) (h2:no<c.recs.length):c.recs[no.toNat]!.state=0∨c.recs[no.toNat]!.state=1∨c.recs[no.toNat]!.state=2:=by
  have:=GN (MU h (k:=no.toNat) (by omega))
  omega
theorem UF {c:Circle} (h:AP c=0) {no:Int} (h1:0≤no) (h2:no<c.recs.length):∀ p q,p<q→q<c.recs[no.toNat]!.approved.length→c.recs[no.toNat]!.approved[p]! < c.recs[no.toNat]!.approved[q]!:=
  OJ (GN (MU h (k:=no.toNat) (by omega))).2.2
theorem tw_le (l:List Int) (x:Int):tw l x≤l.length:=by
  unfold tw
  exact (List.takeWhile_sublist _).length_le
theorem tw_eq {x:Int}:∀ {l:List Int} {k:Nat},k≤l.length→(∀ q,q<k→l[q]! < x)→(k<l.length→x≤l[k]!)→tw l x=k
  | [],k,hk,_,_=>by simp at hk;subst hk;rfl
  | a :: l,0,_,_,h2=>by
    have:=h2 (by simp)
    simp at this
    have hn:¬ (a<x):=by omega
    simp [tw,hn]
  | a :: l,k+1,hk,h1,h2=>by
    have h0:=h1 0 (by omega)
    simp at h0
    have ih:=tw_eq (x:=x) (l:=l) (k:=k) (by simpa using hk) (fun q hq=>by have:=h1 (q+1) (by omega);simpa using this) (fun hk2=>by have:=h2 (by simpa using hk2);simpa using this)
    unfold tw at ih ⊢
    simp [h0,ih]
theorem bsF_1 {l:List Int} {x:Int} {k:Nat} (ht:tw l x=k) (h:(l.length:Int)≤k):XL l x=false:=by
  have:¬ (k<l.length):=by omega
  simp [XL,ht,this]
theorem bsF_2 {l:List Int} {x:Int} {k:Nat} (ht:tw l x=k) (h:l[k]!≠x):XL l x=false:=by
  unfold XL;rw [ht]
  have:(l[k]! == x)=false:=by simpa using h
  rw [this,Bool.and_false]
theorem bsF_t {l:List Int} {x:Int} {k:Nat} (ht:tw l x=k) (h:(k:Int)<l.length) (he:l[k]! = x):XL l x=true:=by
  unfold XL;rw [ht]
  have:(l[k]! == x)=true:=by simpa using he
  rw [this,Bool.and_true];simpa using h
theorem bs_lo {l:List Int} {x:Int} {h:Nat} (hs:∀ p q,p<q→q<l.length→l[p]! < l[q]!) (h1:l[h]! < x) (hh:h<l.length):∀ q,q<h+1→l[q]! < x:=by
  intro q hq
  by_cases hqh:q=h
  · subst hqh;exact h1
  · have:=hs q h (by omega) hh;omega
theorem bs_hi {l:List Int} {x:Int} {h:Nat} (hs:∀ p q,p<q→q<l.length→l[p]! < l[q]!) (h1:x≤l[h]!):∀ q,h≤q→q<l.length→x≤l[q]!:=by
  intro q hq hql
  by_cases hqh:q=h
  · subst hqh;exact h1
  · have:=hs h q (by omega) hql;omega
theorem idxI_pos (l:List Int) (x:Int):decide ((0:Int)≤idxI l x)=l.contains x:=by
  have key:∀ (m i:Nat),m+i=l.length→decide ((0:Int)≤EW (fun k=>if x == l[k]! then some (k:Int) else none) (-1) i m)=(l.drop i).contains x:=by
    intro m
    induction m with
    | zero=>intro i hi;rw [List.drop_eq_nil_of_le (by omega)];rfl
    | succ m ih=>
      intro i hi
      unfold EW
      have hil:i<l.length:=by omega
      have hd:l.drop i=l[i]! :: l.drop (i+1):=by rw [getElem!_pos l i hil];exact List.drop_eq_getElem_cons hil
      rw [hd,List.contains_cons]
      cases hx:(x == l[i]!) with
      | true=>simp
      | false=>simp only [Bool.false_eq_true,if_false,Bool.false_or];exact ih (i+1) (by omega)
  have:=key l.length 0 (by omega)
  rw [List.drop_zero] at this
  exact this
theorem TZ {l g:List Int} {k:Nat} (h:k<g.length):JO l g (k+1)=JO l g k+(if l.contains g[k]! then 1 else 0):=by
  unfold JO
  rw [List.take_add_one,List.getElem?_eq_getElem h,getElem!_pos g k h]
  simp only [Option.toList_some,List.filter_append,List.length_append]
  by_cases hc:g[k]∈l <;> simp [List.filter,hc]
theorem countM_le (l g:List Int) (k:Nat):JO l g k≤k:=by
  unfold JO
  exact Nat.le_trans (List.length_filter_le _ _) (List.length_take_le _ _)
theorem recs_le {c:Circle} (h:AP c=0):c.recs.length≤1024:=by
  have:=((LV c).1 h).1
  simp only [DT,dbs] at this
  omega
theorem SK {l:List Int} {t w:Int} (h:AP ⟨0,t,w,l,[]⟩≠0):MI l t w=(ET,AP ⟨0,t,w,l,[]⟩):=by
  unfold MI;rw [if_pos (by simpa using h)]
theorem UK {l:List Int} {t w:Int} (h:AP ⟨0,t,w,l,[]⟩ = 0):MI l t w=(⟨0,t,w,l,[]⟩,0):=by
  unfold MI;rw [if_neg (by simp [h])]
theorem UY {c:Circle} {day:Int} (h:AP c≠0):CL c day=(ET,0,AP c):=by
  unfold CL;rw [if_pos (by simpa using h)]
theorem NP {c:Circle} {day:Int} (h:AP c=0) (h1:DC day (PF c).asked=false):CL c day=(ET,0,1):=by
  unfold CL;rw [if_neg (by simp [h]),if_pos (by simp [h1])]
theorem TO {c:Circle} {day:Int} (h:AP c=0) (h1:DC day (PF c).asked=true) (h2:(PF c).state=0):CL c day=(ET,0,451):=by
  unfold CL;rw [if_neg (by simp [h]),if_neg (by simp [h1]),if_pos (by simp [h2])]
theorem LW {c:Circle} {day:Int} (h:AP c=0) (h1:DC day (PF c).asked=true) (h2:(PF c).state≠0) (h3:(c.recs.length:Int)=1024):CL c day=(ET,0,2):=by
  unfold CL;rw [if_neg (by simp [h]),if_neg (by simp [h1]),if_neg (by simpa using h2),if_pos (by simpa using h3)]
theorem JK {c:Circle} {day:Int} (h:AP c=0) (h1:DC day (PF c).asked=true) (h2:(PF c).state≠0) (h3:(c.recs.length:Int)≠1024) :
    CL c day=(⟨c.epoch,c.threshold,c.wait,c.guardians,c.recs++[⟨(c.recs.length:Int),day,0,[],[]⟩]⟩,(c.recs.length:Int),0):=by
  unfold CL;rw [if_neg (by simp [h]),if_neg (by simp [h1]),if_neg (by simpa using h2),if_neg (by simpa using h3)]
theorem gAct_bad {c:Circle} {no:Int} {f:Recovery→Except Int Recovery} (h:AP c≠0):CT c no f=(ET,AP c):=by
  unfold CT;rw [if_pos (by simpa using h)]
theorem gAct_no {c:Circle} {no:Int} {f:Recovery→Except Int Recovery} (h:AP c=0) (hn:no<0∨(c.recs.length:Int)≤no):CT c no f=(ET,1):=by
  unfold CT;rw [if_neg (by simp [h]),if_pos hn]
theorem LF {c:Circle} {no:Int} {f:Recovery→Except Int Recovery} {e:Int} (h:AP c=0) (h1:0≤no) (h2:no<c.recs.length) (hf:f c.recs[no.toNat]! = .error e):CT c no f=(ET,e):=by
  unfold CT;rw [if_neg (by simp [h]),if_neg (by omega),hf]
theorem gAct_ok {c:Circle} {no:Int} {f:Recovery→Except Int Recovery} {r:Recovery} (h:AP c=0) (h1:0≤no) (h2:no<c.recs.length) (hf:f c.recs[no.toNat]! = .ok r):CT c no f=(⟨c.epoch,c.threshold,c.wait,c.guardians,c.recs.set no.toNat r⟩,0):=by
  unfold CT;rw [if_neg (by simp [h]),if_neg (by omega),hf]
theorem fin_bad {c:Circle} {no:Int} {day:Int} (h:AP c≠0):CT c no (CF c day)=(ET,AP c):=gAct_bad h
theorem fin_no {c:Circle} {no:Int} {day:Int} (h:AP c=0) (hn:no<0∨(c.recs.length:Int)≤no):CT c no (CF c day)=(ET,1):=gAct_no h hn
theorem app_bad {c:Circle} {no:Int} {g:Int} (h:AP c≠0):CT c no (BV c g)=(ET,AP c):=gAct_bad h
theorem app_no {c:Circle} {no:Int} {g:Int} (h:AP c=0) (hn:no<0∨(c.recs.length:Int)≤no):CT c no (BV c g)=(ET,1):=gAct_no h hn
theorem fin_dead {c:Circle} {no day:Int} (hok:AP c=0) (h1:0≤no) (h2:no<c.recs.length) (hs:c.recs[no.toNat]!.state=2):CT c no (CF c day)=(ET,452):=
  LF hok h1 h2 (by revert hs;generalize c.recs[no.toNat]! = r;intro hs;simp [CF,hs])
theorem fin_done {c:Circle} {no day:Int} (hok:AP c=0) (h1:0≤no) (h2:no<c.recs.length) (hs:c.recs[no.toNat]!.state=1):CT c no (CF c day)=(ET,1):=
  LF hok h1 h2 (by revert hs;generalize c.recs[no.toNat]! = r;intro hs;simp [CF,hs])
theorem fin_day {c:Circle} {no day:Int} (hok:AP c=0) (h1:0≤no) (h2:no<c.recs.length) (hs:c.recs[no.toNat]!.state=0) (hd:DC day 0=false):CT c no (CF c day)=(ET,1):=
  LF hok h1 h2 (by revert hs hd;generalize c.recs[no.toNat]! = r;intro hs hd;simp [CF,hs,hd])
theorem fin_few {c:Circle} {no day:Int} (hok:AP c=0) (h1:0≤no) (h2:no<c.recs.length) (hs:c.recs[no.toNat]!.state=0) (hd:DC day 0=true) (ha:MK c c.recs[no.toNat]! = false):CT c no (CF c day)=(ET,450):=
  LF hok h1 h2 (by revert hs hd ha;generalize c.recs[no.toNat]! = r;intro hs hd ha;simp [CF,hs,hd,ha])
theorem fin_wait {c:Circle} {no day:Int} (hok:AP c=0) (h1:0≤no) (h2:no<c.recs.length) (hs:c.recs[no.toNat]!.state=0) (hd:DC day 0=true) (ha:MK c c.recs[no.toNat]! = true) (hw:day<c.recs[no.toNat]!.asked+c.wait):CT c no (CF c day)=(ET,451):=
  LF hok h1 h2 (by revert hs hd ha hw;generalize c.recs[no.toNat]! = r;intro hs hd ha hw;simp [CF,hs,hd,ha];omega)
theorem fin_open {c:Circle} {no day:Int} (hok:AP c=0) (h1:0≤no) (h2:no<c.recs.length) (hs:c.recs[no.toNat]!.state=0) (hd:DC day 0=true) (ha:MK c c.recs[no.toNat]! = true) (hw:c.recs[no.toNat]!.asked+c.wait≤day):CT c no (CF c day)=(⟨c.epoch,c.threshold,c.wait,c.guardians,c.recs.set no.toNat ⟨c.recs[no.toNat]!.no,c.recs[no.toNat]!.asked,1,c.recs[no.toNat]!.approved,c.recs[no.toNat]!.vetoed⟩⟩,0):=
  gAct_ok hok h1 h2 (by revert hs hd ha hw;generalize c.recs[no.toNat]! = r;intro hs hd ha hw;simp [CF,hs,hd,ha];omega)
theorem app_dead {c:Circle} {no g:Int} (hok:AP c=0) (h1:0≤no) (h2:no<c.recs.length) (hs:c.recs[no.toNat]!.state=2):CT c no (BV c g)=(ET,452):=
  LF hok h1 h2 (by revert hs;generalize c.recs[no.toNat]! = r;intro hs;simp [BV,hs])
theorem app_done {c:Circle} {no g:Int} (hok:AP c=0) (h1:0≤no) (h2:no<c.recs.length) (hs:c.recs[no.toNat]!.state=1):CT c no (BV c g)=(ET,1):=
  LF hok h1 h2 (by revert hs;generalize c.recs[no.toNat]! = r;intro hs;simp [BV,hs])
theorem app_not {c:Circle} {no g:Int} (hok:AP c=0) (h1:0≤no) (h2:no<c.recs.length) (hs:c.recs[no.toNat]!.state=0) (hg:c.guardians.contains g=false):CT c no (BV c g)=(ET,450):=
  LF hok h1 h2 (by revert hs hg;generalize c.recs[no.toNat]! = r;intro hs hg;simp only [BV,hs,hg];simp [hs,hg])
theorem app_had {c:Circle} {no g:Int} (hok:AP c=0) (h1:0≤no) (h2:no<c.recs.length) (hs:c.recs[no.toNat]!.state=0) (hg:c.guardians.contains g=true) (hb:XL c.recs[no.toNat]!.approved g=true):CT c no (BV c g)=(⟨c.epoch,c.threshold,c.wait,c.guardians,c.recs.set no.toNat c.recs[no.toNat]!⟩,0):=
  gAct_ok hok h1 h2 (by revert hs hg hb;generalize c.recs[no.toNat]! = r;intro hs hg hb;simp only [BV,hs,hg,hb];simp [hs,hg,hb])
theorem UO {c:Circle} {no g:Int} (hok:AP c=0) (h1:0≤no) (h2:no<c.recs.length) (hs:c.recs[no.toNat]!.state=0) (hg:c.guardians.contains g=true) (hb:XL c.recs[no.toNat]!.approved g=false):CT c no (BV c g)=(⟨c.epoch,c.threshold,c.wait,c.guardians,c.recs.set no.toNat ⟨c.recs[no.toNat]!.no,c.recs[no.toNat]!.asked,c.recs[no.toNat]!.state,putIn c.recs[no.toNat]!.approved g,c.recs[no.toNat]!.vetoed⟩⟩,0):=
  gAct_ok hok h1 h2 (by revert hs hg hb;generalize c.recs[no.toNat]! = r;intro hs hg hb;simp only [BV,hs,hg,hb];simp [hs,hg,hb])
theorem SN {l:List Recovery} {k:Nat}:EE l k=false↔l[k]!.no=(k:Int)∧DC l[k]!.asked (HZ l k)=true∧GI l[k]! = true∧(l[k]!.state≠0∨(l.length:Int) - 1≤(k:Int)):=by
  simp only [EE,dbs]
  constructor
  · rintro ⟨⟨⟨h1,h2⟩,h3⟩,h4⟩;exact ⟨by omega,by simpa using h2,by simpa using h3,by omega⟩
  · rintro ⟨h1,h2,h3,h4⟩;exact ⟨⟨⟨by omega,by simpa using h2⟩,by simpa using h3⟩,by omega⟩
theorem FC {d f:Int}:DC d f=true↔f≤d∧d<1024:=by simp [DC]
theorem asked_ge {l:List Recovery} {n:Nat} (h:∀ k,k<n→EE l k=false):∀ k,k<n→0≤l[k]!.asked:=by
  intro k hk
  induction k with
  | zero=>
    have:=(FC.1 (SN.1 (h 0 hk)).2.1).1
    simpa [HZ] using this
  | succ k ih=>
    have h1:=(FC.1 (SN.1 (h (k+1) hk)).2.1).1
    simp only [HZ,Nat.add_one_ne_zero,if_false,Nat.add_sub_cancel] at h1
    have:=ih (by omega)
    omega
theorem act_bounds {c:Circle} (h:AP c=0) {no:Int} (h1:0≤no) (h2:no<c.recs.length):0≤c.recs[no.toNat]!.asked∧c.recs[no.toNat]!.asked<1024∧0≤c.wait∧c.wait<1024:=by
  have hh:=(LV c).1 h
  have ha:=asked_ge hh.2 no.toNat (by omega)
  have hd:=(FC.1 (SN.1 (hh.2 no.toNat (by omega))).2.1).2
  have hw:=hh.1
  simp only [DT,dbs] at hw
  have:=FC.1 (show DC c.wait 0=true by simpa using hw.1.2)
  omega
def GU (x a b:Int):Bool:=decide (a≤x) && decide (x≤b)
theorem SP {x a b:Int}:GU x a b=true↔a≤x∧x≤b:=by simp [GU]
theorem inM_f {x a b:Int}:GU x a b=false↔x<a∨b<x:=by
  rw [← Bool.not_eq_true,SP];omega
theorem VC {p:Nat→Prop} {k:Nat} (h:∀ q,q<k→p q) (hk:p k):∀ q,q<k+1→p q:=fun q hq=>by
  by_cases e:q=k
  · subst e;exact hk
  · exact h q (by omega)
section
variable {l:List Int} {k:Nat}
theorem ris_ok1 (hq:∀ q,q<k→IN l q=false) (hi:GU l[k]! 0 4095=true) (h0:(k:Int)≤0):∀ q,q<k+1→IN l q=false:=
  VC hq (by have:=SP.1 hi;have e:k=0:=(by omega);subst e;rw [PV];simp only [KQ,if_true];omega)
theorem ris_ok2 (hq:∀ q,q<k→IN l q=false) (hi:GU l[k]! 0 4095=true) (h1:l[k - 1]! < l[k]!) (h0:0<(k:Int)):∀ q,q<k+1→IN l q=false:=
  VC hq (by have:=SP.1 hi;rw [PV];simp only [KQ];rw [if_neg (by omega)];omega)
theorem ris_no1 (hk:k<l.length) (hi:GU l[k]! 0 4095=false):FR l=false:=by
  cases he:FR l with
  | false=>rfl
  | true=>have:=SX he k hk;have:=inM_f.1 hi;omega
theorem ris_no2 (hk:k<l.length) (h1:l[k]!≤l[k - 1]!) (h0:0<(k:Int)):FR l=false:=by
  cases he:FR l with
  | false=>rfl
  | true=>have:=OJ he (k - 1) k (by omega) hk;omega
theorem ris_all (hk:∀ q,q<l.length→IN l q=false):FR l=true:=(UJ l).2 hk
end
def DD (c:Circle) (i:Nat):Bool:=
  if (((c.recs[i]!.no != (i:Int) || !GU c.recs[i]!.asked 0 1023) || (decide (0<(i:Int)) && decide (c.recs[i]!.asked<c.recs[i - 1]!.asked))) || !GU c.recs[i]!.state 0 2) || !FR c.recs[i]!.approved then false
  else if c.recs[i]!.state == 2 then ((c.recs[i]!.vetoed.length:Int) == 1) && GU c.recs[i]!.vetoed[0]! c.recs[i]!.asked 1023
  else ((c.recs[i]!.vetoed.length:Int) == 0) && (c.recs[i]!.state == 1 || (i:Int) == (c.recs.length:Int) - 1)
theorem XA {c:Circle} {k:Nat} (hq:∀ q,q<k→EE c.recs q=false) (hk:k<c.recs.length):DD c k = !EE c.recs k:=by
  have hb:EE c.recs k=false↔DD c k=true:=by
    rw [SN]
    have ha:HZ c.recs k=if k=0 then 0 else c.recs[k - 1]!.asked:=rfl
    have hp:k≠0→0≤c.recs[k - 1]!.asked:=fun h0=>asked_ge hq (k - 1) (by omega)
    unfold DD GI
    rw [FC]
    generalize hr:c.recs[k]! = r at *
    generalize hA:FR r.approved=A at *
    cases A with
    | false=>simp
    | true=>
      by_cases hno:r.no=(k:Int)
      · by_cases h2:r.state=2
        · rw [h2]
          simp only [dbs,FC,SP,hno]
          by_cases h0:k=0
          · subst h0;rw [if_pos rfl] at ha;rw [ha]
            constructor
            · rintro ⟨_,h1,h3,_⟩;split at h3 <;> simp_all [FC,GU] <;> omega
            · intro h;split at h <;> simp_all [FC,GU] <;> omega
          · rw [if_neg h0] at ha;rw [ha];have:=hp h0
            constructor
            · rintro ⟨_,h1,h3,_⟩;split at h3 <;> simp_all [FC,GU] <;> omega
            · intro h;split at h <;> simp_all [FC,GU] <;> omega
        · have h2':(r.state == 2)=false:=by simpa using h2
          rw [h2']
          simp only [dbs,FC,SP,hno]
          by_cases h0:k=0
          · subst h0;rw [if_pos rfl] at ha;rw [ha]
            constructor
            · rintro ⟨_,h1,h3,h4⟩;split at h3 <;> simp_all [FC,GU] <;> omega
            · intro h;split at h <;> simp_all [FC,GU] <;> omega
          · rw [if_neg h0] at ha;rw [ha];have:=hp h0
            constructor
            · rintro ⟨_,h1,h3,h4⟩;split at h3 <;> simp_all [FC,GU] <;> omega
            · intro h;split at h <;> simp_all [FC,GU] <;> omega
      · simp [hno]
  cases h1:EE c.recs k <;> cases h2:DD c k <;> simp_all
open Go.Fw Go.RowKit
set_option maxHeartbeats 4000000 in
set_option maxRecDepth 100000 in
theorem c_isNaN {O:List Nat} (x:Int) (w:World) (hO:∀ b∈O,b<w.heap.size):CA Tryz.prog 109 [vI x] w (fun v _=>v = .bool (false)):= by
 have s0:St w O w []:=St.start hO
 refine BE 6 Tryz.func109 rfl rfl oT (fun F0=>AF (AC kR (AA (AD (vO false) rfl (AG (AB (AF (AC kR (AA (AE (vI x) rfl (AA (AE (vI x) rfl (AA (CM .i64 x x rfl rfl (AA (AD (vO (x != x)) rfl (AG (AB (AM (AS rfl (BZ rfl rfl rfl) (?_)))))))))))))))))))))
 have e:false=(x != x):=by simp
 exact ⟨_,rfl,s0.keep,(by exact congrArg vO e.symm)⟩
set_option maxHeartbeats 4000000 in
set_option maxRecDepth 100000 in
theorem c_isNaN2 {O:List Nat} (x:Int) (w:World) (hO:∀ b∈O,b<w.heap.size):CA Tryz.prog 102 [vI x] w (fun v _=>v = .bool (false)):= by
 have s0:St w O w []:=St.start hO
 refine BE 6 Tryz.func102 rfl rfl oT (fun F0=>AF (AC kR (AA (AD (vO false) rfl (AG (AB (AF (AC kR (AA (AE (vI x) rfl (AA (AE (vI x) rfl (AA (CM .i64 x x rfl rfl (AA (AD (vO (x != x)) rfl (AG (AB (AM (AS rfl (BZ rfl rfl rfl) (?_)))))))))))))))))))))
 have e:false=(x != x):=by simp
 exact ⟨_,rfl,s0.keep,(by exact congrArg vO e.symm)⟩
set_option maxHeartbeats 4000000 in
set_option maxRecDepth 100000 in
theorem c_less {O:List Nat} (x:Int) (y:Int) (w:World) (hO:∀ b∈O,b<w.heap.size):CA Tryz.prog 101 [vI x,vI y] w (fun v _=>v = .bool (decide (x<y))):= by
 have s0:St w O w []:=St.start hO
 refine BE 17 Tryz.func101 rfl rfl oT (fun F0=>AF (AC kR (AA (AD (vO false) rfl (AG (AB (AF (AC kR (AA (AE (vI x) rfl (AA (AZ (vs:=[vI x]) enter_109 (c_isNaN (O:=[]++O) x w s0.lt) rfl s0 fun a2 a3 a0 a4 a5 a1=>(?_)))))))))))))
 obtain rfl:=a1
 refine AA (AE (vO false) rfl (AL rfl (AL rfl (AL rfl (AA (BA (vO false) rfl rfl (AA (AE (vO false) rfl (AW rfl (AE (vI x) rfl (AW rfl (AE (vI y) rfl (AW rfl (DQ .i64 x y rfl rfl (AA (BA (vO (decide (x<y))) rfl rfl (AA (AD (vO (decide (x<y))) rfl (AG (AB (AM (AS rfl (BZ rfl rfl rfl) (?_)))))))))))))))))))))))
 exact ⟨_,rfl,a0.keep,rfl⟩
set_option maxHeartbeats 4000000 in
set_option maxRecDepth 100000 in
theorem c_bs {O:List Nat} (l_v:Value) (l:List Int) (x:Int) (w:World) (a0:BB Enc.int w O l_v l) (hpre0:∀ p q,p<q→q<l.length→l[p]! < l[q]!) (hpre1:l.length≤4611686018427387903) (hO:∀ b∈O,b<w.heap.size):CA Tryz.prog 86 [l_v,vI x] w (fun v _=>v = .tuple #[vI ((tw l x:Nat):Int), .bool (XL l x)]):= by
 have d0:=a0.len_le
 have a0:BB Enc.int w ([]++O) l_v l:=a0
 have s0:St w O w []:=St.start hO
 refine BE 54 Tryz.func86 rfl rfl oT (fun F0=>AF (AC kR (AA (AD (vI 0) rfl (AA (AD (vO false) rfl (AG (AB (AF (AC kR (AA (AE (l_v) rfl (AA (BP U22_ rfl a0 (AA (AD (vI (l.length:Int)) rfl (AG (AB (AF (AC kR (AA (AE (vI (l.length:Int)) rfl (AA (AD (vI 0) rfl (AA (AD (vI (l.length:Int)) rfl (AG (AB (AF (BD (DB (fun mI FI wI=>∃ (lo:Nat) (hi:Nat) (B:List Nat),lo≤hi∧hi≤l.length∧(∀ q,q<lo→l[q]! < x)∧(∀ q,hi≤q→q<l.length→x≤l[q]!)∧mI=hi - lo∧(∃ F1,FI=GD F1 [(0,l_v),(1,vI x),(6,vI (l.length:Int)),(7,vI ((lo:Nat):Int)),(8,vI ((hi:Nat):Int)),(54,undef)])∧St w O wI B∧BB Enc.int wI (B++O) (l_v) (l)) ((l.length) - (0)) ?_ ?_)))))))))))))))))))))))))))))))
 ·exact ⟨(0),(l.length),[],oM,oM,(fun q hq=>by omega),(fun q h1 h2=>by omega),rfl,⟨_,AX _ ⟨rfl,rfl,rfl,(by rfl),(by rfl),rfl,trivial⟩⟩,s0,a0⟩
 intro e1 F c1 hI
 clear a0
 obtain ⟨lo,hi,a6,hr0_0,hr0_1,hr0_2,hr0_3,e2,⟨e3,rfl⟩,a3,a0⟩:=hI
 refine AF (AF (AC kR (AA (AE (vI ((lo:Nat):Int)) rfl (AA (AE (vI ((hi:Nat):Int)) rfl (AA (DQ .i64 ((lo:Nat):Int) ((hi:Nat):Int) rfl rfl (AG (AB (AJ (decide (((lo:Nat):Int)<((hi:Nat):Int))) rfl rfl (fun a1=>?_) (fun a1=>?_))))))))))))
 ·have c2:((lo:Nat):Int)<((hi:Nat):Int):=by simpa using a1
  refine AR (AB (BD (AF (AC kR (AA (AE (vI ((lo:Nat):Int)) rfl (AA (AE (vI ((hi:Nat):Int)) rfl (AA (DF .i64 ((lo:Nat):Int) ((hi:Nat):Int) (((lo+hi:Nat):Int)) rfl rfl (GA oM oM) (AA (WJ .i64 .u64 U3_ U115_ ((lo+hi:Nat):Int) (((lo+hi):Nat):Int) rfl (wrap_u64 oM) (AA (o_shrU .u64 (lo+hi) 1 oM rfl rfl (AA (WJ .u64 .i64 U115_ U3_ (((lo+hi) / 2 ^ 1:Nat):Int) ((((lo+hi) / 2 ^ 1):Nat):Int) rfl (GA oM rfl) (AA (AD (vI (((lo+hi) / 2 ^ 1:Nat):Int)) rfl (AG (AB (AF (AC kR (AA (AE (l_v) rfl (AA (AE (vI (((lo+hi) / 2 ^ 1:Nat):Int)) rfl (AA (CR U22_ MS .i64 (((lo+hi) / 2 ^ 1:Nat):Int) ((lo+hi) / 2 ^ 1) rfl rfl rfl a0 oM fun d1 a8=>(AA (BK U3_ rfl rfl a8 (AA (AE (vI x) rfl (AA (AZ (vs:=[vI (l[(lo+hi) / 2 ^ 1]!),vI x]) enter_101 (c_less (O:=a6++O) (l[(lo+hi) / 2 ^ 1]!) x c1 a3.lt) rfl a3 fun d2 d3 a7 b1 d4 b2=>(?_)))))))))))))))))))))))))))))))))))
  obtain rfl:=b2
  have a0:=a0.mv b1
  refine AG (AB (AJ (decide (l[(lo+hi) / 2 ^ 1]! < x)) rfl rfl (fun a2=>?_) (fun a2=>?_)))
  ·have c3:l[(lo+hi) / 2 ^ 1]! < x:=by simpa using a2
   refine AC kR (AA (AE (vI (((lo+hi) / 2 ^ 1:Nat):Int)) rfl (AA (DF .i64 (((lo+hi) / 2 ^ 1:Nat):Int) (1:Int) ((((lo+hi) / 2 ^ 1+1:Nat):Int)) rfl rfl (GA oM oM) (AA (AD (vI (((lo+hi) / 2 ^ 1+1:Nat):Int)) rfl (AG (CB (AB (?_))))))))))
   exact ⟨_,oM,((lo+hi) / 2 ^ 1+1),(hi),a6,oM,oM,(by exact bs_lo hpre0 aS oM),(by exact hr0_3),rfl,⟨_,AX _ ⟨rfl,rfl,rfl,(by rfl),(by rfl),rfl,trivial⟩⟩,a7,a0⟩
  have c4:x≤l[(lo+hi) / 2 ^ 1]!:=by simpa using a2
  refine AC kR (AA (AE (vI (((lo+hi) / 2 ^ 1:Nat):Int)) rfl (AA (AD (vI (((lo+hi) / 2 ^ 1:Nat):Int)) rfl (AG (CB (AB (?_))))))))
  exact ⟨_,oM,(lo),((lo+hi) / 2 ^ 1),a6,oM,oM,(by exact hr0_2),(by exact bs_hi hpre0 aS),rfl,⟨_,AX _ ⟨rfl,rfl,rfl,(by rfl),(by rfl),rfl,trivial⟩⟩,a7,a0⟩
 have c5:((hi:Nat):Int)≤((lo:Nat):Int):=by simpa using a1
 obtain rfl:lo=hi:=by omega
 have htw:tw l x=lo:=tw_eq oM hr0_2 (fun h=>hr0_3 lo oM h)
 refine DA (BN (BN (CO (AB (AF (AC kR (AA (AE (vI ((lo:Nat):Int)) rfl (AA (AE (vI ((lo:Nat):Int)) rfl (AA (AE (vI (l.length:Int)) rfl (AA (DQ .i64 ((lo:Nat):Int) (l.length:Int) rfl rfl (AA (AE (vO (decide (((lo:Nat):Int)<(l.length:Int)))) rfl (?_)))))))))))))))))
 cases a4:(decide (((lo:Nat):Int)<(l.length:Int)))
 ·have c6:(l.length:Int)≤((lo:Nat):Int):=by simpa using a4
  refine AL rfl (AL rfl (AL rfl (AL rfl (AL rfl (AL rfl (AL rfl (HH rfl (HH rfl (HH rfl (HH rfl (HH rfl (HH rfl (HH rfl (HH rfl (HH rfl (AL rfl (AA (BA (vO false) rfl rfl (AA (AD (vI ((lo:Nat):Int)) rfl (AA (AD (vO false) rfl (AG (AB (AM (AS rfl (EJ rfl rfl rfl rfl) (?_)))))))))))))))))))))))))))
  have b3:(tw l x)=lo:=by exact htw
  have b4:(XL l x)=false:=by exact bsF_1 htw oM
  exact ⟨_,rfl,a3.keep,by rw [b3,b4];exact rfl⟩
 have c7:((lo:Nat):Int)<(l.length:Int):=by simpa using a4
 refine AW rfl (AE (l_v) rfl (AW rfl (AE (vI ((lo:Nat):Int)) rfl (AW rfl (CR U22_ MS .i64 ((lo:Nat):Int) lo rfl rfl rfl a0 oM fun d5 a9=>(AW rfl (BK U3_ rfl rfl a9 (AW rfl (AE (vI x) rfl (AW rfl (EK .i64 (l[lo]!) x rfl rfl (AW rfl (AE (vO ((l[lo]!) == x)) rfl (?_))))))))))))))
 cases a5:((l[lo]!) == x)
 ·have c8:l[lo]!≠x:=by simpa using a5
  refine AW rfl (AE (l_v) rfl (AW rfl (AE (vI ((lo:Nat):Int)) rfl (AW rfl (CR U22_ MS .i64 ((lo:Nat):Int) lo rfl rfl rfl a0 oM fun d6 b0=>(AW rfl (BK U3_ rfl rfl b0 (AW rfl (AZ (vs:=[vI (l[lo]!)]) enter_102 (c_isNaN2 (O:=a6++O) (l[lo]!) c1 a3.lt) rfl a3 fun d7 d8 b5 d9 e0 b6=>(?_))))))))))
  obtain rfl:=b6
  refine AW rfl (AE (vO false) rfl (AL rfl (AL rfl (AW rfl (BA (vO false) rfl rfl (AW rfl (BA (vO false) rfl rfl (AA (AQ (vO false) rfl rfl (AA (AD (vI ((lo:Nat):Int)) rfl (AA (AD (vO false) rfl (AG (AB (AM (AS rfl (EJ rfl rfl rfl rfl) (?_))))))))))))))))))
  have b7:(tw l x)=lo:=by exact htw
  have b8:(XL l x)=false:=by exact bsF_2 htw aS
  exact ⟨_,rfl,b5.keep,by rw [b7,b8];exact rfl⟩
 have c9:l[lo]! = x:=by simpa using a5
 refine AL rfl (AL rfl (AL rfl (AL rfl (AL rfl (AL rfl (HH rfl (HH rfl (AL rfl (AW rfl (AQ (vO true) rfl rfl (AA (AQ (vO true) rfl rfl (AA (AD (vI ((lo:Nat):Int)) rfl (AA (AD (vO true) rfl (AG (AB (AM (AS rfl (EJ rfl rfl rfl rfl) (?_)))))))))))))))))))))
 have b9:(tw l x)=lo:=by exact htw
 have c0:(XL l x)=true:=by exact bsF_t htw oM aS
 exact ⟨_,rfl,a3.keep,by rw [b9,c0];exact rfl⟩
set_option maxHeartbeats 4000000 in
set_option maxRecDepth 100000 in
theorem c_idx {O:List Nat} (l_v:Value) (l:List Int) (x:Int) (w:World) (a2:BB Enc.int w O l_v l) (hO:∀ b∈O,b<w.heap.size):CA Tryz.prog 85 [l_v,vI x] w (fun v _=>v=vI (idxI l x)):= by
 have a8:=a2.len_le
 have a2:BB Enc.int w ([]++O) l_v l:=a2
 have s0:St w O w []:=St.start hO
 refine BE 19 Tryz.func85 rfl rfl oT (fun F0=>AF (AC kR (AA (AD (vI 0) rfl (AG (AB (AF (AF (AC kR (AA (AE (l_v) rfl (AA (BP U22_ rfl a2 (AA (AE (vI 0) rfl (AG (AB (BD (DB (fun mI FI wI=>∃ (k:Nat),k≤l.length∧idxI l x=EW (fun k=>if x == l[k]! then some (k:Int) else none) (-1) k (l.length - k)∧mI=l.length - k∧(∃ F1,FI=GD F1 [(0,l_v),(1,vI x),(7,vI (l.length:Int)),(8,vI ((k:Nat):Int)),(19,undef)])∧w=wI) (l.length - (0)) ?_ ?_)))))))))))))))))))
 ·exact ⟨(0),oM,rfl,rfl,⟨_,AX _ ⟨rfl,rfl,rfl,(by rfl),rfl,trivial⟩⟩,rfl⟩
 rintro b0 F b1 ⟨k,hr0_0,hr0_1,b2,⟨b3,rfl⟩,rfl⟩
 refine AF (AC kR (AA (DQ .i64 ((k:Nat):Int) (l.length:Int) rfl rfl (AG (AB (AF (AJ (decide (((k:Nat):Int)<(l.length:Int))) rfl rfl (fun a0=>?_) (fun a0=>?_))))))))
 ·have a4:((k:Nat):Int)<(l.length:Int):=by simpa using a0
  refine AR (AB (AF (BD (AF (AC kR (AA (AE (vI ((k:Nat):Int)) rfl (AA (AD (vI ((k:Nat):Int)) rfl (AG (AB (AF (AC kR (AA (AE (vI x) rfl (AA (AE (l_v) rfl (AA (AE (vI ((k:Nat):Int)) rfl (AA (CR U22_ MS .i64 ((k:Nat):Int) k rfl rfl rfl a2 oM fun a9 a3=>(AA (BK U3_ rfl rfl a3 (AA (EK .i64 x (l[k]!) rfl rfl (AG (AB (AJ (x == (l[k]!)) rfl rfl (fun a1=>?_) (fun a1=>?_)))))))))))))))))))))))))))))
  ·have a5:x=l[k]!:=by simpa using a1
   refine AF (AC kR (AA (AE (vI ((k:Nat):Int)) rfl (AA (AD (vI ((k:Nat):Int)) rfl (AG (AB (AM (BC (AI (AI (BC (AI (AS rfl (BZ rfl rfl rfl) (?_)))))))))))))))
   have e:(idxI l x)=((k:Nat):Int):=by (rw [hr0_1];exact CP oM (by ((repeat ((refine (if_pos ?_).trans ?_;omega)));rfl)))
   exact ⟨_,rfl,s0.keep,by rw [e];exact rfl⟩
  have a6:x≠l[k]!:=by simpa using a1
  refine AR (CB (AB (AC kR (AA (DF .i64 ((k:Nat):Int) (1:Int) (((k+1:Nat):Int)) rfl rfl (GA oM oM) (AA (AE (vI ((k+1:Nat):Int)) rfl (AG (AB (?_))))))))))
  exact ⟨_,oM,(k+1),oM,(hr0_1.trans (EP oM (by ((repeat ((refine (if_neg ?_).trans ?_;solve|(simp only [dbs];(repeat (omega))))));rfl)))),rfl,⟨_,AX _ ⟨rfl,rfl,rfl,(by rfl),rfl,trivial⟩⟩,rfl⟩
 have a7:(l.length:Int)≤((k:Nat):Int):=by simpa using a0
 refine DA (BN (BN (CO (AB (AF (AC kR (AA (AD (vI (-1:Int)) rfl (AG (AB (AM (AS rfl (BZ rfl rfl rfl) (?_)))))))))))))
 have e:(idxI l x)=(-1:Int):=by (rw [hr0_1];exact FS oM)
 exact ⟨_,rfl,s0.keep,by rw [e];exact rfl⟩
set_option maxHeartbeats 4000000 in
set_option maxRecDepth 100000 in
theorem UX {O:List Nat} (l_v:Value) (l:List Int) (x:Int) (w:World) (a0:BB Enc.int w O l_v l) (hO:∀ b∈O,b<w.heap.size):CA Tryz.prog 47 [l_v,vI x] w (fun v _=>v = .bool (l.contains x)):= by
 have a3:=a0.len_le
 have a0:BB Enc.int w ([]++O) l_v l:=a0
 have s0:St w O w []:=St.start hO
 refine BE 9 Tryz.func47 rfl rfl oT (fun F0=>AF (AC kR (AA (AD (vO false) rfl (AG (AB (AF (AC kR (AA (AE (l_v) rfl (AA (AE (vI x) rfl (AA (AZ (vs:=[l_v,vI x]) enter_85 (c_idx (O:=[]++O) l_v l x w a0 s0.lt) rfl s0 fun a4 a5 a1 a6 a7 a2=>(?_)))))))))))))))
 obtain rfl:=a2
 refine AA (JZ .i64 (idxI l x) (0:Int) rfl rfl (AA (AD (vO (decide ((0:Int)≤idxI l x))) rfl (AG (AB (AM (AS rfl (BZ rfl rfl rfl) (?_))))))))
 have e:(l.contains x)=(decide ((0:Int)≤idxI l x)):=by exact (idxI_pos _ _).symm
 exact ⟨_,rfl,a1.keep,(by exact congrArg vO e.symm)⟩
set_option maxHeartbeats 4000000 in
set_option maxRecDepth 100000 in
theorem QK {O:List Nat} (day:Int) (frm:Int) (w:World) (hO:∀ b∈O,b<w.heap.size):CA Tryz.prog 38 [vI day,vI frm] w (fun v _=>v = .bool (DC day frm)):= by
 have s0:St w O w []:=St.start hO
 refine BE 12 Tryz.func38 rfl rfl oT (fun F0=>AF (AC kR (AA (AD (vO false) rfl (AG (AB (AF (AC kR (AA (AE (vI day) rfl (AA (AE (vI frm) rfl (AA (JZ .i64 day frm rfl rfl (AA (AE (vO (decide (frm≤day))) rfl (?_)))))))))))))))))
 cases a0:(decide (frm≤day))
 ·have a1:day<frm:=by simpa using a0
  refine AL rfl (AL rfl (AA (BA (vO false) rfl rfl (AA (AD (vO false) rfl (AG (AB (AM (AS rfl (BZ rfl rfl rfl) (?_))))))))))
  have e:(DC day frm)=false:=by simp [DC, *]
  exact ⟨_,rfl,s0.keep,(by exact congrArg vO e.symm)⟩
 have a2:frm≤day:=by simpa using a0
 refine AW rfl (AE (vI day) rfl (AW rfl (DQ .i64 day (1024:Int) rfl rfl (AA (AQ (vO (decide (day<(1024:Int)))) rfl rfl (AA (AD (vO (decide (day<(1024:Int)))) rfl (AG (AB (AM (AS rfl (BZ rfl rfl rfl) (?_))))))))))))
 have e:(DC day frm)=(decide (day<(1024:Int))):=by simp [DC, *]
 exact ⟨_,rfl,s0.keep,(by exact congrArg vO e.symm)⟩
set_option maxHeartbeats 4000000 in
set_option maxRecDepth 100000 in
theorem c_incr {O:List Nat} (l_v:Value) (l:List Int) (w:World) (a2:BB Enc.int w O l_v l) (hO:∀ b∈O,b<w.heap.size):CA Tryz.prog 82 [l_v] w (fun v _=>v = .bool (FR l)):= by
 have b1:=a2.len_le
 have a2:BB Enc.int w ([]++O) l_v l:=a2
 have s0:St w O w []:=St.start hO
 refine BE 21 Tryz.func82 rfl rfl oT (fun F0=>AF (AC kR (AA (AD (vO false) rfl (AG (AB (AF (AC kR (AA (AD (vI (-1:Int)) rfl (AG (AB (AF (AF (AC kR (AA (AE (l_v) rfl (AA (BP U22_ rfl a2 (AA (AE (vI 0) rfl (AG (AB (BD (DB (fun mI FI wI=>∃ (k:Nat),k≤l.length∧FR l=EW (fun k=>if IN l k then some false else none) true k (l.length - k)∧mI=l.length - k∧(∃ F1,FI=GD F1 [(3,vI (KQ l k)),(6,l_v),(7,vI (l.length:Int)),(8,vI ((k:Nat):Int)),(21,undef)])∧w=wI) (l.length - (0)) ?_ ?_)))))))))))))))))))))))))
 ·exact ⟨(0),oM,(by unfold FR;((repeat (first|(refine (if_pos ?_).trans ?_;solve|omega|assumption|(simp only [IN,dbs];first|done|(repeat (first|omega|assumption|(right;first|omega|assumption|(constructor <;> first|omega|assumption))|left)))|(rw [Bool.not_eq_true];simp only [IN,dbs];first|done|omega|assumption|((repeat' apply And.intro) <;> first|omega|assumption))|(simp only [*,dbs];done))|(refine (if_neg ?_).trans ?_;solve|omega|assumption|(simp only [IN,dbs];first|done|(repeat (first|omega|assumption|(right;first|omega|assumption|(constructor <;> first|omega|assumption))|left)))|(rw [Bool.not_eq_true];simp only [IN,dbs];first|done|omega|assumption|((repeat' apply And.intro) <;> first|omega|assumption))|(simp only [*,dbs];done))));rfl)),rfl,⟨_,AX _ ⟨(by rfl),rfl,rfl,(by rfl),rfl,trivial⟩⟩,rfl⟩
 rintro b3 F b4 ⟨k,hr0_0,hr0_1,b5,⟨b6,rfl⟩,rfl⟩
 refine AF (AC kR (AA (DQ .i64 ((k:Nat):Int) (l.length:Int) rfl rfl (AG (AB (AF (AJ (decide (((k:Nat):Int)<(l.length:Int))) rfl rfl (fun a0=>?_) (fun a0=>?_))))))))
 ·have a5:((k:Nat):Int)<(l.length:Int):=by simpa using a0
  refine AR (AB (AF (BD (AF (AC kR (AA (CR U22_ MS .i64 ((k:Nat):Int) k rfl rfl rfl a2 oM fun b2 a4=>(AA (BK U3_ rfl rfl a4 (AA (AD (vI (l[k]!)) rfl (AG (AB (AF (AF (AC kR (AA (AE (vI (l[k]!)) rfl (AA (AE (vI (KQ l k)) rfl (AA (UA .i64 (l[k]!) (KQ l k) rfl rfl (AA (AE (vO (decide (l[k]!≤KQ l k))) rfl (?_)))))))))))))))))))))))))
  cases a3:(decide (l[k]!≤KQ l k))
  ·have a6:KQ l k<l[k]!:=by simpa using a3
   refine AW rfl (AE (vI (l[k]!)) rfl (AW rfl (JZ .i64 (l[k]!) (4096:Int) rfl rfl (AA (BA (vO (decide ((4096:Int)≤l[k]!))) rfl rfl (AG (AB (AJ (decide ((4096:Int)≤l[k]!)) rfl rfl (fun a1=>?_) (fun a1=>?_)))))))))
   ·have a7:(4096:Int)≤l[k]!:=by simpa using a1
    refine AF (AC kR (AA (AD (vO false) rfl (AG (AB (AM (AI (BC (AI (AI (BC (AI (AS rfl (BZ rfl rfl rfl) (?_))))))))))))))
    have e:(FR l)=false:=by (rw [hr0_1];exact CP oM (by ((repeat ((refine (if_pos ?_).trans ?_;solve|(simp only [IN,dbs];(repeat (omega))))));rfl)))
    exact ⟨_,rfl,s0.keep,(by exact congrArg vO e.symm)⟩
   have a8:l[k]! < (4096:Int):=by simpa using a1
   refine AR (AB (AC kR (AA (AE (vI (l[k]!)) rfl (AA (AD (vI (l[k]!)) rfl (AG (CB (AB (AC kR (AA (DF .i64 ((k:Nat):Int) (1:Int) (((k+1:Nat):Int)) rfl rfl (GA oM oM) (AA (AE (vI ((k+1:Nat):Int)) rfl (AG (AB (?_)))))))))))))))))
   exact ⟨_,oM,(k+1),oM,(hr0_1.trans (EP oM (by ((repeat ((refine (if_neg ?_).trans ?_;solve|(simp only [IN,dbs];(repeat (omega))))));rfl)))),rfl,⟨_,AX _ ⟨(by rfl),rfl,rfl,(by rfl),rfl,trivial⟩⟩,rfl⟩
  have a9:l[k]!≤KQ l k:=by simpa using a3
  refine AL rfl (AL rfl (AA (AQ (vO true) rfl rfl (AG (AB (AJ true rfl rfl (fun _=>AF (AC kR (AA (AD (vO false) rfl (AG (AB (AM (AI (BC (AI (AI (BC (AI (AS rfl (BZ rfl rfl rfl) (?_))))))))))))))) (fun h=>by cases h)))))))
  have e:(FR l)=false:=by (rw [hr0_1];exact CP oM (by ((repeat ((refine (if_pos ?_).trans ?_;solve|(simp only [IN,dbs];(repeat (omega))))));rfl)))
  exact ⟨_,rfl,s0.keep,(by exact congrArg vO e.symm)⟩
 have b0:(l.length:Int)≤((k:Nat):Int):=by simpa using a0
 refine DA (BN (BN (CO (AB (AF (AC kR (AA (AD (vO true) rfl (AG (AB (AM (AS rfl (BZ rfl rfl rfl) (?_)))))))))))))
 have e:(FR l)=true:=by (rw [hr0_1];exact FS oM)
 exact ⟨_,rfl,s0.keep,(by exact congrArg vO e.symm)⟩
set_option maxHeartbeats 4000000 in
set_option maxRecDepth 100000 in
theorem c_recOK {O:List Nat} (r_cs:List Value) (r:Recovery) (w:World) (b6:Enc.recovery.rd w O r_cs r) (hO:∀ b∈O,b<w.heap.size):CA Tryz.prog 83 [.agg r_cs.toArray] w (fun v _=>v = .bool (GI r)):= by
 have b6:Enc.recovery.rd w ([]++O) r_cs r:=b6
 have s0:St w O w []:=St.start hO
 refine BE 37 Tryz.func83 rfl rfl oT (fun F0=>AF (AC kR (AA (DR (E:=Enc.recovery) (vA r_cs.toArray) (r_cs) r rfl rfl b6 s0 fun e3 c6 a1 e4 e5 a0=>(AA (AD (vO false) rfl (AG (AB (AF (AF (AC kR (AA (AY 2 HN (r.state) rfl a0 (fun _ _ _ h=>GZ h) fun e6 b7=>(AA (BK U3_ rfl rfl b7 (AA (DQ .i64 r.state (0:Int) rfl rfl (AA (AE (vO (decide (r.state<(0:Int)))) rfl (?_))))))))))))))))))))
 cases a6:(decide (r.state<(0:Int)))
 ·have d3:(0:Int)≤r.state:=by simpa using a6
  refine AW rfl (AY 2 HN (r.state) rfl a0 (fun _ _ _ h=>GZ h) fun e7 b8=>(AW rfl (BK U3_ rfl rfl b8 (AW rfl (FN .i64 r.state (2:Int) rfl rfl (AA (BA (vO (decide ((2:Int)<r.state))) rfl rfl (AA (AE (vO (decide ((2:Int)<r.state))) rfl (?_))))))))))
  cases a7:(decide ((2:Int)<r.state))
  ·have d4:r.state≤(2:Int):=by simpa using a7
   refine AW rfl (AY 3 MA (r.approved) rfl a0 (fun _ _ _ h=>LL h) fun e8 b9=>(AW rfl (BL U22_ rfl rfl b9 fun b3 a8=>(?_))))
   have:=a8.len_le
   refine AW rfl (AZ (vs:=[b3]) enter_82 (c_incr (O:=[]++O) b3 r.approved c6 a8 a1.lt) rfl a1 fun e9 c7 a4 c8 f0 c9=>(?_))
   obtain rfl:=c9
   have a0:=a0.mv c8
   refine AW rfl (EU (FR r.approved) rfl (AA (BA (vO (!(FR r.approved))) rfl rfl (AG (AB (AJ (!(FR r.approved)) rfl rfl (fun a2=>?_) (fun a2=>?_)))))))
   ·have d5:(FR r.approved)=false:=by simpa using a2
    refine AF (AC kR (AA (AD (vO false) rfl (AG (AB (AM (AI (AS rfl (BZ rfl rfl rfl) (?_)))))))))
    have e:(GI r)=false:=by (unfold GI;((repeat ((refine (if_pos ?_).trans ?_;solve|(simp only [dbs];(repeat ((right;omega)))))));rfl))
    exact ⟨_,rfl,a4.keep,(by exact congrArg vO e.symm)⟩
   have d6:(FR r.approved)=true:=by simpa using a2
   refine AR (AB (AF (AF (AC kR (AA (AY 2 HN (r.state) rfl a0 (fun _ _ _ h=>GZ h) fun f1 c0=>(AA (BK U3_ rfl rfl c0 (AA (EK .i64 r.state (2:Int) rfl rfl (AG (AB (AJ (r.state == (2:Int)) rfl rfl (fun a3=>?_) (fun a3=>?_))))))))))))))
   ·have d7:r.state=(2:Int):=by simpa using a3
    refine AF (FK 11 _ _ kR kR kR kR kR rfl rfl fun b4 b5=>?_)
    have a5:=a4.call b5
    have d0:Mv ([]) c7 ([]) b4:=Mv.of_keep b5
    have a0:=a0.mv d0
    refine BU (AY 4 LK (r.vetoed) rfl a0 (fun _ _ _ h=>JJ h) fun f2 c1=>(BU (BL U22_ rfl rfl c1 fun f3 a9=>(?_))))
    have:=a9.len_le
    refine BU (BP U22_ rfl a9 (BU (EK .i64 (r.vetoed.length:Int) (1:Int) rfl rfl (BU (AE (vO ((r.vetoed.length:Int) == (1:Int))) rfl (?_))))))
    cases b0:((r.vetoed.length:Int) == (1:Int))
    ·have d8:(r.vetoed.length:Int)≠(1:Int):=by simpa using b0
     refine CK rfl (CK rfl (CK rfl (CK rfl (CK rfl (CK rfl (EO (AL rfl (AA (BA (vO false) rfl rfl (AA (AD (vO false) rfl (AG (AB (AM (AI (AS rfl (BZ rfl rfl rfl) (?_)))))))))))))))))
     have e:(GI r)=false:=by (simp_all [GI];done)
     exact ⟨_,rfl,a5.keep,(by exact congrArg vO e.symm)⟩
    have d9:(r.vetoed.length:Int)=(1:Int):=by simpa using b0
    refine DW rfl (AY 4 LK (r.vetoed) rfl a0 (fun _ _ _ h=>JJ h) fun f4 c2=>(DW rfl (BL U22_ rfl rfl c2 fun f5 b1=>(?_))))
    have:=b1.len_le
    refine DW rfl (CR U22_ MS .i64 (0:Int) 0 rfl rfl rfl b1 oM fun f6 c3=>(DW rfl (BK U3_ rfl rfl c3 (DW rfl (AY 1 JD (r.asked) rfl a0 (fun _ _ _ h=>OS h) fun f7 c4=>(DW rfl (BK U3_ rfl rfl c4 (EO (AW rfl (AZ (vs:=[vI (r.vetoed[0]!),vI r.asked]) NO (QK (O:=[]++O) (r.vetoed[0]!) r.asked b4 a5.lt) rfl a5 fun f8 f9 d1 g0 g1 d2=>(?_)))))))))))
    obtain rfl:=d2
    refine AA (AQ (vO (DC (r.vetoed[0]!) r.asked)) rfl rfl (AA (AD (vO (DC (r.vetoed[0]!) r.asked)) rfl (AG (AB (AM (AI (AS rfl (BZ rfl rfl rfl) (?_)))))))))
    have e:(GI r)=(DC (r.vetoed[0]!) r.asked):=by (simp_all [GI];done)
    exact ⟨_,rfl,d1.keep,(by exact congrArg vO e.symm)⟩
   have e0:r.state≠(2:Int):=by simpa using a3
   refine AR (AB (AF (AC kR (AA (AY 4 LK (r.vetoed) rfl a0 (fun _ _ _ h=>JJ h) fun g2 c5=>(AA (BL U22_ rfl rfl c5 fun g3 b2=>(?_))))))))
   have:=b2.len_le
   refine AA (BP U22_ rfl b2 (AA (EK .i64 (r.vetoed.length:Int) (0:Int) rfl rfl (AA (AD (vO ((r.vetoed.length:Int) == (0:Int))) rfl (AG (AB (AM (AS rfl (BZ rfl rfl rfl) (?_))))))))))
   have e:(GI r)=((r.vetoed.length:Int) == (0:Int)):=by (unfold GI;((repeat ((refine (if_neg ?_).trans ?_;solve|(simp only [dbs];(repeat (omega)))|(rw [Bool.not_eq_true];simp only [dbs];((repeat' apply And.intro) <;> omega)))));rfl))
   exact ⟨_,rfl,a4.keep,(by exact congrArg vO e.symm)⟩
  have e1:(2:Int)<r.state:=by simpa using a7
  refine AL rfl (AL rfl (AL rfl (AL rfl (AA (AQ (vO true) rfl rfl (AG (AB (AJ true rfl rfl (fun _=>AF (AC kR (AA (AD (vO false) rfl (AG (AB (AM (AI (AS rfl (BZ rfl rfl rfl) (?_)))))))))) (fun h=>by cases h)))))))))
  have e:(GI r)=false:=by (unfold GI;((repeat ((refine (if_pos ?_).trans ?_;solve|(simp only [dbs];(repeat (omega))))));rfl))
  exact ⟨_,rfl,a1.keep,(by exact congrArg vO e.symm)⟩
 have e2:r.state<(0:Int):=by simpa using a6
 refine AL rfl (AL rfl (AL rfl (AA (AQ (vO true) rfl rfl (AA (AE (vO true) rfl (AL rfl (AL rfl (AL rfl (AL rfl (AA (AQ (vO true) rfl rfl (AG (AB (AJ true rfl rfl (fun _=>AF (AC kR (AA (AD (vO false) rfl (AG (AB (AM (AI (AS rfl (BZ rfl rfl rfl) (?_)))))))))) (fun h=>by cases h))))))))))))))))
 have e:(GI r)=false:=by (unfold GI;((repeat ((refine (if_pos ?_).trans ?_;solve|(simp only [dbs];(repeat (omega))))));rfl))
 exact ⟨_,rfl,a1.keep,(by exact congrArg vO e.symm)⟩
open Go.Fw Go.RowKit
set_option maxHeartbeats 4000000 in
set_option maxRecDepth 100000 in
theorem QH {O:List Nat} (c_cs:List Value) (c:Circle) (w:World) (e2:Enc.circle.rd w O c_cs c) (hO:∀ b∈O,b<w.heap.size):CA Tryz.prog 37 [.agg c_cs.toArray] w (fun v _=>v=vI (AP c)):= by
 have e2:Enc.circle.rd w ([]++O) c_cs c:=e2
 have s0:St w O w []:=St.start hO
 refine BE 95 Tryz.func37 rfl rfl oT (fun F0=>AF (AC kR (AA (DR (E:=Enc.circle) (vA c_cs.toArray) (c_cs) c rfl rfl e2 s0 fun d8 f6 a5 k2 k3 a0=>(AA (AD (vI 0) rfl (AG (AB (AF (AC kR (AA (AY 3 JE (c.guardians) rfl a0 (fun _ _ _ h=>EA h) fun k4 e3=>(AA (BL U22_ rfl rfl e3 fun k5 c1=>(?_)))))))))))))))
 have:=c1.len_le
 refine AA (BP U22_ rfl c1 (AA (AD (vI (c.guardians.length:Int)) rfl (AG (AB (AF (AF (AC kR (AA (AY 0 JF (c.epoch) rfl a0 (fun _ _ _ h=>FG h) fun k6 e4=>(AA (BK U3_ rfl rfl e4 (AA (DQ .i64 c.epoch (0:Int) rfl rfl (AA (AE (vO (decide (c.epoch<(0:Int)))) rfl (?_)))))))))))))))))
 cases c2:(decide (c.epoch<(0:Int)))
 ·have h2:(0:Int)≤c.epoch:=by simpa using c2
  refine AW rfl (AY 0 JF (c.epoch) rfl a0 (fun _ _ _ h=>FG h) fun k7 e5=>(AW rfl (BK U3_ rfl rfl e5 (AW rfl (FN .i64 c.epoch (1048576:Int) rfl rfl (AA (BA (vO (decide ((1048576:Int)<c.epoch))) rfl rfl (AA (AE (vO (decide ((1048576:Int)<c.epoch))) rfl (?_))))))))))
  cases c3:(decide ((1048576:Int)<c.epoch))
  ·have h3:c.epoch≤(1048576:Int):=by simpa using c3
   refine AW rfl (AE (vI (c.guardians.length:Int)) rfl (AW rfl (DQ .i64 (c.guardians.length:Int) (1:Int) rfl rfl (AA (BA (vO (decide ((c.guardians.length:Int)<(1:Int)))) rfl rfl (AA (AE (vO (decide ((c.guardians.length:Int)<(1:Int)))) rfl (?_))))))))
   cases c4:(decide ((c.guardians.length:Int)<(1:Int)))
   ·have h4:(1:Int)≤(c.guardians.length:Int):=by simpa using c4
    refine AW rfl (AE (vI (c.guardians.length:Int)) rfl (AW rfl (FN .i64 (c.guardians.length:Int) (8:Int) rfl rfl (AA (BA (vO (decide ((8:Int)<(c.guardians.length:Int)))) rfl rfl (AA (AE (vO (decide ((8:Int)<(c.guardians.length:Int)))) rfl (?_))))))))
    cases c5:(decide ((8:Int)<(c.guardians.length:Int)))
    ·have h5:(c.guardians.length:Int)≤(8:Int):=by simpa using c5
     refine AW rfl (AY 3 JE (c.guardians) rfl a0 (fun _ _ _ h=>EA h) fun k8 e6=>(AW rfl (BL U22_ rfl rfl e6 fun d9 c6=>(?_))))
     have:=c6.len_le
     refine AW rfl (AZ (vs:=[d9]) enter_82 (c_incr (O:=[]++O) d9 c.guardians f6 c6 a5.lt) rfl a5 fun k9 f7 a6 f8 l0 f9=>(?_))
     obtain rfl:=f9
     have a0:=a0.mv f8
     refine AW rfl (EU (FR c.guardians) rfl (AA (BA (vO (!(FR c.guardians))) rfl rfl (AA (AE (vO (!(FR c.guardians))) rfl (?_))))))
     cases c7:(!(FR c.guardians))
     ·have h6:(FR c.guardians)=true:=by simpa using c7
      refine AW rfl (AY 1 KP (c.threshold) rfl a0 (fun _ _ _ h=>FF h) fun l1 e7=>(AW rfl (BK U3_ rfl rfl e7 (AW rfl (DQ .i64 c.threshold (1:Int) rfl rfl (AA (BA (vO (decide (c.threshold<(1:Int)))) rfl rfl (AA (AE (vO (decide (c.threshold<(1:Int)))) rfl (?_))))))))))
      cases c8:(decide (c.threshold<(1:Int)))
      ·have h7:(1:Int)≤c.threshold:=by simpa using c8
       refine AW rfl (AY 1 KP (c.threshold) rfl a0 (fun _ _ _ h=>FF h) fun l2 e8=>(AW rfl (BK U3_ rfl rfl e8 (AW rfl (AE (vI (c.guardians.length:Int)) rfl (AW rfl (FN .i64 c.threshold (c.guardians.length:Int) rfl rfl (AA (BA (vO (decide ((c.guardians.length:Int)<c.threshold))) rfl rfl (AA (AE (vO (decide ((c.guardians.length:Int)<c.threshold))) rfl (?_))))))))))))
       cases c9:(decide ((c.guardians.length:Int)<c.threshold))
       ·have h8:c.threshold≤(c.guardians.length:Int):=by simpa using c9
        refine AW rfl (AY 2 TA (c.wait) rfl a0 (fun _ _ _ h=>IL h) fun l3 e9=>(AW rfl (BK U3_ rfl rfl e9 (AW rfl (AZ (vs:=[vI c.wait,vI 0]) NO (QK (O:=[]++O) c.wait (0:Int) f7 a6.lt) rfl a6 fun l4 l5 b7 g0 l6 g1=>(?_))))))
        obtain rfl:=g1
        have a0:=a0.mv g0
        refine AW rfl (EU (DC c.wait (0:Int)) rfl (AA (BA (vO (!(DC c.wait (0:Int)))) rfl rfl (AA (AE (vO (!(DC c.wait (0:Int)))) rfl (?_))))))
        cases d0:(!(DC c.wait (0:Int)))
        ·have h9:(DC c.wait (0:Int))=true:=by simpa using d0
         refine AW rfl (AY 4 DL (c.recs) rfl a0 (fun _ _ _ h=>BX h) fun l7 f0=>(AW rfl (BL U23_ rfl rfl f0 fun l8 d1=>(?_))))
         have:=d1.len_le
         refine AW rfl (BP U23_ rfl d1 (AW rfl (FN .i64 (c.recs.length:Int) (1024:Int) rfl rfl (AA (BA (vO (decide ((1024:Int)<(c.recs.length:Int)))) rfl rfl (AG (AB (AJ (decide ((1024:Int)<(c.recs.length:Int))) rfl rfl (fun b3=>?_) (fun b3=>?_)))))))))
         ·have i0:(1024:Int)<(c.recs.length:Int):=by simpa using b3
          refine AF (AC kR (AA (AD (vI 450) rfl (AG (AB (AM (AI (AS rfl (BZ rfl rfl rfl) (?_)))))))))
          have e:(AP c)=(450:Int):=by (unfold AP;((repeat ((refine (if_pos ?_).trans ?_;solve|(simp only [DT,EE,dbs];(repeat (omega))))));rfl))
          exact ⟨_,rfl,b7.keep,by rw [e];exact rfl⟩
         have i1:(c.recs.length:Int)≤(1024:Int):=by simpa using b3
         refine AR (AB (AF (AC kR (AA (AD (vI 0) rfl (AG (AB (AF (AF (AC kR (AA (AY 4 DL (c.recs) rfl a0 (fun _ _ _ h=>BX h) fun l9 f1=>(AA (BL U23_ rfl rfl f1 fun e0 a1=>(?_)))))))))))))))
         have:=a1.len_le
         refine AA (BP U23_ rfl a1 (AA (AE (vI 0) rfl (AG (AB (BD (DB (fun mI FI wI=>∃ (k:Nat) (B:List Nat),k≤c.recs.length∧AP c=EW (fun k=>if EE c.recs k then some 450 else none) 0 k (c.recs.length - k)∧mI=c.recs.length - k∧(∃ F1,FI=GD F1 [(1,vP (some d8)),(4,vI (HZ c.recs k)),(56,e0),(57,vI (c.recs.length:Int)),(58,vI ((k:Nat):Int)),(95,undef)])∧St w O wI B∧PT Enc.circle wI (B++O) (.pointer (some d8)) (c)∧BB Enc.recovery wI (B++O) (e0) (c.recs)) (c.recs.length - (0)) ?_ ?_)))))))
         ·exact ⟨(0),[],oM,(by unfold AP;((repeat ((refine (if_neg ?_).trans ?_;solve|(simp only [DT,EE,dbs];(repeat (first|omega|assumption|(right;first|omega|assumption|(constructor <;> first|omega|assumption))|left)))|(rw [Bool.not_eq_true];simp only [DT,EE,dbs];((repeat' apply And.intro) <;> omega)))));rfl)),rfl,⟨_,AX _ ⟨rfl,(by rfl),rfl,rfl,(by rfl),rfl,trivial⟩⟩,b7,a0,a1⟩
         intro m9 F n2 hI
         clear a0 a1
         obtain ⟨k,d2,hr0_0,hr0_1,n3,⟨n4,rfl⟩,h1,a0,a1⟩:=hI
         refine AF (AC kR (AA (DQ .i64 ((k:Nat):Int) (c.recs.length:Int) rfl rfl (AG (AB (AF (AJ (decide (((k:Nat):Int)<(c.recs.length:Int))) rfl rfl (fun b4=>?_) (fun b4=>?_))))))))
         ·have i2:((k:Nat):Int)<(c.recs.length:Int):=by simpa using b4
          refine AR (AB (AF (BD (AF (AC kR (AA (AE (vI ((k:Nat):Int)) rfl (AA (CR U23_ GM .i64 ((k:Nat):Int) k rfl rfl rfl a1 oM fun m0 f2=>(AA (CJ U59_ rfl GM rfl f2 fun f3 b5=>(AA (CZ [vI 0,vI 0,vI 0,nS,nS] NA rfl h1 fun a7 g2 g3 g4 b8 m1 f4=>(?_))))))))))))))
          clear g3
          have a0:=a0.mv b8
          have a1:=a1.mv b8
          have b5:Enc.recovery.rd g2 ((a7 :: d2)++O) f3 (c.recs[k]!):=Enc.mv Enc.recovery (x:=c.recs[k]!) b5 b8
          refine AA (AD (vI ((k:Nat):Int)) rfl (?_))
          obtain ⟨a8,a9,rfl,a3,a4⟩:=b5
          have:=a3.len_le
          have:=a4.len_le
          refine CC (BF (vs:=[vI ((c.recs[k]!).no),vI ((c.recs[k]!).asked),vI ((c.recs[k]!).state),a8,a9]) (.agg #[vI ((c.recs[k]!).no),vI ((c.recs[k]!).asked),vI ((c.recs[k]!).state),a8,a9]) rfl rfl rfl GM (fun u hu=>by simp only [List.mem_cons,List.not_mem_nil,or_false] at hu;rcases hu with rfl|rfl|rfl|rfl|rfl <;> first|rfl|exact a3.oneCell|exact a4.oneCell) (by repeat (constructor)) f4 oT g4 fun g5 b9 b0 m2 a2=>(?_))
          have a0:=a0.mv b0
          have a1:=a1.mv b0
          have a3:=a3.mv b0
          have a4:=a4.mv b0
          refine AG (AB (AF (AF (AC kR (AA (AT 0 RC rfl (AA (AU U3_ rfl (vI ((c.recs[k]!).no)) rfl a2 rfl (AA (AE (vI ((k:Nat):Int)) rfl (AA (CM .i64 ((c.recs[k]!).no) ((k:Nat):Int) rfl rfl (AA (AE (vO (((c.recs[k]!).no) != ((k:Nat):Int))) rfl (?_)))))))))))))))
          cases d3:(((c.recs[k]!).no) != ((k:Nat):Int))
          ·have i3:(c.recs[k]!).no=((k:Nat):Int):=by simpa using d3
           refine AW rfl (AT 1 JD rfl (AW rfl (AU U3_ rfl (vI ((c.recs[k]!).asked)) rfl a2 rfl (AW rfl (AE (vI (HZ c.recs k)) rfl (AW rfl (AZ (vs:=[vI ((c.recs[k]!).asked),vI (HZ c.recs k)]) NO (QK (O:=(a7 :: d2)++O) ((c.recs[k]!).asked) (HZ c.recs k) g5 b9.lt) rfl b9 fun m3 g6 c0 b1 g7 g8=>(?_))))))))
           obtain rfl:=g8
           have a0:=a0.mv b1
           have a1:=a1.mv b1
           have a3:=a3.mv b1
           have a4:=a4.mv b1
           have a2:=a2.keep g7 (by simp)
           refine AW rfl (EU (DC ((c.recs[k]!).asked) (HZ c.recs k)) rfl (AA (BA (vO (!(DC ((c.recs[k]!).asked) (HZ c.recs k)))) rfl rfl (AA (AE (vO (!(DC ((c.recs[k]!).asked) (HZ c.recs k)))) rfl (?_))))))
           cases d4:(!(DC ((c.recs[k]!).asked) (HZ c.recs k)))
           ·have i4:(DC ((c.recs[k]!).asked) (HZ c.recs k))=true:=by simpa using d4
            refine AW rfl (BS (vs:=[vI ((c.recs[k]!).no),vI ((c.recs[k]!).asked),vI ((c.recs[k]!).state),a8,a9]) U59_ rfl GM rfl a2 rfl (AW rfl (AZ (vs:=[vA #[vI ((c.recs[k]!).no),vI ((c.recs[k]!).asked),vI ((c.recs[k]!).state),a8,a9]]) enter_83 (c_recOK (O:=(a7 :: d2)++O) [vI ((c.recs[k]!).no),vI ((c.recs[k]!).asked),vI ((c.recs[k]!).state),a8,a9] (c.recs[k]!) g6 ⟨_,_,rfl,a3,a4⟩ c0.lt) rfl c0 fun m4 m5 b2 e1 g9 h0=>(?_))))
            obtain rfl:=h0
            have a0:=a0.mv e1
            have a1:=a1.mv e1
            have a2:=a2.keep g9 (by simp)
            refine AW rfl (EU (GI (c.recs[k]!)) rfl (AA (BA (vO (!(GI (c.recs[k]!)))) rfl rfl (AA (AE (vO (!(GI (c.recs[k]!)))) rfl (?_))))))
            cases d5:(!(GI (c.recs[k]!)))
            ·have i5:(GI (c.recs[k]!))=true:=by simpa using d5
             refine AW rfl (AT 2 HN rfl (AW rfl (AU U3_ rfl (vI ((c.recs[k]!).state)) rfl a2 rfl (AW rfl (EK .i64 ((c.recs[k]!).state) (0:Int) rfl rfl (AW rfl (AE (vO (((c.recs[k]!).state) == (0:Int))) rfl (?_))))))))
             cases d6:(((c.recs[k]!).state) == (0:Int))
             ·have i6:(c.recs[k]!).state≠(0:Int):=by simpa using d6
              refine AL rfl (AL rfl (AL rfl (AL rfl (AL rfl (AL rfl (AW rfl (BA (vO false) rfl rfl (AA (BA (vO false) rfl rfl (AG (AB (AJ false rfl rfl (fun h=>by cases h) (fun _=>AR (AB (AC kR (AA (AT 1 JD rfl (AA (AU U3_ rfl (vI ((c.recs[k]!).asked)) rfl a2 rfl (AA (AD (vI ((c.recs[k]!).asked)) rfl (AG (CB (AB (AC kR (AA (DF .i64 ((k:Nat):Int) (1:Int) (((k+1:Nat):Int)) rfl rfl (GA oM oM) (AA (AE (vI ((k+1:Nat):Int)) rfl (AG (AB (?_))))))))))))))))))))))))))))))))
              exact ⟨_,oM,(k+1),(a7 :: d2),oM,(hr0_1.trans (EP oM (by ((repeat ((refine (if_neg ?_).trans ?_;solve|(simp only [DT,EE,dbs];(repeat (first|omega|assumption|(right;first|omega|assumption|(constructor <;> first|omega|assumption))|left)))|(rw [Bool.not_eq_true];simp only [DT,EE,dbs];((repeat' apply And.intro) <;> omega)))));rfl)))),rfl,⟨_,AX _ ⟨rfl,(by rfl),rfl,rfl,(by rfl),rfl,trivial⟩⟩,b2,a0,a1⟩
             have i7:(c.recs[k]!).state=(0:Int):=by simpa using d6
             refine AW rfl (AE (vI ((k:Nat):Int)) rfl (AW rfl (AY 4 DL (c.recs) rfl a0 (fun _ _ _ h=>BX h) fun m6 f5=>(AW rfl (BL U23_ rfl rfl f5 fun m7 d7=>(?_))))))
             have:=d7.len_le
             refine AW rfl (BP U23_ rfl d7 (AW rfl (HK .i64 (c.recs.length:Int) (1:Int) ((c.recs.length:Int) - (1:Int)) rfl rfl (GA oM oM) (AW rfl (DQ .i64 ((k:Nat):Int) ((c.recs.length:Int) - (1:Int)) rfl rfl (AW rfl (AQ (vO (decide (((k:Nat):Int)<(c.recs.length:Int) - (1:Int)))) rfl rfl (AA (BA (vO (decide (((k:Nat):Int)<(c.recs.length:Int) - (1:Int)))) rfl rfl (AG (AB (AJ (decide (((k:Nat):Int)<(c.recs.length:Int) - (1:Int))) rfl rfl (fun b6=>?_) (fun b6=>?_)))))))))))))
             ·have i8:((k:Nat):Int)<(c.recs.length:Int) - (1:Int):=by simpa using b6
              refine AF (AC kR (AA (AD (vI 450) rfl (AG (AB (AM (AI (BC (AI (AI (BC (AI (AS rfl (BZ rfl rfl rfl) (?_))))))))))))))
              have e:(AP c)=(450:Int):=by (rw [hr0_1];exact CP oM (by ((repeat ((refine (if_pos ?_).trans ?_;solve|(simp only [DT,EE,dbs];(repeat (omega))))));rfl)))
              exact ⟨_,rfl,b2.keep,by rw [e];exact rfl⟩
             have i9:(c.recs.length:Int) - (1:Int)≤((k:Nat):Int):=by simpa using b6
             refine AR (AB (AC kR (AA (AT 1 JD rfl (AA (AU U3_ rfl (vI ((c.recs[k]!).asked)) rfl a2 rfl (AA (AD (vI ((c.recs[k]!).asked)) rfl (AG (CB (AB (AC kR (AA (DF .i64 ((k:Nat):Int) (1:Int) (((k+1:Nat):Int)) rfl rfl (GA oM oM) (AA (AE (vI ((k+1:Nat):Int)) rfl (AG (AB (?_)))))))))))))))))))
             exact ⟨_,oM,(k+1),(a7 :: d2),oM,(hr0_1.trans (EP oM (by ((repeat ((refine (if_neg ?_).trans ?_;solve|(simp only [DT,EE,dbs];(repeat (first|omega|assumption|(right;first|omega|assumption|(constructor <;> first|omega|assumption))|left)))|(rw [Bool.not_eq_true];simp only [DT,EE,dbs];((repeat' apply And.intro) <;> omega)))));rfl)))),rfl,⟨_,AX _ ⟨rfl,(by rfl),rfl,rfl,(by rfl),rfl,trivial⟩⟩,b2,a0,a1⟩
            have j0:(GI (c.recs[k]!))=false:=by simpa using d5
            refine AL rfl (AL rfl (AL rfl (AL rfl (HH rfl (HH rfl (HH rfl (HH rfl (HH rfl (HH rfl (AL rfl (AA (AQ (vO true) rfl rfl (AG (AB (AJ true rfl rfl (fun _=>AF (AC kR (AA (AD (vI 450) rfl (AG (AB (AM (AI (BC (AI (AI (BC (AI (AS rfl (BZ rfl rfl rfl) (?_))))))))))))))) (fun h=>by cases h))))))))))))))))
            have e:(AP c)=(450:Int):=by (rw [hr0_1];exact CP oM (by ((repeat ((refine (if_pos ?_).trans ?_;solve|(simp only [DT,EE,dbs];(repeat (first|(right;omega)|left))))));rfl)))
            exact ⟨_,rfl,b2.keep,by rw [e];exact rfl⟩
           have j1:(DC ((c.recs[k]!).asked) (HZ c.recs k))=false:=by simpa using d4
           refine AL rfl (AL rfl (AL rfl (AA (AQ (vO true) rfl rfl (AA (AE (vO true) rfl (AL rfl (AL rfl (AL rfl (AL rfl (HH rfl (HH rfl (HH rfl (HH rfl (HH rfl (HH rfl (AL rfl (AA (AQ (vO true) rfl rfl (AG (AB (AJ true rfl rfl (fun _=>AF (AC kR (AA (AD (vI 450) rfl (AG (AB (AM (AI (BC (AI (AI (BC (AI (AS rfl (BZ rfl rfl rfl) (?_))))))))))))))) (fun h=>by cases h)))))))))))))))))))))))
           have e:(AP c)=(450:Int):=by (rw [hr0_1];exact CP oM (by ((repeat ((refine (if_pos ?_).trans ?_;solve|(simp only [DT,EE,dbs];(repeat (first|(right;omega)|left))))));rfl)))
           exact ⟨_,rfl,c0.keep,by rw [e];exact rfl⟩
          have j2:(c.recs[k]!).no≠((k:Nat):Int):=by simpa using d3
          refine AL rfl (AL rfl (AL rfl (AL rfl (AL rfl (AA (AQ (vO true) rfl rfl (AA (AE (vO true) rfl (AL rfl (AL rfl (AL rfl (AA (AQ (vO true) rfl rfl (AA (AE (vO true) rfl (AL rfl (AL rfl (AL rfl (AL rfl (HH rfl (HH rfl (HH rfl (HH rfl (HH rfl (HH rfl (AL rfl (AA (AQ (vO true) rfl rfl (AG (AB (AJ true rfl rfl (fun _=>AF (AC kR (AA (AD (vI 450) rfl (AG (AB (AM (AI (BC (AI (AI (BC (AI (AS rfl (BZ rfl rfl rfl) (?_))))))))))))))) (fun h=>by cases h))))))))))))))))))))))))))))))))
          have e:(AP c)=(450:Int):=by (rw [hr0_1];exact CP oM (by ((repeat ((refine (if_pos ?_).trans ?_;solve|(simp only [DT,EE,dbs];(repeat (omega))))));rfl)))
          exact ⟨_,rfl,b9.keep,by rw [e];exact rfl⟩
         have j3:(c.recs.length:Int)≤((k:Nat):Int):=by simpa using b4
         refine DA (BN (BN (CO (AB (AF (AC kR (AA (AD (vI 0) rfl (AG (AB (AM (AS rfl (BZ rfl rfl rfl) (?_)))))))))))))
         have e:(AP c)=(0:Int):=by (rw [hr0_1];exact FS oM)
         exact ⟨_,rfl,h1.keep,by rw [e];exact rfl⟩
        have j4:(DC c.wait (0:Int))=false:=by simpa using d0
        refine AL rfl (AL rfl (AL rfl (AL rfl (AA (AQ (vO true) rfl rfl (AG (AB (AJ true rfl rfl (fun _=>AF (AC kR (AA (AD (vI 450) rfl (AG (AB (AM (AI (AS rfl (BZ rfl rfl rfl) (?_)))))))))) (fun h=>by cases h)))))))))
        have e:(AP c)=(450:Int):=by (unfold AP;((repeat ((refine (if_pos ?_).trans ?_;solve|(simp only [DT,EE,dbs];(repeat (first|(right;omega)|left))))));rfl))
        exact ⟨_,rfl,b7.keep,by rw [e];exact rfl⟩
       have j5:(c.guardians.length:Int)<c.threshold:=by simpa using c9
       refine AL rfl (AL rfl (AL rfl (AL rfl (AA (AQ (vO true) rfl rfl (AA (AE (vO true) rfl (AL rfl (AL rfl (AL rfl (AL rfl (AA (AQ (vO true) rfl rfl (AG (AB (AJ true rfl rfl (fun _=>AF (AC kR (AA (AD (vI 450) rfl (AG (AB (AM (AI (AS rfl (BZ rfl rfl rfl) (?_)))))))))) (fun h=>by cases h)))))))))))))))))
       have e:(AP c)=(450:Int):=by (unfold AP;((repeat ((refine (if_pos ?_).trans ?_;solve|(simp only [DT,EE,dbs];(repeat (omega))))));rfl))
       exact ⟨_,rfl,a6.keep,by rw [e];exact rfl⟩
      have j6:c.threshold<(1:Int):=by simpa using c8
      refine AL rfl (AL rfl (AL rfl (AL rfl (AA (AQ (vO true) rfl rfl (AA (AE (vO true) rfl (AL rfl (AL rfl (AL rfl (AL rfl (AA (AQ (vO true) rfl rfl (AA (AE (vO true) rfl (AL rfl (AL rfl (AL rfl (AL rfl (AA (AQ (vO true) rfl rfl (AG (AB (AJ true rfl rfl (fun _=>AF (AC kR (AA (AD (vI 450) rfl (AG (AB (AM (AI (AS rfl (BZ rfl rfl rfl) (?_)))))))))) (fun h=>by cases h)))))))))))))))))))))))))
      have e:(AP c)=(450:Int):=by (unfold AP;((repeat ((refine (if_pos ?_).trans ?_;solve|(simp only [DT,EE,dbs];(repeat (omega))))));rfl))
      exact ⟨_,rfl,a6.keep,by rw [e];exact rfl⟩
     have j7:(FR c.guardians)=false:=by simpa using c7
     refine AL rfl (AL rfl (AL rfl (AA (AQ (vO true) rfl rfl (AA (AE (vO true) rfl (AL rfl (AL rfl (AL rfl (AL rfl (AA (AQ (vO true) rfl rfl (AA (AE (vO true) rfl (AL rfl (AL rfl (AL rfl (AL rfl (AA (AQ (vO true) rfl rfl (AA (AE (vO true) rfl (AL rfl (AL rfl (AL rfl (AL rfl (AA (AQ (vO true) rfl rfl (AG (AB (AJ true rfl rfl (fun _=>AF (AC kR (AA (AD (vI 450) rfl (AG (AB (AM (AI (AS rfl (BZ rfl rfl rfl) (?_)))))))))) (fun h=>by cases h))))))))))))))))))))))))))))))))
     have e:(AP c)=(450:Int):=by (unfold AP;((repeat ((refine (if_pos ?_).trans ?_;solve|(simp only [DT,EE,dbs];(repeat (first|(right;omega)|left))))));rfl))
     exact ⟨_,rfl,a6.keep,by rw [e];exact rfl⟩
    have j8:(8:Int)<(c.guardians.length:Int):=by simpa using c5
    refine AL rfl (AL rfl (AL rfl (AL rfl (AA (AQ (vO true) rfl rfl (AA (AE (vO true) rfl (AL rfl (AL rfl (AL rfl (AA (AQ (vO true) rfl rfl (AA (AE (vO true) rfl (AL rfl (AL rfl (AL rfl (AL rfl (AA (AQ (vO true) rfl rfl (AA (AE (vO true) rfl (AL rfl (AL rfl (AL rfl (AL rfl (AA (AQ (vO true) rfl rfl (AA (AE (vO true) rfl (AL rfl (AL rfl (AL rfl (AL rfl (AA (AQ (vO true) rfl rfl (AG (AB (AJ true rfl rfl (fun _=>AF (AC kR (AA (AD (vI 450) rfl (AG (AB (AM (AI (AS rfl (BZ rfl rfl rfl) (?_)))))))))) (fun h=>by cases h))))))))))))))))))))))))))))))))))))))))
    have e:(AP c)=(450:Int):=by (unfold AP;((repeat ((refine (if_pos ?_).trans ?_;solve|(simp only [DT,EE,dbs];(repeat (omega))))));rfl))
    exact ⟨_,rfl,a5.keep,by rw [e];exact rfl⟩
   have j9:(c.guardians.length:Int)<(1:Int):=by simpa using c4
   refine AL rfl (AL rfl (AA (AQ (vO true) rfl rfl (AA (AE (vO true) rfl (AL rfl (AL rfl (AL rfl (AL rfl (AA (AQ (vO true) rfl rfl (AA (AE (vO true) rfl (AL rfl (AL rfl (AL rfl (AA (AQ (vO true) rfl rfl (AA (AE (vO true) rfl (AL rfl (AL rfl (AL rfl (AL rfl (AA (AQ (vO true) rfl rfl (AA (AE (vO true) rfl (AL rfl (AL rfl (AL rfl (AL rfl (AA (AQ (vO true) rfl rfl (AA (AE (vO true) rfl (AL rfl (AL rfl (AL rfl (AL rfl (AA (AQ (vO true) rfl rfl (AG (AB (AJ true rfl rfl (fun _=>AF (AC kR (AA (AD (vI 450) rfl (AG (AB (AM (AI (AS rfl (BZ rfl rfl rfl) (?_)))))))))) (fun h=>by cases h))))))))))))))))))))))))))))))))))))))))))))))
   have e:(AP c)=(450:Int):=by (unfold AP;((repeat ((refine (if_pos ?_).trans ?_;solve|(simp only [DT,EE,dbs];(repeat (omega))))));rfl))
   exact ⟨_,rfl,a5.keep,by rw [e];exact rfl⟩
  have k0:(1048576:Int)<c.epoch:=by simpa using c3
  refine AL rfl (AL rfl (AA (AQ (vO true) rfl rfl (AA (AE (vO true) rfl (AL rfl (AL rfl (AA (AQ (vO true) rfl rfl (AA (AE (vO true) rfl (AL rfl (AL rfl (AL rfl (AL rfl (AA (AQ (vO true) rfl rfl (AA (AE (vO true) rfl (AL rfl (AL rfl (AL rfl (AA (AQ (vO true) rfl rfl (AA (AE (vO true) rfl (AL rfl (AL rfl (AL rfl (AL rfl (AA (AQ (vO true) rfl rfl (AA (AE (vO true) rfl (AL rfl (AL rfl (AL rfl (AL rfl (AA (AQ (vO true) rfl rfl (AA (AE (vO true) rfl (AL rfl (AL rfl (AL rfl (AL rfl (AA (AQ (vO true) rfl rfl (AG (AB (AJ true rfl rfl (fun _=>AF (AC kR (AA (AD (vI 450) rfl (AG (AB (AM (AI (AS rfl (BZ rfl rfl rfl) (?_)))))))))) (fun h=>by cases h))))))))))))))))))))))))))))))))))))))))))))))))))))
  have e:(AP c)=(450:Int):=by (unfold AP;((repeat ((refine (if_pos ?_).trans ?_;solve|(simp only [DT,EE,dbs];(repeat (omega))))));rfl))
  exact ⟨_,rfl,a5.keep,by rw [e];exact rfl⟩
 have k1:c.epoch<(0:Int):=by simpa using c2
 refine AL rfl (AL rfl (AL rfl (AA (AQ (vO true) rfl rfl (AA (AE (vO true) rfl (AL rfl (AL rfl (AA (AQ (vO true) rfl rfl (AA (AE (vO true) rfl (AL rfl (AL rfl (AA (AQ (vO true) rfl rfl (AA (AE (vO true) rfl (AL rfl (AL rfl (AL rfl (AL rfl (AA (AQ (vO true) rfl rfl (AA (AE (vO true) rfl (AL rfl (AL rfl (AL rfl (AA (AQ (vO true) rfl rfl (AA (AE (vO true) rfl (AL rfl (AL rfl (AL rfl (AL rfl (AA (AQ (vO true) rfl rfl (AA (AE (vO true) rfl (AL rfl (AL rfl (AL rfl (AL rfl (AA (AQ (vO true) rfl rfl (AA (AE (vO true) rfl (AL rfl (AL rfl (AL rfl (AL rfl (AA (AQ (vO true) rfl rfl (AG (AB (AJ true rfl rfl (fun _=>AF (AC kR (AA (AD (vI 450) rfl (AG (AB (AM (AI (AS rfl (BZ rfl rfl rfl) (?_)))))))))) (fun h=>by cases h)))))))))))))))))))))))))))))))))))))))))))))))))))))))))))
 have e:(AP c)=(450:Int):=by (unfold AP;((repeat ((refine (if_pos ?_).trans ?_;solve|(simp only [DT,EE,dbs];(repeat (omega))))));rfl))
 exact ⟨_,rfl,a5.keep,by rw [e];exact rfl⟩
end Go.Proofs.YtjgfokolnkhafaaGreat
