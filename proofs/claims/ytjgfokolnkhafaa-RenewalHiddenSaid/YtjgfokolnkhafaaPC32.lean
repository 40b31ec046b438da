/- What the laws of this part rest on: lemmas, and the walks of the functions. No conditions. -/
import Derived.WalkKit
import Derived.WalkSpells
import Derived.WalkLawsBesides
import Derived.RangeFuncLeaves
import Derived.Maps.AppendAt
import Derived.Deep.AppendLies
import Derived.Deep.Slices
import Derived.OpenShut
import Derived.ProofKit
import Derived.Below
import Derived.ChangeSame
import Derived.Carry
import Derived.RangeFuncRecord
import Derived.Laws.Tables
import Derived.Recover
import Derived.DefersIn
import Derived.Lib.AppendZerosOnto
import Derived.Lib.Overlaps
import Derived.Laws.CopyRow
import Derived.Laws.StructEq
import Derived.ChangeKeysEq
import Derived.OrdersIn
import Derived.Test.YtjgfokolnkhafaaRows
import Derived.Test.YtjgfokolnkhafaaPC31
set_option linter.unusedSimpArgs false
set_option linter.unusedVariables false
namespace Go.Fw
open Go.RowKit
def GD (cur:List Value) (o:Nat) (ms:List Value):List Value:=cur.take o++ms++cur.drop (o+ms.length)
theorem MP {cur:List Value} {o:Nat} {ms:List Value} (h:o+ms.length≤cur.length):(GD cur o ms).length=cur.length:=by
  simp [GD];omega
theorem Keep.step0 {C O:List Nat} {w w1 w2:World} (h:Keep C w w1) (k:Keep O w1 w2) (hs:∀ b∈O,b∈C∨w.heap.size≤b):Keep C w w2:=
  ⟨k.os.trans h.os,k.tape.trans h.tape,k.output.trans h.output,Nat.le_trans h.size k.size,fun i hi ho=>(k.block i (Nat.lt_of_lt_of_le hi h.size) (fun hO=>by rcases hs i hO with h1|h1;exact ho h1;omega)).trans (h.block i hi ho)⟩
def Rds {α:Type} (E:Enc α) (w:World) (O:List Nat) (css:List (List Value)) (l:List α):Prop:=
  css.length=l.length∧∀ (i:Nat) (cs:List Value) (x:α),css[i]? = some cs→l[i]? = some x→E.rd w O cs x
theorem own_open {α:Type} {E:Enc α} {e base:Nat} {O:List Nat} {w:World} {v:Value} {l:List α} (h:EG E e base O w v l) (h0:0<l.length) :
    ∃ g c cur css,v = .slice (some ⟨g,0,none⟩) l.length c∧base≤g∧HC w g e cur∧l.length≤c∧c≤maxLen∧cur.length=c*E.size∧css.flatten=cur.take (l.length*E.size)∧Rds E w O css l:=by
  obtain ⟨css,h1,h2,h3⟩:=h
  rcases h2.2 with ⟨rfl,h4⟩|⟨g,cap,cur,rfl,hb,hg,hc,hm,hsz,htk⟩
  · omega
  · exact ⟨g,cap,cur.toList,css,rfl,hb,hg,hc,hm,by simpa using hsz,htk.symm,h1,h3⟩
theorem Rds.lens {α:Type} {E:Enc α} {w:World} {O:List Nat} {css:List (List Value)} {l:List α} (h:Rds E w O css l):∀ cs∈css,cs.length=E.size:=EG.lens h.1 h.2
theorem Rds.ones {α:Type} {E:Enc α} {w:World} {O:List Nat} {css:List (List Value)} {l:List α} (h:Rds E w O css l):∀ u∈css.flatten,u.oneCell'=true:=by
  intro u hu
  obtain ⟨cs,hcs,hucs⟩:=List.mem_flatten.1 hu
  obtain ⟨j,hj,rfl⟩:=List.getElem_of_mem hcs
  have hjl:j<l.length:=by rw [← h.1];exact hj
  exact E.one (h.2 j _ l[j] (List.getElem?_eq_getElem hj) (List.getElem?_eq_getElem hjl)) u hucs
theorem Rds.flen {α:Type} {E:Enc α} {w:World} {O:List Nat} {css:List (List Value)} {l:List α} (h:Rds E w O css l):css.flatten.length=l.length*E.size:=by rw [EZ css h.lens,h.1]
theorem EG.ins {α:Type} {E:Enc α} {e base:Nat} {B B' O0:List Nat} {w1 w':World} {g c i:Nat} {cur:List Value} {css css':List (List Value)} {l m:List α} (hl:Rds E w1 (B++O0) css l) (hm:Rds E w1 (B++O0) css' m) (mv:Mv B w1 B' w')
    (hb:HC w' g e cur) (hg:base≤g) (hi:i≤l.length) (hlen:cur.length=c*E.size) (hc:l.length+m.length≤c) (hmax:c≤maxLen) (htk:cur.take ((l.length+m.length)*E.size)=(css.take i).flatten++css'.flatten++(css.drop i).flatten) :
    EG E e base (B'++O0) w' (.slice (some ⟨g,0,none⟩) (l.length+m.length) c) (l.take i++m++l.drop i):=by
  have hll:(l.take i++m++l.drop i).length=l.length+m.length:=by simp;omega
  refine ⟨css.take i++css'++css.drop i,?_,⟨?_, .inr ⟨g,c,cur.toArray,by rw [hll],hg,hb,by rw [hll];exact hc,hmax,by simpa using hlen,by rw [hll];simpa using htk⟩⟩,?_⟩
  · simp [hl.1,hm.1]
  · rw [hll]
    have e1:(css.take i++css'++css.drop i).flatten=(css.take i).flatten++css'.flatten++(css.drop i).flatten:=by simp
    rw [e1,← htk,List.length_take]
    exact Nat.min_eq_left (by rw [hlen];exact Nat.mul_le_mul_right _ hc)
  · intro j cs x hj hx
    have e1:(css.take i).length=i:=by rw [List.length_take,hl.1];omega
    have e2:(l.take i).length=i:=by rw [List.length_take];omega
    rw [List.append_assoc] at hj hx
    by_cases h1:j<i
    · rw [List.getElem?_append_left (by omega),List.getElem?_take,if_pos h1] at hj
      rw [List.getElem?_append_left (by omega),List.getElem?_take,if_pos h1] at hx
      exact E.mv (hl.2 j cs x hj hx) mv
    · rw [List.getElem?_append_right (by omega),e1] at hj
      rw [List.getElem?_append_right (by omega),e2] at hx
      by_cases h2:j - i<m.length
      · rw [List.getElem?_append_left (by rw [hm.1];exact h2)] at hj
        rw [List.getElem?_append_left h2] at hx
        exact E.mv (hm.2 _ cs x hj hx) mv
      · rw [List.getElem?_append_right (by rw [hm.1];omega),List.getElem?_drop,hm.1] at hj
        rw [List.getElem?_append_right (by omega),List.getElem?_drop] at hx
        exact E.mv (hl.2 _ cs x hj hx) mv
section
variable {cur cu cur1:List Value} {css css':List (List Value)} {n m i c G s:Nat}
theorem part_A (hcur:css.flatten=cur.take (n*s)) (hl:∀ cs∈css,cs.length=s) (hn:css.length=n) (hi:i≤n) (hc:n*s≤cur.length):(css.take i).flatten=cur.take (i*s):=by
  have h1:css.flatten=(css.take i).flatten++(css.drop i).flatten:=by rw [← List.flatten_append,List.take_append_drop]
  have h2:(css.take i).flatten.length=i*s:=by
    rw [EZ _ (fun c hc=>hl c (List.mem_of_mem_take hc)),List.length_take,hn,Nat.min_eq_left hi]
  have h3:(css.flatten).take (i*s)=(css.take i).flatten:=by rw [h1,← h2,List.take_left]
  rw [← h3,hcur,List.take_take,Nat.min_eq_left (Nat.mul_le_mul_right _ hi)]
theorem part_B (hcur:css.flatten=cur.take (n*s)) (hl:∀ cs∈css,cs.length=s) (hn:css.length=n) (hi:i≤n) (hc:n*s≤cur.length):(css.drop i).flatten=(cur.drop (i*s)).take ((n - i)*s):=by
  have h1:css.flatten=(css.take i).flatten++(css.drop i).flatten:=by rw [← List.flatten_append,List.take_append_drop]
  have h2:(css.take i).flatten.length=i*s:=by
    rw [EZ _ (fun c hc=>hl c (List.mem_of_mem_take hc)),List.length_take,hn,Nat.min_eq_left hi]
  have h3:(css.flatten).drop (i*s)=(css.drop i).flatten:=by rw [h1,← h2,List.drop_left]
  rw [← h3,hcur,List.drop_take,Nat.sub_mul]
theorem ones_drop {α:Type} {E:Enc α} {w:World} {O:List Nat} {l:List α} (h:Rds E w O css l) (hcur:css.flatten=cur.take (l.length*E.size)) (hi:i≤l.length) (hc:l.length*E.size≤cur.length):∀ u∈(cur.drop (i*E.size)).take ((l.length - i)*E.size),u.oneCell'=true:=by
  rw [← part_B hcur h.lens h.1 hi hc]
  intro u hu
  refine h.ones u ?_
  obtain ⟨x,hx,hux⟩:=List.mem_flatten.1 hu
  exact List.mem_flatten.2 ⟨x,List.mem_of_mem_drop hx,hux⟩
theorem ones_all {α:Type} {E:Enc α} {w:World} {O:List Nat} {l:List α} (h:Rds E w O css l) (hcur:css.flatten=cur.take (l.length*E.size)):∀ u∈(cur.drop 0).take (l.length*E.size),u.oneCell'=true:=by
  rw [List.drop_zero,← hcur];exact h.ones
theorem tk_grow (hcur:css.flatten=cur.take (n*s)) (hl:∀ cs∈css,cs.length=s) (hn:css.length=n) (hi:i≤n) (hc:n*s≤cur.length) (hcu:css'.flatten=cu.take (m*s)) (hm:css'.flatten.length=m*s)
    (h1:cur1.take (i*s)=cur.take (i*s)) (hG:(n+m)*s≤cur1.length) :
    (GD (GD cur1 (i*s) ((cu.drop 0).take (m*s))) ((i+m)*s) ((cur.drop (i*s)).take ((n - i)*s))).take ((n+m)*s)=(css.take i).flatten++css'.flatten++(css.drop i).flatten:=by
  have hA:=part_A hcur hl hn hi hc
  have hB:=part_B hcur hl hn hi hc
  have ha:(css.take i).flatten.length=i*s:=by rw [hA,List.length_take];exact Nat.min_eq_left (Nat.le_trans (Nat.mul_le_mul_right _ hi) hc)
  have hb:(css.drop i).flatten.length=(n - i)*s:=by
    rw [EZ _ (fun c hc=>hl c (List.mem_of_mem_drop hc)),List.length_drop,hn]
  have e1:(n+m)*s=i*s+m*s+(n - i)*s:=by rw [← Nat.add_mul,← Nat.add_mul];congr 1;omega
  have e2:(i+m)*s=i*s+m*s:=Nat.add_mul _ _ _
  have hc1:cur1=(css.take i).flatten++cur1.drop (i*s):=by rw [hA,← h1,List.take_append_drop]
  rw [List.drop_zero,← hcu,← hB,e1,e2]
  clear hcu hcur hA hB
  generalize (css.take i).flatten=A at ha hc1 ⊢
  generalize css'.flatten=M at hm ⊢
  generalize (css.drop i).flatten=B at hb ⊢
  generalize cur1.drop (i*s)=T at hc1
  have hs1:GD cur1 (i*s) M=A++M++T.drop M.length:=by
    unfold GD
    rw [hc1,← ha,List.take_left,List.drop_length_add_append]
  rw [hs1]
  unfold GD
  rw [← ha,← hm,← List.length_append,List.take_left,← hb]
  rw [← @List.length_append _ (A++M) _,List.take_left]
theorem tk_shift (hcur:css.flatten=cur.take (n*s)) (hl:∀ cs∈css,cs.length=s) (hn:css.length=n) (hi:i≤n) (hc:(n+m)*s≤cur.length) (hcu:css'.flatten=cu.take (m*s)) (hm:css'.flatten.length=m*s) :
    (GD (GD cur ((i+m)*s) ((cur.drop (i*s)).take ((n - i)*s))) (i*s) ((cu.drop 0).take (m*s))).take ((n+m)*s)=(css.take i).flatten++css'.flatten++(css.drop i).flatten:=by
  have hns:n*s≤(n+m)*s:=Nat.mul_le_mul_right _ (by omega)
  have hA:=part_A hcur hl hn hi (by omega)
  have hB:=part_B hcur hl hn hi (by omega)
  have ha:(css.take i).flatten.length=i*s:=by rw [hA,List.length_take];exact Nat.min_eq_left (Nat.le_trans (Nat.mul_le_mul_right _ hi) (by omega))
  have hb:(css.drop i).flatten.length=(n - i)*s:=by
    rw [EZ _ (fun c hc=>hl c (List.mem_of_mem_drop hc)),List.length_drop,hn]
  have e1:(n+m)*s=i*s+m*s+(n - i)*s:=by rw [← Nat.add_mul,← Nat.add_mul];congr 1;omega
  have e2:(i+m)*s=i*s+m*s:=Nat.add_mul _ _ _
  rw [List.drop_zero,← hcu,← hB,e1,e2]
  rw [e1] at hc
  have hc1:cur=(css.take i).flatten++cur.drop (i*s):=by rw [hA,List.take_append_drop]
  clear hcu hcur hA hB
  generalize (css.take i).flatten=A at ha hc1 ⊢
  generalize css'.flatten=M at hm ⊢
  generalize (css.drop i).flatten=B at hb ⊢
  generalize cur.drop (i*s)=T at hc1
  have hTl:m*s+(n - i)*s≤T.length:=by rw [hc1] at hc;simp [ha] at hc;omega
  have hs1:GD cur (i*s+m*s) B=A++(T.take (m*s)++B++T.drop (m*s+B.length)):=by
    unfold GD
    rw [hc1,← ha,List.take_length_add_append,Nat.add_assoc,List.drop_length_add_append]
    simp
  rw [hs1]
  unfold GD
  rw [← ha,List.take_left,List.drop_length_add_append,← hm]
  have e3:(T.take M.length).length=M.length:=by rw [List.length_take];omega
  have e4:(T.take M.length++B++T.drop (M.length+B.length)).drop M.length=B++T.drop (M.length+B.length):=by
    rw [List.append_assoc]
    conv=>lhs;rw [show M.length=(T.take M.length).length from e3.symm]
    simp only [e3]
    rw [List.drop_append_of_le_length (by omega),List.drop_of_length_le (by omega),List.nil_append]
  rw [e4,← hb,← List.append_assoc,← List.length_append,← List.length_append,List.take_left]
end
section
variable {P:Program} {ty:TypeId} {F:Fr} {w:World} {K:Value→World→Prop} {Z:List PanicEntry→World→Prop} {x y:Operand}
theorem IV {t e size:Nat} {lo:Operand} (ht:P.underlying t=some (.slice e)) (hs:DP P e=some size) (b n c i:Nat) (kk:IntKind) (nn:Int)
    (hx:CQ F x = .slice (some ⟨b,0,none⟩) n c) (hlo:CQ F lo = .int kk nn) (hn:nn=(i:Int)) (hi:i≤n) (hc:i<c) (hnc:n≤c) (h:K (.slice (some ⟨b,i*size,none⟩) (n - i) (c - i)) w):DL P (.slice t x (some lo) none none) ty F w K Z:=by
  subst hn
  have hb:(Instr.sliceBounds true n c (some (.int kk (i:Int))) none none).run P w = .ok (i,n,c) w:=by
    have b2:∀ code,(Instr.sliceBound (.int kk (i:Int)) n code).run P w = .ok i w:=fun code=>by
      rw [run_sliceBound (P:=P) w kk (i:Int) n code (by omega) (by omega)];rfl
    simp [Instr.sliceBounds,b2]
  refine BU ?_ h
  have hne:¬ (c=i):=by omega
  have ha:(⟨b,0,none⟩:Addr).add (i*size) = ⟨b,i*size,none⟩:=by rw [TW,Nat.zero_add]
  simp [execOp,hx,hlo,Instr.sliceAt,run_underlying ht,Instr.slice,hb,EH hs,hne,ha]
theorem VG {t e size:Nat} {hi:Operand} (ht:P.underlying t=some (.slice e)) (hs:DP P e=some size) (b o n c k:Nat) (kk:IntKind) (nn:Int)
    (hx:CQ F x = .slice (some ⟨b,o,none⟩) n c) (hhi:CQ F hi = .int kk nn) (hn:nn=(k:Int)) (hk:k≤c) (h:K (.slice (some ⟨b,o,none⟩) k c) w):DL P (.slice t x none (some hi) none) ty F w K Z:=by
  subst hn
  have hb:(Instr.sliceBounds true n c none (some (.int kk (k:Int))) none).run P w = .ok (0,k,c) w:=by
    have b2:∀ code,(Instr.sliceBound (.int kk (k:Int)) c code).run P w = .ok k w:=fun code=>by
      rw [run_sliceBound (P:=P) w kk (k:Int) c code (by omega) (by omega)];rfl
    simp [Instr.sliceBounds,b2]
  refine BU ?_ h
  by_cases hc0:c=0
  · subst hc0;simp [execOp,hx,hhi,Instr.sliceAt,run_underlying ht,Instr.slice,hb,EH hs]
  · simp [execOp,hx,hhi,Instr.sliceAt,run_underlying ht,Instr.slice,hb,EH hs,hc0,Addr.add]
theorem o_cap {t e:TypeId} (A:Option Addr) (n c:Nat) (ht:P.underlying t=some (.slice e)) (hx:CQ F x = .slice A n c) (h:K (vI c) w) :
    DL P (.call { callee:=.builtin .cap,args:=#[x],argTypes:=#[t] }) ty F w K Z:=
  BU (by simp [execOp,resolve,invoke,builtin,hx,Builtin.cap_,run_underlying ht,goInt]) h
variable {w0:World} {B O0:List Nat}
theorem OE {t t2 e size b o n c b2 o2 n2 c2 T T2:Nat} {cur cur2:List Value} (k:Nat) (ht:P.underlying t=some (.slice e)) (hs:DP P e=some size) (hx:CQ F x = .slice (some ⟨b,o,none⟩) n c) (hy:CQ F y = .slice (some ⟨b2,o2,none⟩) n2 c2)
    (hb:HC w b T cur) (hb2:HC w b2 T2 cur2) (hB:b∈B) (hk:Nat.min n2 n=k) (h1:o+k*size≤cur.length) (h2:o2+k*size≤cur2.length) (hone:∀ u∈(cur2.drop o2).take (k*size),u.oneCell'=true) (s:St w0 O0 w B)
    (h:∀ w',St w0 O0 w' B→Mv B w B w'→Keep [b] w w'→HC w' b T (GD cur o ((cur2.drop o2).take (k*size)))→K (vI k) w') :
    DL P (.call { callee:=.builtin .copy,args:=#[x,y],argTypes:=#[t,t2] }) ty F w K Z:=by
  obtain ⟨ms,hms⟩:∃ ms,ms=(cur2.drop o2).take (k*size):=⟨_,rfl⟩
  rw [← hms] at h hone
  have hml:ms.length=k*size:=by rw [hms];simp;omega
  have hsrc:(Builtin.firstCells size k (.slice (some ⟨b2,o2,none⟩) n2 c2)).run P w = .ok ms.toArray w:=
    run_firstCells_some w size k ⟨b2,o2,none⟩ n2 c2 ms hml (fun j v hj=>by
      rw [TW,hb2.cell,← hj,hms,List.getElem?_take]
      have:j<k*size:=by rw [← hml];exact (List.getElem?_eq_some_iff.1 hj).1
      rw [if_pos this,List.getElem?_drop])
  have hst:=run_storeCells_at P b o T ms 0 cur.toArray w hb (by simp;omega) hone
  simp only [Nat.add_zero] at hst
  have kp:Keep [b] w (w.setRow b (cur.toArray.toList.take o++ms++cur.toArray.toList.drop (o+ms.length)).toArray):=
    ⟨rfl,rfl,rfl,by simp,fun q _ hq=>setRow_other w b q _ (fun e=>hq (by simp [e]))⟩
  have mm:Mv B w B (w.setRow b (cur.toArray.toList.take o++ms++cur.toArray.toList.drop (o+ms.length)).toArray):=
    ⟨kp.mono (fun q hq=>by simp at hq;subst hq;exact .inl hB),fun q hq=>.inl hq⟩
  refine BU (v:=vI k) (w':=w.setRow b (cur.toArray.toList.take o++ms++cur.toArray.toList.drop (o+ms.length)).toArray) ?_ (h _ (s.step mm (fun q hq=>Nat.lt_of_lt_of_le (s.new q hq).2 kp.size)) mm kp (setRow_heap w b cur.toArray _ T (0,0) hb))
  simp [execOp,resolve,invoke,builtin,hx,hy,Builtin.copy_,run_underlying ht,EH hs,Builtin.lenOf,hk,hsrc,goInt] at hst ⊢
  rw [hst]
  rfl
theorem o_appendZ {t tn e size bytes b i c T:Nat} {z:Value} {cur:List Value} (k N:Nat) (nn:Int) (hN:i+k=N) (ht:P.underlying t=some (.slice e)) (htn:P.underlying tn=some (.int .i64)) (hi:(P.info? e).map (fun i=>(i.zero,i.size,i.bytes))=some (some z,size,bytes)) (hz:z.cells.size=size) (hpos:0<size)
    (hx:CQ F x = .slice (some ⟨b,0,none⟩) i c) (hy:CQ F y=vI nn) (hnn:nn=(k:Int)) (hb:HC w b T cur) (hcur:i*size≤cur.length) (h0:0<k) (hg:c<N) (hlen:N*bytes≤140737488355328) (hmax:N≤maxLen) (s:St w0 O0 w B)
    (h:∀ g G cur1 w',g=w.heap.size→w0.heap.size≤g→St w0 O0 w' (g :: B)→Mv B w (g :: B) w'→Keep [] w w'→HC w' g e cur1→cur1.length=G*size→N≤G→G≤maxLen→cur1.take (i*size)=cur.take (i*size)→K (.slice (some ⟨g,0,none⟩) N G) w') :
    DL P (.call { callee:=.builtin .append,args:=#[x,y],argTypes:=#[t,tn] }) ty F w K Z:=by
  subst hnn
  subst hN
  obtain ⟨inf,hi1,hi2,hi3,hi4⟩:=info_parts hi
  have hold:(Builtin.firstCells inf.size i (.slice (some ⟨b,0,none⟩) i c)).run P w.drew = .ok (cur.take (i*size)).toArray w.drew:=by
    rw [hi3]
    refine run_firstCells_some w.drew size i ⟨b,0,none⟩ i c (cur.take (i*size)) (by rw [List.length_take];omega) (fun j v hj=>?_)
    have hb':HC w.drew b T cur:=hb
    rw [TW,hb'.cell,Nat.zero_add]
    rw [List.getElem?_take] at hj
    split at hj
    · exact hj
    · cases hj
  have hfit:Builtin.nextslicecap (i+k) c*inf.bytes≤281474976710656:=by rw [hi4];exact growslice_fits hg hlen
  have hkb:k*inf.bytes≤281474976710656:=by
    rw [hi4]
    have:k*bytes≤(i+k)*bytes:=Nat.mul_le_mul_right _ (by omega)
    omega
  have hrun:=Lib.run_append_grow_zeros (P:=P) w t tn ty e inf z .i64 .i64 ht htn hi1 hi2 (some ⟨b,0,none⟩) i c (cur.take (i*size)) hold k h0 (by rw [hi3];exact hpos) hg (by simp only [maxLen] at hmax;omega) hkb hfit
  obtain ⟨G,hG⟩:∃ G,G=grownCap w (i+k) c e:=⟨_,rfl⟩
  have hG1:i+k≤G:=by rw [hG];exact grownCap_ge _ _ _ _
  have hG2:G≤maxLen:=by rw [hG];exact grownCap_le_maxLen _ _ _ _ hmax
  rw [← hG] at hrun
  obtain ⟨row,hrow⟩:∃ row:Array Value,row=(cur.take (i*size)).toArray++Builtin.zeroCells z.cells k++Builtin.zeroCells z.cells (G - (i+k)):=⟨_,rfl⟩
  rw [← hrow] at hrun
  have hrl:row.size=G*size:=by
    rw [hrow]
    simp only [Array.size_append,List.size_toArray,List.length_take,Builtin.zeroCells,Array.size_map,Array.size_range,hz]
    rw [Nat.min_eq_left hcur,← Nat.add_mul,← Nat.add_mul]
    congr 1;omega
  have hk:Keep [] w (w.drew.alloc (.cells row e)):=(Keep.drew [] w).trans (Keep.alloc _ _ _)
  have hsz:w.drew.heap.size=w.heap.size:=rfl
  have mv:Mv B w (w.heap.size :: B) (w.drew.alloc (.cells row e)):=⟨hk.nil,fun q hq=>by rcases List.mem_cons.1 hq with h|h;exact .inr (by omega);exact .inl h⟩
  have hbx:HC (w.drew.alloc (.cells row e)) w.heap.size e row.toList:=by
    have:=HC.new w.drew e row.toList
    simpa [hsz] using this
  refine BU (v:=.slice (some ⟨w.heap.size,0,none⟩) (i+k) G) (w':=w.drew.alloc (.cells row e)) ?_ (h _ G row.toList _ rfl s.keep.size (s.step mv (fun q hq=>?_)) mv hk hbx (by simpa using hrl) hG1 hG2 ?_)
  · simp [execOp,resolve,invoke,builtin,hx,hy,hrun]
  · rcases List.mem_cons.1 hq with h|h
    · subst h;exact hbx.lt
    · exact Nat.lt_of_lt_of_le (s.new q h).2 hk.size
  · rw [hrow]
    simp only [Array.toList_append,List.append_assoc]
    rw [List.take_append_of_le_length (by simp;omega)]
    rw [List.take_of_length_le (by simp;omega)]
theorem o_appendOO {α:Type} {E:Enc α} {t e:Nat} {z:Value} {bytes:Nat} {v u:Value} {l m:List α} (ht:P.underlying t=some (.slice e)) (hi:(P.info? e).map (fun i=>(i.zero,i.size,i.bytes))=some (some z,E.size,bytes)) (hzs:z.cells.size=E.size) (hpos:0<E.size)
    (hx:CQ F x=v) (hy:CQ F y=u) (ho:EG E e w0.heap.size (B++O0) w v l) (hu:EG E e w0.heap.size (B++O0) w u m) (hv:∀ b,v.ownBlock=some b→b∈B) (hlen:(l.length+m.length)*bytes≤140737488355328) (hlm:l.length+m.length≤maxLen) (s:St w0 O0 w B)
    (h:∀ v' w' B',(∀ b,v'.ownBlock=some b→b∈B')→(v'.ownBlock=v.ownBlock∨v'.ownBlock=some w.heap.size)→(∀ b∈B,b∈B')→St w0 O0 w' B'→Mv B w B' w'→Keep v.ownBlock.toList w w'→EG E e w0.heap.size (B'++O0) w' v' (l++m)→K v' w') :
    DL P (.call { callee:=.builtin .append,args:=#[x,y],argTypes:=#[t,t] }) ty F w K Z:=by
  obtain ⟨i,hi1,hi2,hi3,hi4⟩:=info_parts hi
  obtain ⟨css,h1,h2,h3⟩:=ho
  have hsrc:∃ (A:Option Addr) (c:Nat) (css':List (List Value)),u = .slice A m.length c∧m.length≤c∧c≤maxLen∧(A=none→m=[])∧css'.length=m.length∧(∀ (j:Nat) (cs:List Value) (y:α),css'[j]? = some cs→m[j]? = some y→E.rd w (B++O0) cs y)∧(∀ ad,A=some ad→∀ j u,css'.flatten[j]? = some u→w.cell? (ad.add j)=some u):=by
    obtain ⟨css',q1,q2,q3⟩:=hu
    rcases q2.2 with ⟨rfl,q4⟩|⟨g,cap,cur,rfl,hb,hg,hc,hm,hsz,htk⟩
    · exact ⟨none,0,css',by rw [q4],by omega,by simp [maxLen],fun _=>List.eq_nil_of_length_eq_zero q4,q1,q3,fun ad h=>by cases h⟩
    · refine ⟨some ⟨g,0,none⟩,cap,css',rfl,hc,hm,(fun h=>nomatch h),q1,q3,fun ad h j u hj=>?_⟩
      cases h;exact q2.cells (g:=g) rfl j u hj
  obtain ⟨A,c,css',rfl,h4,h5,h6,k1,k2,k3⟩:=hsrc
  have hlens':∀ cs∈css',cs.length=E.size:=EG.lens k1 k2
  have hones:∀ u∈css'.flatten,u.oneCell'=true:=by
    intro u hu
    obtain ⟨cs,hcs,hucs⟩:=List.mem_flatten.1 hu
    obtain ⟨j,hj,rfl⟩:=List.getElem_of_mem hcs
    exact E.one (k2 j _ m[j] (List.getElem?_eq_getElem hj) (List.getElem?_eq_getElem (by omega))) u hucs
  have hlen':css'.flatten.length=m.length*E.size:=by rw [EZ css' hlens',k1]
  have fin:∀ v' w' B',w'.ownsRow w0.heap.size e E.size v' (l.length+m.length) (css.flatten++css'.flatten)→Mv B w B' w'→EG E e w0.heap.size (B'++O0) w' v' (l++m):=by
    intro v' w' B' hr hmv
    refine ⟨css++css',by simp [h1,k1],by simpa using hr,fun j cs y hj hy=>?_⟩
    by_cases hjl:j<l.length
    · rw [List.getElem?_append_left (by omega)] at hj hy
      exact E.mv (h3 j cs y hj hy) hmv
    · rw [List.getElem?_append_right (by omega)] at hj hy
      rw [h1] at hj
      exact E.mv (k2 _ cs y hj hy) hmv
  have step:∀ v' w',(Builtin.append_ #[t,t] ty #[v, .slice A m.length c]).run P w = .ok v' w'→w'.ownsRow w0.heap.size e E.size v' (l.length+m.length) (css.flatten++css'.flatten)→w.grownBy w' v.ownBlock→(v'.ownBlock=v.ownBlock∨v'.ownBlock=some w.heap.size)→
      DL P (.call { callee:=.builtin .append,args:=#[x,y],argTypes:=#[t,t] }) ty F w K Z:=by
    intro v' w' hr hown hg hat
    have hk:Keep v.ownBlock.toList w w':=Keep.of_grown hg
    have hB:Keep B w w':=hk.mono (fun b hb=>.inl (hv b (by simpa using hb)))
    have hown':=hown.lt
    rcases hat with hat|hat
    · have mv:Mv B w B w':=⟨hB,fun b hb=>.inl hb⟩
      exact BU (v:=v') (w':=w') (by simp [execOp,resolve,invoke,builtin,hx,hy,hr]) (h v' w' B (fun b hb=>hv b (by rw [← hat];exact hb)) (.inl hat) (fun b hb=>hb) (s.step mv (fun b hb=>Nat.lt_of_lt_of_le (s.new b hb).2 hk.size)) mv hk (fin v' w' B hown mv))
    · have mv:Mv B w (w.heap.size :: B) w':=⟨hB,fun b hb=>by rcases List.mem_cons.1 hb with h|h;exact .inr (by omega);exact .inl h⟩
      exact BU (v:=v') (w':=w') (by simp [execOp,resolve,invoke,builtin,hx,hy,hr]) (h v' w' (w.heap.size :: B) (fun b hb=>by rw [hat] at hb;cases hb;simp) (.inr hat) (fun b hb=>by simp [hb])
        (s.step mv (fun b hb=>by
          rcases List.mem_cons.1 hb with h|h
          · subst h;exact (hown' _ hat).2
          · exact Nat.lt_of_lt_of_le (s.new b h).2 hk.size)) mv hk (fin v' w' _ hown mv))
  rcases A with _|ad
  · have hm0:m=[]:=h6 rfl
    subst hm0
    have hc0:css'=[]:=List.eq_nil_of_length_eq_zero (by simpa using k1)
    subst hc0
    refine step v w ?_ (by simpa using h2) ⟨rfl,rfl,rfl,Nat.le_refl _,fun _ _ _=>rfl⟩ (.inl rfl)
    rcases h2.2 with ⟨rfl,h0⟩|⟨g,cap,cur,rfl,_,_,hnc,_⟩
    · simp [Builtin.append_,run_underlying ht,sizeOf,typeInfo,hi1,Builtin.lenOf,Builtin.firstCells]
    · simp [Builtin.append_,run_underlying ht,sizeOf,typeInfo,hi1,Builtin.lenOf,Builtin.firstCells,hnc,storeCells]
  · obtain ⟨v',w',hr,g1,g2,_,g4⟩:=run_append_own_at (P:=P) w w0.heap.size t ty e i z E.size bytes ht hi1 hi2 hi3 hi4 hzs hpos v l.length css.flatten h2 ad m.length c css'.flatten hlen' (k3 ad rfl) hones hlm hlen s.keep.size
    exact step v' w' hr g1 g2 g4
theorem OF {α:Type} {E:Enc α} {t e base b j:Nat} {v:Value} {l:List α} {cs:List Value} (a:α) (hpos:0<E.size) (hs:DP P t=some E.size) (hx:CQ F x = .pointer (some ⟨b,j*E.size,none⟩)) (hy:CQ F y = .agg cs.toArray) (ho:EG E e base (B++O0) w v l) (hb:v.ownBlock=some b) (hB:b∈B) (hj:j<l.length) (hr:E.rd w (B++O0) cs a) (s:St w0 O0 w B)
    (h:∀ w',St w0 O0 w' B→Mv B w B w'→Keep [b] w w'→EG E e base (B++O0) w' v (l.set j a)→K undef w'):DL P (.store t x y) ty F w K Z:=by
  obtain ⟨css,h1,h2,h3⟩:=ho
  have hlens:=EG.lens h1 h3
  have hcl:cs.length=E.size:=E.len hr
  rcases h2.2 with ⟨rfl,h0⟩|⟨g,cap,cur,rfl,hbg,hg,hnc,hm,hsz,htk⟩
  · omega
  · have:g=b:=by simpa [Value.ownBlock] using hb
    subst this
    have hjn:j*E.size+E.size≤l.length*E.size:=by rw [← Nat.succ_mul];exact Nat.mul_le_mul_right _ hj
    have hnn:l.length*E.size≤cap*E.size:=Nat.mul_le_mul_right _ hnc
    have hcu:cur.toList.length=cap*E.size:=by simpa using hsz
    have hjc:j<css.length:=by omega
    have hcss:css=css.take j++css[j] :: css.drop (j+1):=by rw [← List.drop_eq_getElem_cons hjc,List.take_append_drop]
    obtain ⟨A,hA⟩:∃ A,A=(css.take j).flatten:=⟨_,rfl⟩
    obtain ⟨D,hD⟩:∃ D,D=(css.drop (j+1)).flatten:=⟨_,rfl⟩
    have hAl:A.length=j*E.size:=by rw [hA,EZ _ (fun c hc=>hlens c (List.mem_of_mem_take hc)),List.length_take];congr 1;omega
    have hDl:D.length=(l.length - (j+1))*E.size:=by rw [hD,EZ _ (fun c hc=>hlens c (List.mem_of_mem_drop hc)),List.length_drop,h1]
    have hXl:css[j].length=E.size:=hlens _ (List.getElem_mem hjc)
    have hfl:css.flatten=A++(css[j]++D):=by
      conv=>lhs;rw [hcss]
      rw [List.flatten_append,List.flatten_cons,← hA,← hD]
    have hcur:cur.toList=A++(css[j]++(D++cur.toList.drop (l.length*E.size))):=by
      rw [← List.append_assoc css[j],← List.append_assoc A,← hfl,← htk,List.take_append_drop]
    have hset:(css.set j cs).flatten=A++(cs++D):=by
      rw [List.set_eq_take_append_cons_drop,if_pos hjc,List.flatten_append,List.flatten_cons,← hA,← hD]
    have hnew:cur.toList.take (j*E.size)++cs++cur.toList.drop (j*E.size+cs.length)=A++(cs++(D++cur.toList.drop (l.length*E.size))):=by
      obtain ⟨R,hR⟩:∃ R,R=cur.toList.drop (l.length*E.size):=⟨_,rfl⟩
      rw [← hR] at hcur ⊢
      rw [hcur,← hAl,List.take_left,List.drop_length_add_append,hcl,← hXl,List.drop_left,List.append_assoc]
    refine BG (T:=e) (cs:=cur.toList) (vs:=cs) (.agg cs.toArray) hx hy rfl (by rw [hcl];exact hs) (E.one hr) hB (by simpa [HC] using hg) (by rw [hcl,hcu];omega) s fun w' k1 k2 k3 k4=>h w' k1 k2 k3 ?_
    rw [hnew] at k4
    refine ⟨css.set j cs,by simp [h1],⟨?_, .inr ⟨g,cap,(A++(cs++(D++cur.toList.drop (l.length*E.size)))).toArray,by simp,hbg,k4,by simpa using hnc,hm,?_,?_⟩⟩,fun q cs' y hq hy=>?_⟩
    · rw [hset]
      have hh:=h2.1
      rw [hfl] at hh
      simp only [List.length_append,List.length_set] at hh ⊢
      omega
    · have hh:=congrArg List.length hcur
      rw [hcu] at hh
      simp only [List.size_toArray,List.length_append] at hh ⊢
      omega
    · rw [hset]
      simp only [List.length_set]
      have e1:A++(cs++(D++cur.toList.drop (l.length*E.size)))=(A++(cs++D))++cur.toList.drop (l.length*E.size):=by simp
      have hh:=h2.1
      rw [hfl] at hh
      have e2:(A++(cs++D)).length=l.length*E.size:=by
        simp only [List.length_append] at hh ⊢
        omega
      rw [e1,← e2,List.take_left]
    · by_cases hjq:j=q
      · subst hjq
        simp [hjc] at hq
        simp [hj] at hy
        subst hq;subst hy
        exact E.mv hr k2
      · rw [List.getElem?_set,if_neg hjq] at hq hy
        exact E.mv (h3 q cs' y hq hy) k2
theorem o_overlaps {f:FuncId} {xs:List Operand} {ats:Array TypeId} {tS tR e size b b2 o o2 n n2 c c2 T T2:Nat} {cur cur2:List Value} (hc:∀ (x y:Value) (w:World),(Extern.SlicesOverlaps.overlaps #[tS,tS] #[tR] #[x,y]).run P w = .ok (.bool false) w→(callFunc f #[x,y]).run P w = .ok (.value (.bool false)) w)
    (ht:P.underlying tS=some (.slice e)) (hs:DP P e=some size) (hv:xs.map (CQ F)=[.slice (some ⟨b,o,none⟩) n c, .slice (some ⟨b2,o2,none⟩) n2 c2]) (hb:HC w b T cur) (hb2:HC w b2 T2 cur2) (hne:b≠b2) (h0:0<cur2.length) (h:K (.bool false) w) :
    DL P (.call { callee:=.value (.func f),args:=xs.toArray,argTypes:=ats }) ty F w K Z:=by
  refine BU (v:=.bool false) (w':=w) ?_ h
  have hr:=Lib.run_overlaps_apart (P:=P) w tS tR e ht size (fun w=>EH hs) ⟨b,o,none⟩ ⟨b2,o2,none⟩ n c n2 c2 hne T T2 cur.length cur2.length (by unfold HC at hb;simp [World.shape?,hb]) (by unfold HC at hb2;simp [World.shape?,hb2]) (by omega) (hb.frozen _) (hb.frozen _)
  have hr':=hc _ _ _ hr
  simp [execOp,resolve,Deferred.ofValue,CQ,invoke,hv,hr']
end
open Go.RowKit
section
variable {P:Program} {n:Nat} {Q:Exit→Fr→World→Prop}
theorem draw_runM {ops:List Oper} {m:Nat} {late:List Nat} {om:Oper} (INV:Array Bool→Fr→World→Prop) (hd:PN ops m late=true) (hndl:late.Nodup) (hok:ops.all (OU n ops)=true) (hom:ops[m]? = some om)
    (hdown:∀ listed F1 w1,INV listed F1 w1→∀ i,listed[i]? = some true→∀ j∈KX ops i,listed[j]? = some true)
    (hstep:∀ (listed:Array Bool) (F1:Fr) (w1:World) (i:Nat) (o:Oper),listed.size=ops.length→INV listed F1 w1→i<m→ops[i]? = some o→listed[i]? = some false→(∀ j∈KX ops i,listed[j]? = some true)→
      (Region.wanted o (DO ops F1)=true→DL P o.op o.type F1 w1 (fun v w2=>INV (listed.setIfInBounds i true) (IS F1 o.dst v) w2) (fun _ _=>False))∧
      (Region.wanted o (DO ops F1)=false→INV (listed.setIfInBounds i true) (IS F1 o.dst undef) w1))
    (fin:∀ listed F1 w1,INV listed F1 w1→(∀ j,j<m→listed[j]? = some true)→(∀ j,m≤j→listed[j]?≠some true)→WL false P ops Q (om :: CV ops (CM ops m)) F1 w1)
    (finL:∀ c,c<late.length→∀ listed F1 w1,INV listed F1 w1→(∀ j,j<m→(listed[j]? = some true↔j∉late.drop c))→(∀ j,m≤j→listed[j]?≠some true)→WL false P ops Q (om :: (CV ops (late.drop c)++CV ops (CM ops m))) F1 w1) :
    ∀ (fuel:Nat) (listed:Array Bool) (F1:Fr) (w1:World),listed.size=ops.length→PM ops listed≤fuel→(∀ j,m≤j→listed[j]?≠some true)→INV listed F1 w1→wpAny P .any ops.toArray (KL n Q) fuel listed (mk n F1) w1:=by
  unfold PN at hd
  simp only [Bool.and_eq_true] at hd
  obtain ⟨⟨⟨⟨⟨⟨⟨⟨⟨d1,d2⟩,d3⟩,d4⟩,d5⟩,d6⟩,d7⟩,d8⟩,d9⟩,d10⟩:=hd
  have hml:m<ops.length:=blt d5
  have hback:∀ k,k<ops.length→∀ j∈KX ops k,j<k:=fun k hk j hj=>blt (List.all_eq_true.1 (List.all_eq_true.1 d4 k (by simpa using hk)) j hj)
  have hin:∀ k,k<ops.length→∀ j∈KX ops k,j<ops.length:=fun k hk j hj=>Nat.lt_trans (hback k hk j hj) hk
  have hlm:∀ j∈late,j<m:=fun j hj=>blt (List.all_eq_true.1 d6 j hj)
  have htl:∀ j,j∈CM ops m↔m<j∧j<ops.length:=fun j=>by
    unfold CM
    rw [List.mem_iff_getElem?]
    simp only [List.getElem?_drop]
    constructor
    · rintro ⟨i,hi⟩
      have:=(List.getElem?_eq_some_iff.1 hi)
      obtain ⟨h1,h2⟩:=this
      simp at h1 h2;omega
    · rintro ⟨h1,h2⟩
      exact ⟨j - (m+1),by rw [List.getElem?_eq_getElem (by simp;omega)];simp;omega⟩
  have hndt:(CM ops m).Nodup:=by unfold CM;exact List.Nodup.sublist (List.drop_sublist _ _) List.nodup_range
  intro fuel
  induction fuel with
  | zero=>
    intro listed F1 w1 hsz hfu hno hi
    exfalso
    have h0:PM ops listed=0:=by omega
    unfold PM at h0
    have:=List.countP_eq_zero.1 h0 m (by simpa using hml)
    exact hno m (Nat.le_refl _) (by simpa using this)
  | succ fuel ih=>
    intro listed F1 w1 hsz hfu hno hi
    have hmn:listed[m]? = some false:=by
      have h1:=hno m (Nat.le_refl _)
      have:m<listed.size:=by omega
      rw [Array.getElem?_eq_getElem this] at h1 ⊢
      simpa using h1
    by_cases hall:∀ j,j<m→listed[j]? = some true
    · -- all of the first part have been carried out
      have e:CV ops (m :: CM ops m)=om :: CV ops (CM ops m):=by unfold CV;rw [List.filterMap_cons,hom]
      refine HA hok hin (m :: CM ops m) (fuel+1) listed F1 w1 hsz hfu (fun j hj=>⟨fun h=>?_,fun h=>?_⟩) (fun j hj=>?_) (List.nodup_cons.2 ⟨fun h=>by have:=(htl m).1 h;omega,hndt⟩) d8 (hdown _ _ _ hi) (by
        rw [e]
        exact fin listed F1 w1 hi hall hno)
      · intro hm'
        have:m≤j:=by rcases List.mem_cons.1 hm' with h1|h1;omega;have:=(htl j).1 h1;omega
        exact hno j this h
      · exact hall j (by
          rcases Nat.lt_or_ge j m with h1|h1
          · exact h1
          · exfalso;apply h
            rcases Nat.eq_or_lt_of_le h1 with h2|h2
            · subst h2;simp
            · exact List.mem_cons_of_mem _ ((htl j).2 ⟨h2,hj⟩))
      · rcases List.mem_cons.1 hj with h1|h1
        · omega
        · exact ((htl j).1 h1).2
    · have hex:∃ j,j<m∧listed[j]?≠some true:=by
        refine Classical.byContradiction fun hc=>hall fun j hj=>Classical.byContradiction fun hn=>hc ⟨j,hj,hn⟩
      have hmin:∀ q j,q=j→j<m→listed[j]?≠some true→∃ k,k<m∧listed[k]?≠some true∧∀ i,i<k→listed[i]? = some true:=by
        intro q
        induction q using Nat.strongRecOn with
        | _ q ihq=>
          intro j hqj hj hn
          by_cases hb:∀ i,i<j→listed[i]? = some true
          · exact ⟨j,hj,hn,hb⟩
          · have:∃ i,i<j∧listed[i]?≠some true:=Classical.byContradiction fun hc=>hb fun i hi=>Classical.byContradiction fun hn=>hc ⟨i,hi,hn⟩
            obtain ⟨i,hij,hni⟩:=this
            exact ihq i (by omega) i rfl (by omega) hni
      obtain ⟨j0,hj0,hn0⟩:=hex
      obtain ⟨k,hkm,hkn,hkb⟩:=hmin j0 j0 rfl hj0 hn0
      have hkf:listed[k]? = some false:=by
        have:k<listed.size:=by omega
        rw [Array.getElem?_eq_getElem this] at hkn ⊢
        simpa using hkn
      refine ⟨fun h0=>?_,fun i hir=>?_⟩
      · have:=ready_of' hsz (by omega) hkf (fun j hj=>hkb j (hback k (by omega) j hj))
        rw [h0] at this;cases this
      · obtain ⟨hnl,hil⟩:=KM hir hsz
        have ho:ops[i]? = some ops[i]:=List.getElem?_eq_getElem hil
        have haft:=HY ho hir hsz (hin i hil)
        have hclose:∀ j,DR ops i j=true→listed[j]? = some true:=fun j hj=>by
          unfold DR at hj
          exact GW (D:=fun j=>listed[j]? = some true) (hdown _ _ _ hi) _ _ haft j (by simpa using hj)
        rcases Nat.lt_or_ge i m with him|hge
        · have hsp:=hstep listed F1 w1 i ops[i] hsz hi him ho hnl haft
          have hno':∀ j,m≤j→(listed.setIfInBounds i true)[j]?≠some true:=fun j hj=>by
            rw [Array.getElem?_setIfInBounds,if_neg (by omega)];exact hno j hj
          refine LS (K:=fun F2 w2=>INV (listed.setIfInBounds i true) F2 w2) hok ho (fun F2 w2 hK=>ih _ F2 w2 (by simpa using hsz) (by have:=IL hil hsz hnl;omega) hno' hK) (fun hw=>?_) (fun hw=>hsp.2 hw)
          have h1:=hsp.1 hw
          unfold DL at h1 ⊢
          generalize (execOp (CQ F1) ⟨none,ops[i].op,ops[i].type,"",#[],none⟩).run P w1=r at h1 ⊢
          cases r with
          | ok x w'=>
            cases x <;> simp only [FS] at h1 ⊢ <;> try exact h1.elim
            case value v=>exact h1
            case skip=>exact h1
            case enter f args=>
              exact Calls.mono h1 fun e w'' he=>by
                cases e with
                | returned v=>exact he
                | panicked c=>exact he.elim
                | outgrown=>exact he.elim
          | halt x w'=>cases x <;> simp only [FS] at h1 ⊢ <;> exact h1.elim
        · -- operation m comes ahead of some late ones
          have him:i=m:=by
            rcases Nat.eq_or_lt_of_le hge with h1|h1
            · exact h1.symm
            · have h2:=hclose m (List.all_eq_true.1 d3 i ((htl i).2 ⟨h1,hil⟩))
              rw [hmn] at h2;cases h2
          subst him
          have hnl':∀ j,j<i→j∉late→listed[j]? = some true:=fun j hj hjl=>by
            have h1:=List.all_eq_true.1 d2 j (by simpa using hj)
            simp only [Bool.or_eq_true,List.contains_iff_mem] at h1
            exact hclose j (h1.resolve_left hjl)
          have hex2:∃ (c:Nat) (j:Nat),late[c]? = some j∧listed[j]?≠some true:=by
            have h1:j0∈late:=Classical.byContradiction fun hc=>hn0 (hnl' j0 hj0 hc)
            obtain ⟨c,hc⟩:=List.mem_iff_getElem?.1 h1
            exact ⟨c,j0,hc,hn0⟩
          have hminc:∀ q c:Nat,q=c→(∃ j:Nat,late[c]? = some j∧listed[j]?≠some true)→∃ c':Nat,(∃ j:Nat,late[c']? = some j∧listed[j]?≠some true)∧∀ x j:Nat,x<c'→late[x]? = some j→listed[j]? = some true:=by
            intro q
            induction q using Nat.strongRecOn with
            | _ q ihq=>
              intro c hqc hc
              by_cases hb:∀ x j:Nat,x<c→late[x]? = some j→listed[j]? = some true
              · exact ⟨c,hc,hb⟩
              · have:∃ x j:Nat,x<c∧late[x]? = some j∧listed[j]?≠some true:=Classical.byContradiction fun hcn=>hb fun x j hx hj=>Classical.byContradiction fun hn=>hcn ⟨x,j,hx,hj,hn⟩
                obtain ⟨x,j,hx,hj,hn⟩:=this
                exact ihq x (by omega) x rfl ⟨j,hj,hn⟩
          obtain ⟨c0,hc0⟩:=hex2
          obtain ⟨c,⟨jc,hjc,hjn⟩,hcb⟩:=hminc c0 c0 rfl hc0
          have hcl:c<late.length:=(List.getElem?_eq_some_iff.1 hjc).1
          have hcw:∀ b a,listed[b]? = some true→DR ops b a=true→listed[a]? = some true:=fun b a hb hba=>by
            unfold DR at hba
            exact GW (D:=fun j=>listed[j]? = some true) (hdown _ _ _ hi) _ _ ((hdown _ _ _ hi) b hb) a (by simpa using hba)
          have hdropn:∀ j∈late.drop c,¬ listed[j]? = some true:=QA (D:=fun j=>listed[j]? = some true) hcw late d7 c ⟨jc,hjc,hjn⟩
          have hdropm:∀ j,j<i→(listed[j]? = some true↔j∉late.drop c):=fun j hj=>by
            constructor
            · intro h1 h2;exact hdropn j h2 h1
            · intro h1
              by_cases hjl:j∈late
              · obtain ⟨x,hx⟩:=List.mem_iff_getElem?.1 hjl
                by_cases hxc:x<c
                · exact hcb x j hxc hx
                · exfalso;apply h1
                  exact List.mem_iff_getElem?.2 ⟨x - c,by rw [List.getElem?_drop,show c+(x - c)=x by omega];exact hx⟩
              · exact hnl' j hj hjl
          have hK:=finL c hcl listed F1 w1 hi hdropm hno
          have hom':om=ops[i]:=by rw [ho] at hom;exact (Option.some.inj hom).symm
          have hso:CV ops (late.drop c)++CV ops (CM ops i)=CV ops (late.drop c++CM ops i):=by unfold CV;rw [List.filterMap_append]
          rw [hso,hom'] at hK
          have hset:∀ j,(listed.setIfInBounds i true)[j]? = some true↔j=i∨listed[j]? = some true:=fun j=>by
            rw [Array.getElem?_setIfInBounds]
            by_cases hji:i=j
            · subst hji;simp;omega
            · rw [if_neg hji];exact ⟨fun h=>.inr h,fun h=>h.resolve_left (fun e=>hji e.symm)⟩
          refine LS (K:=fun F w=>WL false P ops Q (CV ops (late.drop c++CM ops i)) F w) hok ho (fun F2 w2 hK2=>HA hok hin (late.drop c++CM ops i) fuel _ F2 w2 (by simpa using hsz) (by have:=IL hil hsz hnl;omega) (fun j hj=>?_) (fun j hj=>?_) ?_ (List.all_eq_true.1 d9 c (by simpa using hcl)) (fun j hj q hq=>?_) hK2) (fun hw=>?_) (fun hw=>?_)
          · rw [hset j,List.mem_append,htl j]
            constructor
            · rintro (rfl|h1)
              · rintro (h2|h2)
                · have:=hlm j (List.mem_of_mem_drop h2);omega
                · omega
              · rintro (h2|h2)
                · exact hdropn j h2 h1
                · exact hno j (by omega) h1
            · intro h1
              rcases Nat.lt_trichotomy j i with h2|h2|h2
              · exact .inr ((hdropm j h2).2 (fun h3=>h1 (.inl h3)))
              · exact .inl h2
              · exact absurd (.inr ⟨h2,hj⟩) h1
          · rcases List.mem_append.1 hj with h1|h1
            · have:=hlm j (List.mem_of_mem_drop h1);omega
            · exact ((htl j).1 h1).2
          · refine List.nodup_append.2 ⟨List.Nodup.sublist (List.drop_sublist _ _) hndl,hndt,fun a ha b hb e=>?_⟩
            have h1:=hlm a (List.mem_of_mem_drop ha)
            have h2:=(htl b).1 hb
            omega
          · rw [hset q]
            rcases (hset j).1 hj with rfl|h1
            · exact .inr (haft q hq)
            · exact .inr ((hdown _ _ _ hi) j h1 q hq)
          · unfold WL at hK;rw [if_pos hw] at hK;exact hK.resolve_right (fun e=>by cases e.1)
          · unfold WL at hK;rw [if_neg (by rw [hw];simp)] at hK;exact hK
abbrev Pr2:=Value→Value→World→Prop
def prR (Rs:List Pr2) (i:Nat):Pr2:=(Rs[i]?).getD (fun _ _ _=>True)
def OpSpecR (P:Program) (ops:List Oper) (m:Nat) (Ts:List Pr) (Rs:List Pr2) (F:Fr) (w:World) (a i:Nat) (o:Oper) (T:Pr) (R:Pr2):Prop:=
  ∀ F1 w1,Keep [] w w1→(∀ t,NK ops i t=true→F1 t=F t)→(∀ j d,UI ops m i j d=true→NH Ts j (F1 d) w1)→
    ∀ vo:Option Value,(∀ u,vo=some u→NH Ts a u w1)→(∀ u,vo=some u→∀ j d,j≠a→UI ops m i j d=true→prR Rs j u (F1 d) w1)→
    (Region.wanted o (DO ops F1)=true→DL P o.op o.type F1 w1 (fun v w2=>Keep [] w1 w2∧T v w2∧∀ u,vo=some u→R u v w2) (fun _ _=>False))∧
    (Region.wanted o (DO ops F1)=false→T undef w1∧∀ u,vo=some u→R u undef w1)
def TR:List Pr→List Pr2→Value→World→World→Prop
  | T :: Ts,R :: Rs,v,w1,w2=>(∀ x,T x w1→R v x w2)∧TR Ts Rs v w1 w2
  | _,_,_,_,_=>True
theorem TR.at_:∀ {Ts:List Pr} {Rs:List Pr2} {v:Value} {w1 w2:World},Rs.length=Ts.length→TR Ts Rs v w1 w2→∀ i x,NH Ts i x w1→i<Ts.length→prR Rs i v x w2
  | [],_,_,_,_,_,_,i,x,_,hi=>by simp at hi
  | T :: Ts,[],_,_,_,h,_,_,_,_,_=>by simp at h
  | T :: Ts,R :: Rs,v,w1,w2,hl,h,0,x,hx,_=>h.1 x hx
  | T :: Ts,R :: Rs,v,w1,w2,hl,h,i+1,x,hx,hi=>TR.at_ (by simpa using hl) h.2 i x hx (by simpa using hi)
def OpSpecA (P:Program) (ops:List Oper) (m:Nat) (Ts:List Pr) (Rs:List Pr2) (F:Fr) (w:World) (i:Nat) (o:Oper) (T:Pr):Prop:=
  o.guard=none∧∀ F1 w1,Keep [] w w1→(∀ t,NK ops i t=true→F1 t=F t)→(∀ j d,UI ops m i j d=true→NH Ts j (F1 d) w1)→
    DL P o.op o.type F1 w1 (fun v w2=>Keep [] w1 w2∧T v w2∧TR Ts Rs v w1 w2) (fun _ _=>False)
def SpecsR (P:Program) (ops:List Oper) (m:Nat) (Ts:List Pr) (Rs:List Pr2) (F:Fr) (w:World) (a:Nat):Nat→List Oper→List Pr→List Pr2→Prop
  | i,o :: r,T :: R,Q :: S=>(bif Nat.beq i a then OpSpecA P ops m Ts Rs F w i o T else OpSpecR P ops m Ts Rs F w a i o T Q)∧SpecsR P ops m Ts Rs F w a (i+1) r R S
  | _,_,_,_=>True
theorem SpecsR.at_ {ops:List Oper} {m:Nat} {Ts:List Pr} {Rs:List Pr2} {F:Fr} {w:World} {a:Nat}:∀ (l:List Oper) (R:List Pr) (S:List Pr2) (k i:Nat) (o:Oper) (T:Pr) (Q:Pr2),SpecsR P ops m Ts Rs F w a k l R S→l[i]? = some o→R[i]? = some T→S[i]? = some Q→
    (bif Nat.beq (k+i) a then OpSpecA P ops m Ts Rs F w (k+i) o T else OpSpecR P ops m Ts Rs F w a (k+i) o T Q)
  | [],_,_,_,_,_,_,_,_,h,_,_=>by simp at h
  | _ :: _,[],_,_,_,_,_,_,_,_,h,_=>by simp at h
  | _ :: _,_ :: _,[],_,_,_,_,_,_,_,_,h=>by simp at h
  | o' :: l,T' :: R,Q' :: S,k,0,o,T,Q,h,h1,h2,h3=>by
    simp at h1 h2 h3;subst h1;subst h2;subst h3;exact h.1
  | o' :: l,T' :: R,Q' :: S,k,i+1,o,T,Q,h,h1,h2,h3=>by
    have:=SpecsR.at_ l R S (k+1) i o T Q h.2 (by simpa using h1) (by simpa using h2) (by simpa using h3)
    rwa [show k+1+i=k+(i+1) by omega] at this
def StabR:List Pr2→Prop
  | []=>True
  | T :: R=>(∀ u v w w',T u v w→Keep [] w w'→T u v w')∧StabR R
theorem StabR.of:∀ {Rs:List Pr2},StabR Rs→∀ T∈Rs,∀ u v w w',T u v w→Keep [] w w'→T u v w'
  | [],_,T,h=>by cases h
  | T' :: R,hs,T,h=>by
    rcases List.mem_cons.1 h with rfl|h
    · exact hs.1
    · exact StabR.of hs.2 T h
end
section
variable {P:Program} {w:World} {F:Fr} {K:Value→World→Prop} {Z:List PanicEntry→World→Prop} {ty:TypeId}
end
open Go.RowKit
section
variable {P:Program} {ty:TypeId} {F:Fr} {w w0:World} {O0 B:List Nat} {K:Value→World→Prop} {Z:List PanicEntry→World→Prop} {x y:Operand}
def RdN {α:Type} (E:Enc α) (u:World) (O:List Nat) (w:World) (v:Value) (l:List α):Prop:=
  ∃ (A:Addr) (c:Nat),v = .slice (some A) l.length c∧l.length≤c∧c≤maxLen∧∃ css:List (List Value),css.length=l.length∧(∀ (j:Nat) (cs:List Value) (y:α),css[j]? = some cs→l[j]? = some y→E.rd u O cs y)∧∀ (j:Nat) (q:Value),css.flatten[j]? = some q→w.cell? (A.add j)=some q
theorem RdN.keep {α:Type} {E:Enc α} {u:World} {O:List Nat} {w w':World} {v:Value} {l:List α} (h:RdN E u O w v l) (k:Keep [] w w'):RdN E u O w' v l:=by
  obtain ⟨A,c,h1,h2,h3,css,h4,h5,h6⟩:=h
  exact ⟨A,c,h1,h2,h3,css,h4,h5,fun j q hq=>TH k (h6 j q hq)⟩
theorem o_appendN {α:Type} {E:Enc α} {t e:Nat} {z:Value} {bytes:Nat} {v u:Value} {l m:List α} {O':List Nat} {uw:World} (ht:P.underlying t=some (.slice e)) (hi:(P.info? e).map (fun i=>(i.zero,i.size,i.bytes))=some (some z,E.size,bytes)) (hzs:z.cells.size=E.size) (hpos:0<E.size)
    (hx:CQ F x=v) (hy:CQ F y=u) (ho:EG E e w0.heap.size (B++O0) w v l) (hu:RdN E uw O' w u m) (hav:∀ cs y,E.rd uw O' cs y→E.rd w (B++O0) cs y) (hv:∀ b,v.ownBlock=some b→b∈B) (hlen:(l.length+m.length)*bytes≤140737488355328) (hlm:l.length+m.length≤maxLen) (s:St w0 O0 w B)
    (h:∀ v' w' B',(∀ b,v'.ownBlock=some b→b∈B')→(v'.ownBlock=v.ownBlock∨v'.ownBlock=some w.heap.size)→(∀ b∈B,b∈B')→St w0 O0 w' B'→Mv B w B' w'→Keep v.ownBlock.toList w w'→EG E e w0.heap.size (B'++O0) w' v' (l++m)→K v' w') :
    DL P (.call { callee:=.builtin .append,args:=#[x,y],argTypes:=#[t,t] }) ty F w K Z:=by
  obtain ⟨i,hi1,hi2,hi3,hi4⟩:=info_parts hi
  obtain ⟨css,h1,h2,h3⟩:=ho
  obtain ⟨ad,c,rfl,h4,h5,css',k1,k2,k3⟩:=hu
  have hlens':∀ cs∈css',cs.length=E.size:=EG.lens k1 k2
  have hones:∀ u∈css'.flatten,u.oneCell'=true:=by
    intro u hu
    obtain ⟨cs,hcs,hucs⟩:=List.mem_flatten.1 hu
    obtain ⟨j,hj,rfl⟩:=List.getElem_of_mem hcs
    exact E.one (k2 j _ m[j] (List.getElem?_eq_getElem hj) (List.getElem?_eq_getElem (by omega))) u hucs
  have hlen':css'.flatten.length=m.length*E.size:=by rw [EZ css' hlens',k1]
  have fin:∀ v' w' B',w'.ownsRow w0.heap.size e E.size v' (l.length+m.length) (css.flatten++css'.flatten)→Mv B w B' w'→EG E e w0.heap.size (B'++O0) w' v' (l++m):=by
    intro v' w' B' hr hmv
    refine ⟨css++css',by simp [h1,k1],by simpa using hr,fun j cs y hj hy=>?_⟩
    by_cases hjl:j<l.length
    · rw [List.getElem?_append_left (by omega)] at hj hy
      exact E.mv (h3 j cs y hj hy) hmv
    · rw [List.getElem?_append_right (by omega)] at hj hy
      rw [h1] at hj
      exact E.mv (hav _ _ (k2 _ cs y hj hy)) hmv
  have step:∀ v' w',(Builtin.append_ #[t,t] ty #[v, .slice (some ad) m.length c]).run P w = .ok v' w'→w'.ownsRow w0.heap.size e E.size v' (l.length+m.length) (css.flatten++css'.flatten)→w.grownBy w' v.ownBlock→(v'.ownBlock=v.ownBlock∨v'.ownBlock=some w.heap.size)→
      DL P (.call { callee:=.builtin .append,args:=#[x,y],argTypes:=#[t,t] }) ty F w K Z:=by
    intro v' w' hr hown hg hat
    have hk:Keep v.ownBlock.toList w w':=Keep.of_grown hg
    have hB:Keep B w w':=hk.mono (fun b hb=>.inl (hv b (by simpa using hb)))
    have hown':=hown.lt
    rcases hat with hat|hat
    · have mv:Mv B w B w':=⟨hB,fun b hb=>.inl hb⟩
      exact BU (v:=v') (w':=w') (by simp [execOp,resolve,invoke,builtin,hx,hy,hr]) (h v' w' B (fun b hb=>hv b (by rw [← hat];exact hb)) (.inl hat) (fun b hb=>hb) (s.step mv (fun b hb=>Nat.lt_of_lt_of_le (s.new b hb).2 hk.size)) mv hk (fin v' w' B hown mv))
    · have mv:Mv B w (w.heap.size :: B) w':=⟨hB,fun b hb=>by rcases List.mem_cons.1 hb with h|h;exact .inr (by omega);exact .inl h⟩
      exact BU (v:=v') (w':=w') (by simp [execOp,resolve,invoke,builtin,hx,hy,hr]) (h v' w' (w.heap.size :: B) (fun b hb=>by rw [hat] at hb;cases hb;simp) (.inr hat) (fun b hb=>by simp [hb])
        (s.step mv (fun b hb=>by
          rcases List.mem_cons.1 hb with h|h
          · subst h;exact (hown' _ hat).2
          · exact Nat.lt_of_lt_of_le (s.new b h).2 hk.size)) mv hk (fin v' w' _ hown mv))
  obtain ⟨v',w',hr,g1,g2,_,g4⟩:=run_append_own_at (P:=P) w w0.heap.size t ty e i z E.size bytes ht hi1 hi2 hi3 hi4 hzs hpos v l.length css.flatten h2 ad m.length c css'.flatten hlen' k3 hones hlm hlen s.keep.size
  exact step v' w' hr g1 g2 g4
end
open Go.RowKit
abbrev VM:=List Nat→Value→World→Prop
def prU (Ts:List VM) (i:Nat):VM:=(Ts[i]?).getD (fun _ _ _=>True)
structure Gr where
  g:Nat
  rs:List Nat
  hs:List Nat
  kills:List Nat
  wr:Bool
  uses:List Nat
def QV (G:List Gr) (i:Nat):Gr:=(G[i]?).getD ⟨0,[],[],[],false,[]⟩
def aliveB (G:List Gr) (m i:Nat):Bool:=(List.range m).all fun q=>!(QV G q).kills.contains i
theorem nbf {a b:Nat}:Nat.beq a b=false↔a≠b:=by
  constructor
  · intro h e;subst e;rw [Nat.beq_refl] at h;cases h
  · intro h
    cases hb:Nat.beq a b with
    | false=>rfl
    | true=>exact absurd (Nat.eq_of_beq_eq_true hb) h
def avo (lab:Nat→Nat) (base size g:Nat):List Nat:=(List.range size).filter fun b=>Nat.ble base b && !Nat.beq (lab b) g
theorem IQ {lab:Nat→Nat} {base size g b:Nat}:b∈avo lab base size g↔b<size∧base≤b∧lab b≠g:=by
  unfold avo;simp [List.mem_filter,nbf]
def UM (ops:List Oper) (m:Nat) (G:List Gr):Bool:=
  (List.range m).all fun i=>let r:=QV G i
    (Nat.beq r.g 0 || r.rs.all (fun x=>Nat.beq x r.g || r.hs.contains x)) && (!r.wr || !Nat.beq r.g 0) && (!Nat.beq r.g 0 || r.hs.isEmpty) && !r.hs.contains r.g && !r.hs.contains 0 &&
    (List.range m).all (fun q=>Nat.beq q i || Nat.beq (QV G q).g 0 || r.kills.contains q || DR ops q i || (!r.hs.contains (QV G q).g && (!r.wr || !Nat.beq (QV G q).g r.g))) &&
    r.uses.all (fun j=>Nat.blt j m && (KX ops i).contains j && (Nat.beq (QV G j).g 0 || r.rs.contains (QV G j).g) && (List.range m).all (fun q=>Nat.beq q i || !(QV G q).kills.contains j || DR ops q i))
def TU:List VM→List Gr→Prop
  | T :: Ts,r :: G=>(bif Nat.beq r.g 0 then (∀ B B' v w w',T B v w→T B' v w') else (∀ B B' v w w',T B v w→Mv B w B' w'→T B' v w'))∧TU Ts G
  | _,_=>True
theorem TU.at_:∀ {Ts:List VM} {G:List Gr},TU Ts G→G.length=Ts.length→∀ i,(bif Nat.beq (QV G i).g 0 then (∀ B B' v w w',prU Ts i B v w→prU Ts i B' v w') else (∀ B B' v w w',prU Ts i B v w→Mv B w B' w'→prU Ts i B' v w'))
  | [],[],_,_,i=>by simp only [QV,prU,List.getElem?_nil,Option.getD_none];exact fun _ _ _ _ _ _=>trivial
  | T :: Ts,r :: G,h,hl,0=>h.1
  | T :: Ts,r :: G,h,hl,i+1=>TU.at_ h.2 (by simpa using hl) i
  | [],_ :: _,_,h,_=>by simp at h
  | _ :: _,[],_,h,_=>by simp at h
section
variable {P:Program} {n:Nat} {Q:Exit→Fr→World→Prop}
def OpSpecU (P:Program) (ops:List Oper) (m:Nat) (Ts:List VM) (G:List Gr) (F:Fr) (w:World) (B:List Nat) (i:Nat) (o:Oper) (T:VM):Prop:=
  ∀ F1 w1 (B1:List Nat) (Bs:Nat→List Nat),Keep [] w w1→(∀ b∈B,b∈B1)→(∀ b∈B1,b∈B∨(w.heap.size≤b∧b<w1.heap.size))→(∀ g,(QV G i).rs.contains g=true→∀ b∈B1,b∈Bs g)→(∀ g h b,Nat.beq g h=false→w.heap.size≤b→b<w1.heap.size→b∉Bs g→b∈Bs h)→(∀ t,NK ops i t=true→F1 t=F t)→
    (∀ j d,(QV G i).uses.contains j=true→depAt' ops j d=true→prU Ts j (Bs (QV G j).g) (F1 d) w1)→
    (Region.wanted o (DO ops F1)=true→DL P o.op o.type F1 w1 (fun v w2=>∃ C,Keep C w1 w2∧(∀ b∈C,(QV G i).wr=true∧w.heap.size≤b∧b<w1.heap.size∧b∉B1)∧T B1 v w2) (fun _ _=>False))∧
    (Region.wanted o (DO ops F1)=false→T B1 undef w1)
def PL (P:Program) (ops:List Oper) (m:Nat) (Ts:List VM) (G:List Gr) (F:Fr) (w:World) (B:List Nat):Nat→List Oper→List VM→Prop
  | i,o :: r,T :: R=>OpSpecU P ops m Ts G F w B i o T∧PL P ops m Ts G F w B (i+1) r R
  | _,_,_=>True
theorem PL.at_ {ops:List Oper} {m:Nat} {Ts:List VM} {G:List Gr} {F:Fr} {w:World} {B:List Nat}:∀ (l:List Oper) (R:List VM) (k i:Nat) (o:Oper) (T:VM),PL P ops m Ts G F w B k l R→l[i]? = some o→R[i]? = some T→OpSpecU P ops m Ts G F w B (k+i) o T
  | [],_,_,_,_,_,_,h,_=>by simp at h
  | _ :: _,[],_,_,_,_,_,_,h=>by simp at h
  | o' :: l,T' :: R,k,0,o,T,h,h1,h2=>by
    simp at h1 h2;subst h1;subst h2;exact h.1
  | o' :: l,T' :: R,k,i+1,o,T,h,h1,h2=>by
    have:=PL.at_ l R (k+1) i o T h.2 (by simpa using h1) (by simpa using h2)
    rwa [show k+1+i=k+(i+1) by omega] at this
structure UInv (ops:List Oper) (m:Nat) (Ts:List VM) (G:List Gr) (F:Fr) (w:World) (B:List Nat) (listed:Array Bool) (F1:Fr) (w1:World):Prop where
  keep:Keep [] w w1
  down:∀ i,listed[i]? = some true→∀ j∈KX ops i,listed[j]? = some true
  free:∀ (t:Tmp),(∀ (j:Nat) (o:Oper),listed[j]? = some true→ops[j]? = some o→o.dst≠some t)→F1 t=F t
  fact:∃ lab:Nat→Nat,∀ (i:Nat) (o:Oper) (d:Tmp),i<m→listed[i]? = some true→(∀ q,q<m→listed[q]? = some true→i∉(QV G q).kills)→ops[i]? = some o→o.dst=some d→prU Ts i (avo lab w.heap.size w1.heap.size (QV G i).g++B) (F1 d) w1
theorem Keep.behind {a b c:World} {C:List Nat} (h:Keep [] a b) (k:Keep C b c) (hC:∀ x∈C,a.heap.size≤x):Keep [] a c:=
  ⟨k.os.trans h.os,k.tape.trans h.tape,k.output.trans h.output,Nat.le_trans h.size k.size,fun i hi ho=>(k.block i (Nat.lt_of_lt_of_le hi h.size) (fun hc=>by have:=hC i hc;omega)).trans (h.block i hi ho)⟩
theorem stepU {ops:List Oper} {F:Fr} {w:World} {m:Nat} {Ts:List VM} {G:List Gr} {B:List Nat} (hdo:∀ (i j:Nat) (oi oj:Oper),i<m→j<m→i≠j→ops[i]? = some oi→ops[j]? = some oj→oi.dst≠none→oi.dst≠oj.dst)
    (hTl:Ts.length=m) (hGl:G.length=Ts.length) (hle:m≤ops.length) (hgr:UM ops m G=true) (hst:TU Ts G)
    (hs:PL P ops m Ts G F w B 0 (ops.take m) Ts) {listed:Array Bool} {F1:Fr} {w1:World} {i:Nat} {o:Oper} (hsz:listed.size=ops.length) (hi:UInv ops m Ts G F w B listed F1 w1) (him:i<m) (ho:ops[i]? = some o) (hnl:listed[i]? = some false) (haft:∀ j∈KX ops i,listed[j]? = some true) :
    (Region.wanted o (DO ops F1)=true→DL P o.op o.type F1 w1 (fun v w2=>UInv ops m Ts G F w B (listed.setIfInBounds i true) (IS F1 o.dst v) w2) (fun _ _=>False))∧
    (Region.wanted o (DO ops F1)=false→UInv ops m Ts G F w B (listed.setIfInBounds i true) (IS F1 o.dst undef) w1):=by
  have hil:i<ops.length:=by omega
  have hg:=List.all_eq_true.1 hgr i (by simpa using him)
  simp only [Bool.and_eq_true] at hg
  obtain ⟨⟨⟨⟨⟨⟨g1,g2⟩,g3⟩,g4⟩,g5⟩,g6⟩,g7⟩:=hg
  generalize hr:QV G i=r at *
  have c1:r.g≠0→∀ x∈r.rs,x=r.g∨x∈r.hs:=fun h0 x hx=>by
    rcases (Bool.or_eq_true _ _).mp g1 with h|h
    · exact absurd (Nat.eq_of_beq_eq_true h) h0
    · have:=List.all_eq_true.1 h x hx
      rcases (Bool.or_eq_true _ _).mp this with h|h
      · exact .inl (Nat.eq_of_beq_eq_true h)
      · exact .inr (by simpa using h)
  have c2:r.wr=true→r.g≠0:=fun h h0=>by rw [h,h0] at g2;simp at g2
  have c3:r.g=0→r.hs=[]:=fun h0=>by rw [h0] at g3;simpa using g3
  have c4:r.g∉r.hs:=by simpa using g4
  have c6:∀ q,q<m→q≠i→(QV G q).g≠0→q∉r.kills→DR ops q i=false→(QV G q).g∉r.hs∧(r.wr=true→(QV G q).g≠r.g):=fun q hq hqi h0 hk hwt=>by
    have:=List.all_eq_true.1 g6 q (by simpa using hq)
    simp only [Bool.or_eq_true,Bool.and_eq_true] at this
    rcases this with (((h|h)|h)|h)|h
    · exact absurd (Nat.eq_of_beq_eq_true h) hqi
    · exact absurd (Nat.eq_of_beq_eq_true h) h0
    · exact absurd (by simpa using h) hk
    · rw [hwt] at h;cases h
    · exact ⟨by simpa using h.1,fun hw e=>by rw [hw,e] at h;simp at h⟩
  have c7:∀ j∈r.uses,j<m∧j∈KX ops i∧((QV G j).g≠0→(QV G j).g∈r.rs)∧∀ q,q<m→q≠i→j∈(QV G q).kills→DR ops q i=true:=fun j hj=>by
    have:=List.all_eq_true.1 g7 j hj
    simp only [Bool.and_eq_true] at this
    obtain ⟨⟨⟨h1,h2⟩,h3⟩,h4⟩:=this
    refine ⟨blt h1,by simpa using h2,fun h0=>?_,fun q hq hqi hk=>?_⟩
    · rcases (Bool.or_eq_true _ _).mp h3 with h|h
      · exact absurd (Nat.eq_of_beq_eq_true h) h0
      · simpa using h
    · have:=List.all_eq_true.1 h4 q (by simpa using hq)
      simp only [Bool.or_eq_true] at this
      rcases this with (h|h)|h
      · exact absurd (Nat.eq_of_beq_eq_true h) hqi
      · exact absurd hk (by simpa using h)
      · exact h
  obtain ⟨lab,hfact⟩:=hi.fact
  -- what the operation does not read
  have hL:∃ L:List Nat,∀ b,b∈L↔(b<w1.heap.size∧w.heap.size≤b∧lab b≠r.g∧lab b∉r.hs∧lab b∉r.rs):=
    ⟨(List.range w1.heap.size).filter fun b=>Nat.ble w.heap.size b && !Nat.beq (lab b) r.g && !r.hs.contains (lab b) && !r.rs.contains (lab b),fun b=>by simp [List.mem_filter,and_assoc,nbf]⟩
  obtain ⟨L,hL⟩:=hL
  have hstab:∀ j,(QV G j).g≠0→∀ B B' v w w',prU Ts j B v w→Mv B w B' w'→prU Ts j B' v w':=fun j h0=>by
    have:=hst.at_ hGl j
    cases hb:Nat.beq (QV G j).g 0 with
    | true=>exact absurd (Nat.eq_of_beq_eq_true hb) h0
    | false=>rw [hb] at this;exact this
  have hstat:∀ j,(QV G j).g=0→∀ B B' v w w',prU Ts j B v w→prU Ts j B' v w':=fun j h0=>by
    have:=hst.at_ hGl j
    rw [h0] at this;exact this
  have dep:∀ (j d:Nat),depAt' ops j d=true→∃ oj,ops[j]? = some oj∧oj.dst=some d:=fun j d h=>by
    unfold depAt' at h
    cases ho:ops[j]? with
    | none=>rw [ho] at h;cases h
    | some o=>
      rw [ho] at h
      simp only [Option.bind_some] at h
      cases hd':o.dst with
      | none=>rw [hd'] at h;cases h
      | some e=>
        rw [hd'] at h
        have:=Nat.eq_of_beq_eq_true h
        subst this
        exact ⟨o,rfl,hd'⟩
  have hT:Ts[i]? = some Ts[i]:=List.getElem?_eq_getElem (by omega)
  have hTi:prU Ts i=Ts[i]:=by unfold prU;rw [hT];rfl
  have hcl:∀ q j,listed[q]? = some true→DR ops q j=true→listed[j]? = some true:=fun q j hq hj=>by
    unfold DR at hj
    exact GW (D:=fun j=>listed[j]? = some true) hi.down _ _ (hi.down q hq) j (by simpa using hj)
  have hsp:=hs.at_ (ops.take m) Ts 0 i o Ts[i] (by rw [List.getElem?_take,if_pos him];exact ho) hT
  rw [Nat.zero_add] at hsp
  have hsep:∀ g h b,Nat.beq g h=false→w.heap.size≤b→b<w1.heap.size→b∉avo lab w.heap.size w1.heap.size g++B→b∈avo lab w.heap.size w1.heap.size h++B:=fun g h b hgh h1 h2 hb=>by
    refine List.mem_append_left _ (IQ.2 ⟨h2,h1,fun e=>?_⟩)
    refine hb (List.mem_append_left _ (IQ.2 ⟨h2,h1,fun e'=>?_⟩))
    rw [← e',e,Nat.beq_refl] at hgh;cases hgh
  have hsp:=hsp F1 w1 (L++B) (fun g=>avo lab w.heap.size w1.heap.size g++B) hi.keep (fun b hb=>List.mem_append_right _ hb) (fun b hb=>by
      rcases List.mem_append.1 hb with h|h
      · exact .inr ⟨((hL b).1 h).2.1,((hL b).1 h).1⟩
      · exact .inl h) (fun g hg b hb=>by
      rw [hr] at hg
      have hg:g∈r.rs:=by simpa using hg
      rcases List.mem_append.1 hb with h|h
      · obtain ⟨a1,a2,a3,a4,a5⟩:=(hL b).1 h
        exact List.mem_append_left _ (IQ.2 ⟨a1,a2,fun e=>a5 (by rw [e];exact hg)⟩)
      · exact List.mem_append_right _ h) hsep (fun t ht=>hi.free t (fun j oj hj hoj=>by
        intro e
        unfold NK at ht
        have h1:=List.all_eq_true.1 ht j (by simp;exact (List.getElem?_eq_some_iff.1 hoj).1)
        rw [hoj] at h1
        simp only [e,Bool.or_eq_true,List.contains_iff_mem] at h1
        rcases h1 with h1|h1
        · simp at h1
        · have:=hi.down j hj i h1
          rw [hnl] at this;cases this)) (fun j d hj hdep=>by
        rw [hr] at hj
        have hj:j∈r.uses:=by simpa using hj
        obtain ⟨hjm,hja,hjr,hjk⟩:=c7 j hj
        obtain ⟨oj,hoj,hdj⟩:=dep j d hdep
        have hf:=hfact j oj d hjm (haft j hja) (fun q hq hql hk=>by
          by_cases hqi:q=i
          · subst hqi;rw [hnl] at hql;cases hql
          · have:=hcl q i hql (hjk q hq hqi hk)
            rw [hnl] at this;cases this) hoj hdj
        exact hf)
  have hdist:∀ (j:Nat) (oj:Oper),j<m→j≠i→ops[j]? = some oj→oj.dst≠none→oj.dst≠o.dst:=fun j oj hj hji hoj hne=>hdo j i oj o hj him hji hoj ho hne
  have hset:∀ (j:Nat),(listed.setIfInBounds i true)[j]? = some true→j=i∨listed[j]? = some true:=by
    intro j hj
    by_cases hji:j=i
    · exact .inl hji
    · rw [Array.getElem?_setIfInBounds,if_neg (fun e=>hji e.symm)] at hj;exact .inr hj
  have hmono:∀ (j:Nat),listed[j]? = some true→(listed.setIfInBounds i true)[j]? = some true:=by
    intro j hj
    rw [Array.getElem?_setIfInBounds]
    split
    · rename_i e;subst e
      have:i<listed.size:=by omega
      simp [this]
    · exact hj
  have hself:(listed.setIfInBounds i true)[i]? = some true:=by
    rw [Array.getElem?_setIfInBounds,if_pos rfl,if_pos (by omega)]
  have use:∀ v w2,(∃ C,Keep C w1 w2∧(∀ b∈C,r.wr=true∧w.heap.size≤b∧b<w1.heap.size∧b∉L++B)∧Ts[i] (L++B) v w2)→UInv ops m Ts G F w B (listed.setIfInBounds i true) (IS F1 o.dst v) w2:=by
    rintro v w2 ⟨C,hk,hC,hv⟩
    rw [← hTi] at hv
    refine ⟨hi.keep.behind hk (fun x hx=>(hC x hx).2.1),fun j hj q hq=>?_,fun t ht=>?_,fun b=>if b<w1.heap.size then (if lab b∈r.hs then r.g else lab b) else r.g,fun q oq d hqm hql hqk hoq hd=>?_⟩
    · rcases hset j hj with rfl|hj
      · exact hmono q (haft q hq)
      · exact hmono q (hi.down j hj q hq)
    · have h1:o.dst≠some t:=ht i o hself ho
      have h2:F1 t=F t:=hi.free t (fun j oj hj hoj=>ht j oj (hmono j hj) hoj)
      cases hod:o.dst with
      | none=>exact h2
      | some d'=>
        show FR F1 d' v t=F t
        rw [IE _ _ _ (fun e=>h1 (by rw [hod,e]))];exact h2
    · by_cases hqi:q=i
      · subst hqi
        rw [ho] at hoq;cases hoq
        have e:IS F1 o.dst v d=v:=by rw [hd];exact HL _ _ _
        rw [e,hr]
        by_cases h0:r.g=0
        · exact hstat q (by rw [hr];exact h0) _ _ _ _ _ hv
        · refine hstab q (by rw [hr];exact h0) _ _ _ _ _ hv ⟨Keep.refl _ _,fun b hb=>.inl ?_⟩
          rcases List.mem_append.1 hb with h|h
          · obtain ⟨a1,a2,a3⟩:=IQ.1 h
            by_cases hb1:b<w1.heap.size
            · rw [if_pos hb1] at a3
              by_cases hbh:lab b∈r.hs
              · rw [if_pos hbh] at a3;exact absurd rfl a3
              · rw [if_neg hbh] at a3
                refine List.mem_append_left _ ((hL b).2 ⟨hb1,a2,a3,hbh,fun hrs=>?_⟩)
                rcases c1 h0 _ hrs with h|h
                · exact a3 h
                · exact hbh h
            · rw [if_neg hb1] at a3;exact absurd rfl a3
          · exact List.mem_append_right _ h
      · have hql':listed[q]? = some true:=by rcases hset q hql with h|h;exact absurd h hqi;exact h
        have hf:=hfact q oq d hqm hql' (fun x hx hxl=>hqk x hx (hmono x hxl)) hoq hd
        have e:IS F1 o.dst v d=F1 d:=by
          cases hod:o.dst with
          | none=>rfl
          | some d'=>
            have hn:d≠d':=fun e=>hdist q oq hqm hqi hoq (by rw [hd];simp) (by rw [hd,hod,e])
            show FR F1 d' v d=F1 d
            rw [IE _ _ _ hn]
        rw [e]
        by_cases h0:(QV G q).g=0
        · exact hstat q h0 _ _ _ _ _ hf
        · obtain ⟨b1,b2⟩:=c6 q hqm hqi h0 (by have:=hqk i him hself;rwa [hr] at this) (by
            cases hwt:DR ops q i with
            | false=>rfl
            | true=>have:=hcl q i hql' hwt;rw [hnl] at this;cases this)
          refine hstab q h0 _ _ _ _ _ hf ⟨hk.mono (fun b hb=>.inl ?_),fun b hb=>?_⟩
          · obtain ⟨x1,x2,x3,x4⟩:=hC b hb
            refine List.mem_append_left _ (IQ.2 ⟨x3,x2,fun e=>x4 (List.mem_append_left _ ((hL b).2 ⟨x3,x2,?_,?_,?_⟩))⟩)
            · rw [e];exact b2 x1
            · rw [e];exact b1
            · rw [e];intro hrs
              rcases c1 (c2 x1) _ hrs with h|h
              · exact b2 x1 h
              · exact b1 h
          · rcases List.mem_append.1 hb with h|h
            · obtain ⟨a1,a2,a3⟩:=IQ.1 h
              by_cases hb1:b<w1.heap.size
              · rw [if_pos hb1] at a3
                refine .inl (List.mem_append_left _ (IQ.2 ⟨hb1,a2,fun e=>a3 ?_⟩))
                rw [if_neg (by rw [e];exact b1)];exact e
              · exact .inr (by omega)
            · exact .inl (List.mem_append_right _ h)
  refine ⟨fun hw=>?_,fun hw=>use undef w1 ⟨[],Keep.refl _ _,(fun _ h=>by cases h),hsp.2 hw⟩⟩
  have h2:=hsp.1 hw
  rw [hr] at h2
  unfold DL at h2 ⊢
  generalize (execOp (CQ F1) ⟨none,o.op,o.type,"",#[],none⟩).run P w1=rr at h2 ⊢
  cases rr with
  | ok x w'=>
    cases x <;> simp only [FS] at h2 ⊢ <;> try exact h2.elim
    case value v=>exact use _ _ h2
    case skip=>exact use _ _ h2
    case enter f args=>
      exact Calls.mono h2 fun e w'' he=>by
        cases e with
        | returned v=>exact use _ _ he
        | panicked c=>exact he.elim
        | outgrown=>exact he.elim
  | halt x w'=>cases x <;> simp only [FS] at h2 ⊢ <;> exact h2.elim
def FinU (ops:List Oper) (m:Nat) (Ts:List VM) (G:List Gr) (F:Fr) (w:World) (B:List Nat) (ex:List Nat) (K:Fr→World→Prop):Prop:=
  ∀ F1 w1 (Bs:Nat→List Nat),Keep [] w w1→(∀ g,∀ b∈B,b∈Bs g)→(∀ g,∀ b∈Bs g,b∈B∨(w.heap.size≤b∧b<w1.heap.size))→(∀ g h b,Nat.beq g h=false→w.heap.size≤b→b<w1.heap.size→b∉Bs g→b∈Bs h)→
    (∀ i d,depAt' ops i d=true→i<m→ex.contains i=false→aliveB G m i=true→prU Ts i (Bs (QV G i).g) (F1 d) w1)→(∀ t,NC ops m t=true→F1 t=F t)→K F1 w1
theorem UInv.fin {ops:List Oper} {m:Nat} {Ts:List VM} {G:List Gr} {F:Fr} {w:World} {B ex:List Nat} {K:Fr→World→Prop} {listed:Array Bool} {F1:Fr} {w1:World} (hi:UInv ops m Ts G F w.drew B listed F1 w1) (hall:∀ i,i<m→ex.contains i=false→listed[i]? = some true) (hno:∀ j,m≤j→listed[j]?≠some true) (fin:FinU ops m Ts G F w B ex K):K F1 w1:=by
  obtain ⟨lab,hf⟩:=hi.fact
  refine fin F1 w1 (fun g=>avo lab w.heap.size w1.heap.size g++B) ((Keep.drew [] w).trans hi.keep) (fun g b hb=>List.mem_append_right _ hb) (fun g b hb=>?_) (fun g h b hgh h1 h2 hb=>?_) (fun i d hdp him hex hal=>?_) (fun t ht=>hi.free t (fun j o hj ho e=>?_))
  · rcases List.mem_append.1 hb with h|h
    · exact .inr ⟨(IQ.1 h).2.1,(IQ.1 h).1⟩
    · exact .inl h
  · refine List.mem_append_left _ (IQ.2 ⟨h2,h1,fun e=>?_⟩)
    exact hb (List.mem_append_left _ (IQ.2 ⟨h2,h1,fun e'=>by rw [← e',e,Nat.beq_refl] at hgh;cases hgh⟩))
  · unfold depAt' at hdp
    cases ho:ops[i]? with
    | none=>rw [ho] at hdp;cases hdp
    | some o=>
      rw [ho] at hdp
      simp only [Option.bind_some] at hdp
      cases hd':o.dst with
      | none=>rw [hd'] at hdp;cases hdp
      | some e=>
        rw [hd'] at hdp
        have:=Nat.eq_of_beq_eq_true hdp
        subst this
        refine hf i o e him (hall i him hex) (fun q hq _=>?_) ho hd'
        have:=List.all_eq_true.1 hal q (by simpa using hq)
        simpa using this
  · rcases Nat.lt_or_ge j m with h1|h1
    · unfold NC at ht
      have h3:=List.all_eq_true.1 ht o (List.mem_of_getElem? (by rw [List.getElem?_take,if_pos h1];exact ho))
      rw [e] at h3;simp at h3
    · exact absurd hj (hno j h1)
theorem UInv.start {ops:List Oper} {m:Nat} {Ts:List VM} {G:List Gr} {F:Fr} {w:World} {B:List Nat}:UInv ops m Ts G F w B (Array.replicate ops.length false) F w:=by
  refine ⟨Keep.refl _ _,fun i hi=>?_,fun _ _=>rfl,fun _=>0,fun i o d _ hi=>?_⟩ <;> simp_all [Array.getElem?_replicate]
theorem WC {id:Nat} {ops:List Oper} {F:Fr} {w:World} (m:Nat) (late:List Nat) (pre:List Oper) (om:Oper) (tl:List Oper) (Ts:List VM) (G:List Gr) (B:List Nat) (hm:P.follows .mixedOrders=true) (hok:ops.all (OU n ops)=true) (hd:PN ops m late=true) (hlen:(Nat.beq Ts.length m && Nat.beq G.length m && Nat.ble m ops.length)=true) (hgr:UM ops m G=true) (hnd:late.Nodup)
    (hpre:ops.take m=pre) (hom:ops[m]? = some om) (htl:CV ops (CM ops m)=tl) (hst:TU Ts G) (hs:PL P ops m Ts G F w.drew B 0 pre Ts)
    (fin:FinU ops m Ts G F w B [] (WL false P ops Q (om :: tl))) (finL:∀ c,c<late.length→FinU ops m Ts G F w B (late.drop c) (WL false P ops Q (om :: (CV ops (late.drop c)++tl)))):CW P (ro:=none) n (.region id ops.toArray true) Q F w:=by
  subst hpre;subst htl
  simp only [Bool.and_eq_true] at hlen
  have hTl:Ts.length=m:=Nat.eq_of_beq_eq_true hlen.1.1
  have hGl:G.length=Ts.length:=by rw [hTl];exact Nat.eq_of_beq_eq_true hlen.1.2
  have hle:m≤ops.length:=Nat.le_of_ble_eq_true hlen.2
  have hdr:({ w with drawn:=w.drawn+1 }:World)=w.drew:=rfl
  have hd':=hd
  unfold PN at hd'
  simp only [Bool.and_eq_true] at hd'
  obtain ⟨⟨⟨⟨⟨⟨⟨⟨⟨d1,d2⟩,d3⟩,d4⟩,d5⟩,d6⟩,d7⟩,d8⟩,d9⟩,d10⟩:=hd'
  have hdist:∀ (i j:Nat) (oi oj:Oper),i<m→j<m→i≠j→ops[i]? = some oi→ops[j]? = some oj→oi.dst≠none→oi.dst≠oj.dst:=by
    intro i j oi oj hi hj hij hoi hoj hne
    have:=List.all_eq_true.1 (List.all_eq_true.1 d1 i (by simpa using hi)) j (by simpa using hj)
    simp only [Bool.or_eq_true] at this
    rcases this with h5|h5
    · exact absurd (Nat.eq_of_beq_eq_true h5) hij
    · rw [hoi,hoj] at h5
      intro e
      cases hd:oi.dst with
      | none=>exact hne hd
      | some d=>
        rw [hd] at e
        simp only [Option.bind_some,hd,← e] at h5
        simp at h5
  refine wpIn_wide.2 (wp_region_any hm ?_)
  rw [hdr,List.size_toArray]
  refine draw_runM (UInv ops m Ts G F w.drew B) hd hnd hok hom (fun listed F1 w1 h=>h.down) (fun listed F1 w1 i o hsz h him ho hnl haft=>stepU hdist hTl hGl hle hgr hst hs hsz h him ho hnl haft)
    (fun listed F1 w1 hi hall hno=>hi.fin (fun i him _=>hall i him) hno fin) (fun c hc listed F1 w1 hi hall hno=>hi.fin (fun i him hex=>(hall i him).2 (by simpa using hex)) hno (finL c hc)) ops.length _ F w.drew (by simp) ?_ (fun j _=>?_) UInv.start
  · unfold PM;exact Nat.le_trans (List.countP_le_length) (by simp)
  · simp [Array.getElem?_replicate]
theorem KY {w w1:World} {B1:List Nat} {wr:Bool}:∀ b∈([]:List Nat),wr=true∧w.heap.size≤b∧b<w1.heap.size∧b∉B1:=fun _ h=>by cases h
theorem St.adoptL {w0 w w':World} {O0 B B1:List Nat} (s:St w0 O0 w B) (k:Keep [] w w') (hl:∀ b∈B1,b∈B∨(w.heap.size≤b∧b<w'.heap.size)):St w0 O0 w' B1:=
  ⟨(s.call k).keep,fun b hb=>by
    rcases hl b hb with h|h
    · exact ⟨(s.new b h).1,Nat.lt_of_lt_of_le (s.new b h).2 k.size⟩
    · exact ⟨Nat.le_trans s.keep.size h.1,h.2⟩,s.old⟩
theorem Mv.adoptL {w w':World} {B B1:List Nat} (k:Keep [] w w') (hl:∀ b∈B1,b∈B∨(w.heap.size≤b∧b<w'.heap.size)):Mv B w B1 w':=
  ⟨k.nil,fun b hb=>(hl b hb).imp id (·.1)⟩
theorem Mv.at_ {w:World} {B B1:List Nat} (h:∀ b∈B1,b∈B):Mv B w B1 w:=⟨Keep.refl _ _,fun b hb=>.inl (h b hb)⟩
def PE (u:World) (t:TypeId) (cs:List Value):VM:=fun B v w=>∃ b,v = .pointer (some ⟨b,0,none⟩)∧u.heap.size≤b∧b∉B∧HC w b t cs
theorem PE.st {u:World} {t:TypeId} {cs:List Value}:∀ B B' v w w',PE u t cs B v w→Mv B w B' w'→PE u t cs B' v w':=fun B B' v w w' ⟨b,e,lo,hn,hb⟩ m=>
  ⟨b,e,lo,fun h=>by rcases m.new b h with h1|h1;exact hn h1;have:=hb.lt;omega,hb.keep m.keep hn⟩
def TOw {α:Type} (u:World) (base:Nat) (O:List Nat) (E:Enc α) (e:TypeId) (l:List α):VM:=fun B v w=>(∀ b,v.ownBlock=some b→u.heap.size≤b∧b∉B)∧EG E e base ((v.ownBlock.toList++B)++O) w v l
theorem Mv.app {w w':World} {B B':List Nat} (m:Mv B w B' w') (L:List Nat):Mv (L++B) w (L++B') w':=
  ⟨m.keep.mono (fun x hx=>.inl (List.mem_append_right _ hx)),fun x hx=>by
    rcases List.mem_append.1 hx with h|h
    · exact .inl (List.mem_append_left _ h)
    · exact (m.new x h).imp (List.mem_append_right _) id⟩
theorem TOw.st {α:Type} {u:World} {base:Nat} {O:List Nat} {E:Enc α} {e:TypeId} {l:List α}:∀ B B' v w w',TOw u base O E e l B v w→Mv B w B' w'→TOw u base O E e l B' v w':=fun B B' v w w' ⟨hb,ho⟩ m=>
  ⟨fun b h=>⟨(hb b h).1,fun h2=>by
    rcases m.new b h2 with h1|h1
    · exact (hb b h).2 h1
    · have:=(ho.lt b h).2;omega⟩,ho.mv (m.app _) m.keep (fun c hc=>(hb c hc).2)⟩
theorem TOw.rd {α:Type} {u:World} {base:Nat} {O:List Nat} {E:Enc α} {e:TypeId} {l:List α} {B:List Nat} {v:Value} {w:World} (h:TOw u base O E e l B v w) (hO:∀ x∈O,x<u.heap.size):AZ E w (B++O) v l:=by
  refine h.2.rd (fun x hx=>.inl ?_) (fun c hc hx=>?_)
  · rcases List.mem_append.1 hx with h1|h1
    · exact List.mem_append_left _ (List.mem_append_right _ h1)
    · exact List.mem_append_right _ h1
  · rcases List.mem_append.1 hx with h1|h1
    · exact (h.1 c hc).2 h1
    · have:=hO _ h1;have:=(h.1 c hc).1;omega
theorem TOw.one {α:Type} {u:World} {base b:Nat} {O B:List Nat} {E:Enc α} {e:TypeId} {l:List α} {v:Value} {w:World} (hb:v.ownBlock=some b) (lo:u.heap.size≤b) (hn:b∉B) (h:EG E e base ((b :: B)++O) w v l):TOw u base O E e l B v w:=
  ⟨fun c hc=>by rw [hb] at hc;cases hc;exact ⟨lo,hn⟩,by rw [hb];exact h⟩
theorem lt_of {w1:World} {B1:List Nat} {w0:World} {O0:List Nat} (s:St w0 O0 w1 B1):∀ x∈B1,x<w1.heap.size:=fun x hx=>(s.new x hx).2
theorem TOw.call {α:Type} {u w1 w2:World} {base:Nat} {O B1:List Nat} {E:Enc α} {e:TypeId} {l:List α} {v:Value} (hu:u.heap.size≤w1.heap.size) (hbase:base≤w1.heap.size) (hlt:∀ x∈B1,x<w1.heap.size) (hv:∀ b,v.ownBlock=some b→w1.heap.size≤b) (h:EG E e w1.heap.size (v.ownBlock.toList++(B1++O)) w2 v l):TOw u base O E e l B1 v w2:=
  ⟨fun b hb=>⟨Nat.le_trans hu (hv b hb),fun hx=>by have:=hlt _ hx;have:=hv b hb;omega⟩,by
    obtain ⟨css,h1,h2,h3⟩:=h
    refine ⟨css,h1,⟨h2.1,?_⟩,fun i cs x hi hx=>by rw [List.append_assoc];exact h3 i cs x hi hx⟩
    rcases h2.2 with h|⟨g,cap,cur,rfl,hbg,r⟩
    · exact .inl h
    · exact .inr ⟨g,cap,cur,rfl,Nat.le_trans hbase hbg,r⟩⟩
section
variable {ty:TypeId} {F:Fr} {w:World} {K:Value→World→Prop} {Z:List PanicEntry→World→Prop} {x y:Operand}
end
end
open Go.RowKit
section
variable {P:Program} {w:World}
variable {ty yt:TypeId} {F:Fr} {K:Value→World→Prop} {Z:List PanicEntry→World→Prop} {x y:Operand}
def mfind {κ:Type} [BEq κ] (l:List (κ × Value)) (k:κ):Option Value:=(l.findIdx? (fun x=>k == x.1)).bind fun j=>(l[j]?).map (·.2)
def MapV {κ α:Type} [BEq κ] (enc:κ→Value) (venc:α→Value) (w:World) (r:Nat) (M:κ→Option α):Prop:=
  ∃ es c,∃ l:List (κ × Value),Ob w r (.map es c)∧es.toList.map (fun e=>(e.key,e.val))=l.map (fun x=>(enc x.1,x.2))∧∀ k,mfind l k=(M k).map venc
section
variable {κ α:Type} [BEq κ] {enc:κ→Value} {venc:α→Value} {r:Nat} {M:κ→Option α}
theorem MapV.lt (h:MapV enc venc w r M):r<w.heap.size:=let ⟨_,_,_,h,_⟩:=h;h.lt
theorem MapV.keep {w':World} {O:List Nat} (h:MapV enc venc w r M) (k:Keep O w w') (hb:r∉O):MapV enc venc w' r M:=let ⟨es,c,l,h1,h2⟩:=h;⟨es,c,l,h1.keep k hb,h2⟩
variable {w0:World} {O0 B:List Nat} {z:Operand}
variable [LawfulBEq κ]
end
section
variable {κ:Type} [BEq κ] [LawfulBEq κ]
end
end
open Go.RowKit
section
variable {P:Program} {n:Nat} {Q:Exit→Fr→World→Prop}
def KA (op:Op) (F:Fr):Option Value:=
  match op with
  | .extract x i=>(match CQ F x with | .tuple vs=>vs[i]? | _=>none)
  | .move x=>some (CQ F x)
  | .assign x=>some (CQ F x)
  | _=>none
def NX (op:Op) (d:Tmp):Bool:=
  match op with
  | .extract (.tmp s) _=>!Nat.beq s d
  | .move (.tmp s)=>!Nat.beq s d
  | .assign (.tmp s)=>!Nat.beq s d
  | .assign (.const _)=>true
  | _=>false
theorem QK {op:Op} {d:Tmp} {ty:TypeId} {F:Fr} {w:World} {K:Value→World→Prop} {Z:List PanicEntry→World→Prop} (hp:NX op d=true) (h:DL P op ty F w K Z):∃ v,KA op F=some v∧K v w:=by
  unfold NX at hp
  split at hp
  · rename_i s i
    unfold DL at h
    have e:CQ F (.tmp s)=F s:=rfl
    simp only [execOp,e] at h
    unfold KA
    simp only [e]
    cases hF:F s with
    | tuple vs=>
      rw [hF] at h
      cases hv:vs[i]? with
      | some v=>refine ⟨v,hv,?_⟩;simpa [Instr.extract,hv,FS] using h
      | none=>exfalso;simp [Instr.extract,hv,FS] at h
    | _=>exfalso;rw [hF] at h;simp [Instr.extract,FS] at h
  · unfold DL at h;simp only [execOp] at h;exact ⟨_,rfl,by simpa [FS] using h⟩
  · unfold DL at h;simp only [execOp] at h;exact ⟨_,rfl,by simpa [FS] using h⟩
  · unfold DL at h;simp only [execOp] at h;exact ⟨_,rfl,by simpa [FS] using h⟩
  · cases hp
theorem LF {op:Op} {v:Value} {ty:TypeId} {F:Fr} {w:World} {K:Value→World→Prop} {Z:List PanicEntry→World→Prop} (hv:KA op F=some v) (h:K v w):DL P op ty F w K Z:=by
  unfold KA at hv
  split at hv
  · split at hv
    · rename_i vs e;exact AP (vs:=vs) v e hv h
    · cases hv
  · exact AG v (Option.some.inj hv) h
  · exact AF v (Option.some.inj hv) h
  · cases hv
theorem nbeq {a b:Nat} (h:(!Nat.beq a b)=true):a≠b:=fun e=>by subst e;simp at h
theorem beq_ne {a b:Nat} (h:a≠b):Nat.beq a b=false:=by
  cases e:Nat.beq a b with
  | false=>rfl
  | true=>exact absurd (Nat.eq_of_beq_eq_true e) h
theorem WD {F:Fr} {d t:Nat} {v:Value} (h:t≠d):FR F d v t=F t:=by
  unfold FR;rw [beq_ne h];rfl
theorem upd_swap {F:Fr} {a b:Nat} {v u:Value} (h:a≠b):FR (FR F a v) b u=FR (FR F b u) a v:=by
  funext t
  unfold FR
  cases e1:Nat.beq t a with
  | false=>cases e2:Nat.beq t b <;> rfl
  | true=>
    have h1:=Nat.eq_of_beq_eq_true e1
    subst h1
    rw [beq_ne h];rfl
theorem LD {op:Op} {d:Tmp} {F:Fr} {u:Value} (hp:NX op d=true):KA op (FR F d u)=KA op F:=by
  unfold NX at hp
  unfold KA
  have e:∀ s:Tmp,(!Nat.beq s d)=true→CQ (FR F d u) (.tmp s)=CQ F (.tmp s):=fun s hs=>WD (nbeq hs)
  split at hp
  · simp only [e _ hp]
  · simp only [e _ hp]
  · simp only [e _ hp]
  · rfl
  · cases hp
theorem run_step {ops:List Oper} (hok:ops.all (OU n ops)=true) {i fuel:Nat} {listed:Array Bool} {F1:Fr} {w1:World} {rest:List Oper} (hil:i<ops.length) (h:WL false P ops Q (ops[i] :: rest) F1 w1)
    (ih:∀ F w,WL false P ops Q rest F w→wpAny P .any ops.toArray (KL n Q) fuel (listed.setIfInBounds i true) (mk n F) w):wpOp P ops.toArray (KL n Q) i (wpAny P .any ops.toArray (KL n Q) fuel (listed.setIfInBounds i true)) (mk n F1) w1:=by
  have ho:ops[i]? = some ops[i]:=List.getElem?_eq_getElem hil
  refine LS (K:=fun F w=>WL false P ops Q rest F w) hok ho ih (fun hw=>?_) (fun hw=>?_)
  · unfold WL at h;rw [if_pos hw] at h;exact h.resolve_right (fun e=>by cases e.1)
  · unfold WL at h;rw [if_neg (by rw [hw];simp)] at h;exact h
theorem LH {ops:List Oper} {i:Nat} {t:List Nat} (hil:i<ops.length):CV ops (i :: t)=ops[i] :: CV ops t:=by
  unfold CV;rw [List.filterMap_cons,List.getElem?_eq_getElem hil]
end
open Go.RowKit
section
variable {P:Program} {n:Nat} {Q:Exit→Fr→World→Prop}
theorem execOp_agree {ρ σ:Operand→Value} (o:Oper) (h2:(match o.op with | .select ..=>false | _=>true)=true) (key:∀ x∈o.op.operands.toList,ρ x=σ x):execOp ρ o=execOp σ o:=by
  have keyA:∀ (xs:Array Operand),(∀ x∈xs.toList,x∈o.op.operands.toList)→xs.map ρ=xs.map σ:=fun xs hx=>
    Array.map_congr_left fun x hm=>key x (hx x (by simpa using hm))
  have keyO:∀ (x:Option Operand),(∀ y,x=some y→y∈o.op.operands.toList)→x.map ρ=x.map σ:=fun x hx=>by
    cases x with
    | none=>rfl
    | some y=>simp [key y (hx y rfl)]
  obtain ⟨d,op,ty,pos,after,g⟩:=o
  simp only at key keyA keyO
  have call:∀ (c:Call),c.operands=op.operands→(∀ t,resolve ρ c t=resolve σ c t):=fun c hc t=>by
    obtain ⟨callee,args,ats⟩:=c
    have ha:args.map ρ=args.map σ:=keyA args (fun x hx=>by rw [← hc];simp [Call.operands];exact .inr (by simpa using hx))
    unfold resolve
    simp only [ha]
    cases callee with
    | value f=>simp only [key f (by rw [← hc];simp [Call.operands])]
    | invoke r m=>simp only [key r (by rw [← hc];simp [Call.operands])]
    | builtin b=>rfl
  cases op with
  | select cs b=>simp at h2
  | build t ps=>
    simp only [execOp]
    have:ps.map (fun p=>(p.1,ρ p.2))=ps.map (fun p=>(p.1,σ p.2)):=Array.map_congr_left fun p hp=>by rw [key p.2 (by have hp:p∈ps.toList:=(by simpa using hp);simp only [Op.operands,List.mem_map];exact ⟨p,hp,rfl⟩)]
    rw [this]
  | buildSlice t len ps=>
    simp only [execOp]
    have:ps.map (fun p=>(p.1,ρ p.2))=ps.map (fun p=>(p.1,σ p.2)):=Array.map_congr_left fun p hp=>by rw [key p.2 (by have hp:p∈ps.toList:=(by simpa using hp);simp only [Op.operands,List.mem_map];exact ⟨p,hp,rfl⟩)]
    rw [this]
  | call c=>simp only [execOp,call c rfl]
  | go c=>simp only [execOp,call c rfl]
  | defer c=>simp only [execOp,call c rfl]
  | makeFunc fn first captured=>
    simp only [execOp]
    rw [keyA first (fun x hx=>by simp [Op.operands];exact .inl (by simpa using hx)),keyA captured (fun x hx=>by simp [Op.operands];exact .inr (by simpa using hx))]
  | makeMap t r=>
    simp only [execOp]
    rw [keyO r (fun y hy=>by subst hy;simp [Op.operands])]
  | slice t x lo hi mx=>
    simp only [execOp]
    rw [key x (by simp [Op.operands]),keyO lo (fun y hy=>by subst hy;simp [Op.operands]),keyO hi (fun y hy=>by subst hy;simp [Op.operands]),keyO mx (fun y hy=>by subst hy;simp [Op.operands])]
  | alloc t=>rfl
  | ready g=>rfl
  | waits g=>rfl
  | move x|assign x|box _ x|load _ x|nilCheck x|unOp _ _ x|convert _ _ x|sliceToArrayPointer _ x|makeInterface _ x|makeChan _ x|fieldAddr _ x _|field _ x _|range _ x|next x _|entry x|typeAssert x _ _ _|extract x _|panic x|recv _ x _=>
    simp only [execOp,key x (by simp [Op.operands])]
  | pick c a b=>simp only [execOp,key c (by simp [Op.operands]),key a (by simp [Op.operands]),key b (by simp [Op.operands])]
  | store _ a v|binOp _ _ a v _|makeSlice _ a v|indexAddr _ a v|index _ a v|lookup _ a v _|mapEntry _ a v|send a v=>
    simp only [execOp,key a (by simp [Op.operands]),key v (by simp [Op.operands])]
  | mapUpdate _ m k v|entryStore _ m k v|insert _ m k v=>
    simp only [execOp,key m (by simp [Op.operands]),key k (by simp [Op.operands]),key v (by simp [Op.operands])]
def offB (op:Op) (d:Tmp):Bool:=op.operands.toList.all (fun x=>match x with | .tmp t=>!Nat.beq t d | _=>true) && (match op with | .select ..=>false | .defer ..=>false | _=>true)
theorem evF_off {F:Fr} {d:Tmp} {v:Value} {x:Operand} (h:(match x with | .tmp t=>!Nat.beq t d | _=>true)=true):CQ (FR F d v) x=CQ F x:=by
  cases x with
  | tmp t=>exact WD (nbeq h)
  | _=>rfl
theorem opw_off {op:Op} {d:Tmp} {v:Value} {ty:TypeId} {F:Fr} {w:World} {K:Value→World→Prop} {Z:List PanicEntry→World→Prop} (h:offB op d=true):DL P op ty (FR F d v) w K Z↔DL P op ty F w K Z:=by
  unfold offB at h
  simp only [Bool.and_eq_true] at h
  unfold DL
  rw [execOp_agree (ρ:=CQ (FR F d v)) (σ:=CQ F) ⟨none,op,ty,"",#[],none⟩ (by have:=h.2;cases op <;> first|rfl|(simp at this)) (fun x hx=>evF_off (List.all_eq_true.1 h.1 x hx))]
theorem opw_mono {op:Op} {ty:TypeId} {F:Fr} {w:World} {K K':Value→World→Prop} {Z Z':List PanicEntry→World→Prop} (h:DL P op ty F w K Z) (hk:∀ v w',K v w'→K' v w') (hz:∀ c w',Z c w'→Z' c w'):DL P op ty F w K' Z':=by
  unfold DL at h ⊢
  generalize (execOp (CQ F) ⟨none,op,ty,"",#[],none⟩).run P w=r at h ⊢
  cases r with
  | ok x w'=>
    cases x <;> simp only [FS] at h ⊢ <;> try exact h.elim
    case value v=>exact hk _ _ h
    case skip=>exact hk _ _ h
    case enter f args=>
      exact Calls.mono h fun e w'' he=>by
        cases e with
        | returned v=>exact hk _ _ he
        | panicked c=>exact hz _ _ he
        | outgrown=>exact he.elim
  | halt x w'=>
    cases x <;> simp only [FS] at h ⊢ <;> try exact h.elim
    case panic v=>exact hz _ _ h
def RE (op:Op) (d:Tmp):Bool:=
  match op with
  | .move (.tmp s)=>!Nat.beq s d
  | .assign (.tmp s)=>!Nat.beq s d
  | _=>false
theorem LI {op:Op} {d:Tmp} (h:RE op d=true):NX op d=true:=by
  unfold RE at h;unfold NX
  split at h <;> first|exact h|cases h
theorem moveOp_val {op:Op} {d:Tmp} (h:RE op d=true) (F:Fr):∃ v,KA op F=some v:=by
  unfold RE at h;unfold KA
  split at h <;> first|exact ⟨_,rfl⟩|cases h
def exOk2 (ops:List Oper) (a b:Nat):Bool:=
  match ops[a]?,ops[b]? with
  | some oa,some ob=>oa.guard.isNone && ob.guard.isNone && (match oa.dst,ob.dst with
    | some da,some db=>!Nat.beq da db && ((RE oa.op db && offB ob.op da) || (RE ob.op da && offB oa.op db) || (NX oa.op db && NX ob.op da))
    | _,_=>false)
  | _,_=>false
theorem wl_swap2 {ops:List Oper} {a b:Nat} {oa ob:Oper} {rest:List Oper} {F:Fr} {w:World} (hx:exOk2 ops a b=true) (ha:ops[a]? = some oa) (hb:ops[b]? = some ob) (hok:ops.all (OU n ops)=true) (hq:∀ c F d v w,d<n→(Q (.panic c) (FR F d v) w↔Q (.panic c) F w)) (h:WL false P ops Q (oa :: ob :: rest) F w):WL false P ops Q (ob :: oa :: rest) F w:=by
  have hda:=JF (List.all_eq_true.1 hok _ (List.mem_of_getElem? ha))
  have hdb:=JF (List.all_eq_true.1 hok _ (List.mem_of_getElem? hb))
  unfold exOk2 at hx
  rw [ha,hb] at hx
  obtain ⟨d1,p1,t1,q1,f1,g1⟩:=oa
  obtain ⟨d2,p2,t2,q2,f2,g2⟩:=ob
  simp only [Bool.and_eq_true] at hx
  obtain ⟨⟨h1,h2⟩,h3⟩:=hx
  cases g1 with
  | some _=>simp at h1
  | none=>
  cases g2 with
  | some _=>simp at h2
  | none=>
  cases d1 with
  | none=>simp at h3
  | some da=>
  cases d2 with
  | none=>simp at h3
  | some db=>
    simp only [Bool.and_eq_true,Bool.or_eq_true] at h3
    obtain ⟨h3,h4⟩:=h3
    have n1:=nbeq h3
    have e:∀ (F:Fr) (v x:Value),IS (IS F (some db) x) (some da) v=IS (IS F (some da) v) (some db) x:=fun F v x=>(upd_swap (F:=F) (v:=v) (u:=x) n1).symm
    rcases h4 with (⟨h4,h5⟩|⟨h4,h5⟩)|⟨h4,h5⟩
    · unfold WL at h
      rw [if_pos (by rfl)] at h
      obtain ⟨v,hv,h⟩:=QK (LI h4) (h.resolve_right (fun e=>by cases e.1))
      unfold WL at h
      rw [if_pos (by rfl)] at h
      have h:=(opw_off h5).1 (h.resolve_right (fun e=>by cases e.1))
      unfold WL
      rw [if_pos (by rfl)]
      refine .inl (opw_mono h (fun x w' hk=>?_) (fun c w' hz=>(hq _ _ _ _ _ (blt hda)).1 hz))
      unfold WL
      rw [if_pos (by rfl)]
      exact .inl (LF (v:=v) ((LD (F:=F) (u:=x) (LI h4)).trans hv) (by rw [e];exact hk))
    · unfold WL at h
      rw [if_pos (by rfl)] at h
      have h:=h.resolve_right (fun e=>by cases e.1)
      obtain ⟨x,hxv⟩:=moveOp_val h4 F
      unfold WL
      rw [if_pos (by rfl)]
      refine .inl (LF hxv ?_)
      unfold WL
      rw [if_pos (by rfl)]
      refine .inl ((opw_off h5).2 (opw_mono h (fun v w' hk=>?_) (fun c w' hz=>(hq _ _ _ _ _ (blt hdb)).2 hz)))
      unfold WL at hk
      rw [if_pos (by rfl)] at hk
      obtain ⟨x',hx',hk⟩:=QK (LI h4) (hk.resolve_right (fun e=>by cases e.1))
      have:x'=x:=by
        have:=(LD (F:=F) (u:=v) (LI h4)).symm.trans hx'
        rw [hxv] at this;exact (Option.some.inj this).symm
      subst this
      have:=e F v x'
      show WL false P ops Q rest (IS (IS F (some db) x') (some da) v) w'
      rw [this];exact hk
    · unfold WL at h
      rw [if_pos (by rfl)] at h
      obtain ⟨v,hv,h⟩:=QK h4 (h.resolve_right (fun e=>by cases e.1))
      unfold WL at h
      rw [if_pos (by rfl)] at h
      obtain ⟨x,hx2,h⟩:=QK h5 (h.resolve_right (fun e=>by cases e.1))
      unfold WL
      rw [if_pos (by rfl)]
      refine .inl (LF (v:=x) ((LD (F:=F) (u:=v) h5).symm.trans hx2) ?_)
      unfold WL
      rw [if_pos (by rfl)]
      exact .inl (LF (v:=v) ((LD (F:=F) (u:=x) h4).trans hv) (by rw [e];exact h))
def JR (ops:List Oper):Nat→List Nat→Bool
  | _,[]=>true
  | 0,_=>false
  | _+1,[a]=>(KX ops a).all fun j=>!Nat.beq j a
  | f+1,a :: b :: t=>(KX ops a).all (fun j=>!(a :: b :: t).contains j) && t.all (fun x=>DR ops x a) && JR ops f (b :: t) &&
      (DR ops b a || (exOk2 ops a b && (KX ops b).all (fun j=>!(a :: b :: t).contains j) && JR ops f (a :: t)))
theorem QM {ops:List Oper} (hok:ops.all (OU n ops)=true) (hqp:∀ c F d v w,d<n→(Q (.panic c) (FR F d v) w↔Q (.panic c) F w)) (hin:∀ k,k<ops.length→∀ j∈KX ops k,j<ops.length):∀ (g:Nat) (seq:List Nat) (fuel:Nat) (listed:Array Bool) (F1:Fr) (w1:World),listed.size=ops.length→PM ops listed≤fuel→
    (∀ j,j<ops.length→(listed[j]? = some true↔j∉seq))→(∀ j∈seq,j<ops.length)→seq.Nodup→JR ops g seq=true→(∀ i,listed[i]? = some true→∀ j∈KX ops i,listed[j]? = some true)→
    WL false P ops Q (CV ops seq) F1 w1→wpAny P .any ops.toArray (KL n Q) fuel listed (mk n F1) w1:=by
  intro g
  induction g with
  | zero=>
    intro seq fuel listed F1 w1 hsz hfu hl hlt hnd hf hdown h
    cases seq with
    | nil=>exact HA hok hin [] fuel listed F1 w1 hsz hfu hl hlt hnd rfl hdown h
    | cons a t=>cases t <;> simp [JR] at hf
  | succ g ihg=>
    intro seq fuel listed F1 w1 hsz hfu hl hlt hnd hf hdown h
    match seq,hl,hlt,hnd,hf,h with
    | [],hl,hlt,hnd,hf,h=>exact HA hok hin [] fuel listed F1 w1 hsz hfu hl hlt hnd rfl hdown h
    | [a],hl,hlt,hnd,hf,h=>
      refine HA hok hin [a] fuel listed F1 w1 hsz hfu hl hlt hnd ?_ hdown h
      unfold JR at hf
      unfold MU MU
      simp only [List.all_nil,Bool.true_and,Bool.and_true]
      refine List.all_eq_true.2 fun j hj=>?_
      have:=nbeq (List.all_eq_true.1 hf j hj)
      simpa using this
    | a :: b :: t,hl,hlt,hnd,hf,h=>
      unfold JR at hf
      simp only [Bool.and_eq_true] at hf
      obtain ⟨⟨⟨f1,f2⟩,f3⟩,f4⟩:=hf
      have ha:a<ops.length:=hlt a (by simp)
      have hb:b<ops.length:=hlt b (by simp)
      obtain ⟨hat,hnd'⟩:=List.nodup_cons.1 hnd
      obtain ⟨hbt,hnd''⟩:=List.nodup_cons.1 hnd'
      have hunl:∀ q,q<ops.length→q∈a :: b :: t→listed[q]? = some false:=fun q hq hm=>by
        have h1:¬ listed[q]? = some true:=fun e=>((hl q hq).1 e) hm
        have:q<listed.size:=by omega
        rw [Array.getElem?_eq_getElem this] at h1 ⊢
        simpa using h1
      have han:=hunl a ha (by simp)
      have hbn:=hunl b hb (by simp)
      have hula:=IL ha hsz han
      have hulb:=IL hb hsz hbn
      obtain ⟨fuel,rfl⟩:∃ f,fuel=f+1:=⟨fuel - 1,by omega⟩
      have haq:∀ j∈KX ops a,listed[j]? = some true:=fun j hj=>by
        have h1:=List.all_eq_true.1 f1 j hj
        exact (hl j (hin a ha j hj)).2 (by simpa using h1)
      have hset:∀ i,i<ops.length→∀ j,(listed.setIfInBounds i true)[j]? = some true↔j=i∨listed[j]? = some true:=fun i hi j=>by
        rw [Array.getElem?_setIfInBounds]
        by_cases hji:i=j
        · subst hji;simp;omega
        · rw [if_neg hji];exact ⟨fun h=>.inr h,fun h=>h.resolve_left (fun e=>hji e.symm)⟩
      refine ⟨fun h0=>?_,fun i hi=>?_⟩
      · have:=ready_of' hsz ha han haq
        rw [h0] at this;cases this
      · obtain ⟨hnl,hil⟩:=KM hi hsz
        have hmem:i∈a :: b :: t:=Classical.byContradiction fun hc=>by have:=(hl i hil).2 hc;rw [hnl] at this;cases this
        have hready:=HY (List.getElem?_eq_getElem hil) hi hsz (hin i hil)
        have hwait:∀ q,DR ops i q=true→listed[q]? = some true:=fun q hq=>by
          unfold DR at hq
          exact GW (D:=fun j=>listed[j]? = some true) hdown _ _ hready q (by simpa using hq)
        rcases List.mem_cons.1 hmem with rfl|hmem
        · rw [LH ha] at h
          refine run_step hok ha h fun F w hK=>ihg (b :: t) fuel _ F w (by simpa using hsz) (by omega) (fun j hj=>?_) (fun j hj=>hlt j (List.mem_cons_of_mem _ hj)) hnd' f3 (fun j hj x hx=>?_) hK
          · rw [hset i ha j,hl j hj]
            constructor
            · rintro (rfl|h1)
              · exact hat
              · exact fun h2=>h1 (List.mem_cons_of_mem _ h2)
            · intro h1
              by_cases hji:j=i
              · exact .inl hji
              · exact .inr fun h2=>by rcases List.mem_cons.1 h2 with h3|h3;exact hji h3;exact h1 h3
          · rw [hset i ha x]
            rcases (hset i ha j).1 hj with h1|h1
            · subst h1;exact .inr (haq x hx)
            · exact .inr (hdown j h1 x hx)
        · rcases List.mem_cons.1 hmem with rfl|hmem
          · -- the second comes first
            simp only [Bool.or_eq_true,Bool.and_eq_true] at f4
            rcases f4 with f4|⟨⟨f4,f5⟩,f6⟩
            · have:=hwait a f4;rw [han] at this;cases this
            · rw [LH ha,LH hb] at h
              have h':=wl_swap2 f4 (List.getElem?_eq_getElem ha) (List.getElem?_eq_getElem hb) hok hqp h
              rw [← LH (t:=t) ha] at h'
              refine run_step hok hb h' fun F w hK=>ihg (a :: t) fuel _ F w (by simpa using hsz) (by omega) (fun j hj=>?_) (fun j hj=>hlt j (by rcases List.mem_cons.1 hj with h1|h1;exact h1 ▸ List.mem_cons_self;exact List.mem_cons_of_mem _ (List.mem_cons_of_mem _ h1))) (List.nodup_cons.2 ⟨fun h2=>hat (List.mem_cons_of_mem _ h2),hnd''⟩) f6 (fun j hj x hx=>?_) hK
              · rw [hset i hb j,hl j hj]
                constructor
                · rintro (rfl|h1)
                  · intro h2
                    rcases List.mem_cons.1 h2 with h3|h3
                    · exact hat (h3 ▸ List.mem_cons_self)
                    · exact hbt h3
                  · intro h2
                    apply h1
                    rcases List.mem_cons.1 h2 with h3|h3
                    · rw [h3];exact List.mem_cons_self
                    · exact List.mem_cons_of_mem _ (List.mem_cons_of_mem _ h3)
                · intro h1
                  by_cases hji:j=i
                  · exact .inl hji
                  · refine .inr fun h2=>?_
                    rcases List.mem_cons.1 h2 with h3|h3
                    · exact h1 (h3 ▸ List.mem_cons_self)
                    · rcases List.mem_cons.1 h3 with h4|h4
                      · exact hji h4
                      · exact h1 (List.mem_cons_of_mem _ h4)
              · rw [hset i hb x]
                rcases (hset i hb j).1 hj with h1|h1
                · subst h1
                  have h5:=List.all_eq_true.1 f5 x hx
                  exact .inr ((hl x (hin j hb x hx)).2 (by simpa using h5))
                · exact .inr (hdown j h1 x hx)
          · have:=hwait a (List.all_eq_true.1 f2 i hmem)
            rw [han] at this;cases this
theorem qp_end {fn:Func} {R:Ending→World→Prop}:∀ (c:List PanicEntry) (F:Fr) (d:Tmp) (v:Value) (w:World),d<n→(TC P fn n R (.panic c) (FR F d v) w↔TC P fn n R (.panic c) F w):=fun c F d v w hd=>by
  show (SE (FR F d v n)=[]∧_)↔(SE (F n)=[]∧_);rw [IE F d v (Nat.ne_of_gt hd)]
def subs:List Nat→List (List Nat)
  | []=>[[]]
  | a :: l=>(subs l).map (a :: ·)++subs l
theorem NY (p:Nat→Bool):∀ l:List Nat,l.filter p∈subs l
  | []=>by simp [subs]
  | a :: l=>by
    unfold subs
    rw [List.mem_append,List.filter_cons]
    split
    · exact .inl (List.mem_map.2 ⟨_,NY p l,rfl⟩)
    · exact .inr (NY p l)
def upB (ops:List Oper) (U S:List Nat):Bool:=S.all fun a=>U.all fun b=>!DR ops b a || S.contains b
def lat (lates:List (List Nat)) (c:Nat):List Nat:=(lates[c]?).getD []
def SM (ops:List Oper) (m:Nat) (late:List Nat) (lates:List (List Nat)):Bool:=
  (List.range m).all (fun i=>(List.range m).all fun j=>Nat.beq i j || (match (ops[i]?).bind (·.dst),(ops[j]?).bind (·.dst) with|some a,some b=>!Nat.beq a b | _,_=>true)) &&
  (List.range m).all (fun j=>late.contains j || DR ops m j) && (CM ops m).all (fun k=>DR ops k m) &&
  (List.range ops.length).all (fun k=>(KX ops k).all fun j=>Nat.blt j k) && Nat.blt m ops.length && lates.all (fun S=>S.all (Nat.blt · m)) &&
  (subs late).all (fun S=>S.isEmpty || !upB ops late S || lates.any (fun L=>L.all S.contains && S.all L.contains)) &&
  JR ops (ops.length+1) (m :: CM ops m) && lates.all (fun S=>JR ops (ops.length+1) (S++CM ops m))
theorem draw_runN {ops:List Oper} {m:Nat} {late:List Nat} {lates:List (List Nat)} {om:Oper} (INV:Array Bool→Fr→World→Prop) (hqp:∀ c F d v w,d<n→(Q (.panic c) (FR F d v) w↔Q (.panic c) F w)) (hd:SM ops m late lates=true) (hndl:∀ S∈lates,S.Nodup) (hok:ops.all (OU n ops)=true) (hom:ops[m]? = some om)
    (hdown:∀ listed F1 w1,INV listed F1 w1→∀ i,listed[i]? = some true→∀ j∈KX ops i,listed[j]? = some true)
    (hstep:∀ (listed:Array Bool) (F1:Fr) (w1:World) (i:Nat) (o:Oper),listed.size=ops.length→INV listed F1 w1→i<m→ops[i]? = some o→listed[i]? = some false→(∀ j∈KX ops i,listed[j]? = some true)→
      (Region.wanted o (DO ops F1)=true→DL P o.op o.type F1 w1 (fun v w2=>INV (listed.setIfInBounds i true) (IS F1 o.dst v) w2) (fun _ _=>False))∧
      (Region.wanted o (DO ops F1)=false→INV (listed.setIfInBounds i true) (IS F1 o.dst undef) w1))
    (fin:∀ listed F1 w1,INV listed F1 w1→(∀ j,j<m→listed[j]? = some true)→(∀ j,m≤j→listed[j]?≠some true)→WL false P ops Q (om :: CV ops (CM ops m)) F1 w1)
    (finL:∀ c,c<lates.length→∀ listed F1 w1,INV listed F1 w1→(∀ j,j<m→(listed[j]? = some true↔j∉lat lates c))→(∀ j,m≤j→listed[j]?≠some true)→WL false P ops Q (om :: (CV ops (lat lates c)++CV ops (CM ops m))) F1 w1) :
    ∀ (fuel:Nat) (listed:Array Bool) (F1:Fr) (w1:World),listed.size=ops.length→PM ops listed≤fuel→(∀ j,m≤j→listed[j]?≠some true)→INV listed F1 w1→wpAny P .any ops.toArray (KL n Q) fuel listed (mk n F1) w1:=by
  unfold SM at hd
  simp only [Bool.and_eq_true] at hd
  obtain ⟨⟨⟨⟨⟨⟨⟨⟨d1,d2⟩,d3⟩,d4⟩,d5⟩,d6⟩,d7⟩,d8⟩,d9⟩:=hd
  have hml:m<ops.length:=blt d5
  have hback:∀ k,k<ops.length→∀ j∈KX ops k,j<k:=fun k hk j hj=>blt (List.all_eq_true.1 (List.all_eq_true.1 d4 k (by simpa using hk)) j hj)
  have hin:∀ k,k<ops.length→∀ j∈KX ops k,j<ops.length:=fun k hk j hj=>Nat.lt_trans (hback k hk j hj) hk
  have hlm:∀ S∈lates,∀ j∈S,j<m:=fun S hS j hj=>blt (List.all_eq_true.1 (List.all_eq_true.1 d6 S hS) j hj)
  have htl:∀ j,j∈CM ops m↔m<j∧j<ops.length:=fun j=>by
    unfold CM
    rw [List.mem_iff_getElem?]
    simp only [List.getElem?_drop]
    constructor
    · rintro ⟨i,hi⟩
      have:=(List.getElem?_eq_some_iff.1 hi)
      obtain ⟨h1,h2⟩:=this
      simp at h1 h2;omega
    · rintro ⟨h1,h2⟩
      exact ⟨j - (m+1),by rw [List.getElem?_eq_getElem (by simp;omega)];simp;omega⟩
  have hndt:(CM ops m).Nodup:=by unfold CM;exact List.Nodup.sublist (List.drop_sublist _ _) List.nodup_range
  intro fuel
  induction fuel with
  | zero=>
    intro listed F1 w1 hsz hfu hno hi
    exfalso
    have h0:PM ops listed=0:=by omega
    unfold PM at h0
    have:=List.countP_eq_zero.1 h0 m (by simpa using hml)
    exact hno m (Nat.le_refl _) (by simpa using this)
  | succ fuel ih=>
    intro listed F1 w1 hsz hfu hno hi
    have hmn:listed[m]? = some false:=by
      have h1:=hno m (Nat.le_refl _)
      have:m<listed.size:=by omega
      rw [Array.getElem?_eq_getElem this] at h1 ⊢
      simpa using h1
    by_cases hall:∀ j,j<m→listed[j]? = some true
    · -- all of the first part have been carried out
      have e:CV ops (m :: CM ops m)=om :: CV ops (CM ops m):=by unfold CV;rw [List.filterMap_cons,hom]
      refine QM hok hqp hin (ops.length+1) (m :: CM ops m) (fuel+1) listed F1 w1 hsz hfu (fun j hj=>⟨fun h=>?_,fun h=>?_⟩) (fun j hj=>?_) (List.nodup_cons.2 ⟨fun h=>by have:=(htl m).1 h;omega,hndt⟩) d8 (hdown _ _ _ hi) (by
        rw [e]
        exact fin listed F1 w1 hi hall hno)
      · intro hm'
        have:m≤j:=by rcases List.mem_cons.1 hm' with h1|h1;omega;have:=(htl j).1 h1;omega
        exact hno j this h
      · exact hall j (by
          rcases Nat.lt_or_ge j m with h1|h1
          · exact h1
          · exfalso;apply h
            rcases Nat.eq_or_lt_of_le h1 with h2|h2
            · subst h2;simp
            · exact List.mem_cons_of_mem _ ((htl j).2 ⟨h2,hj⟩))
      · rcases List.mem_cons.1 hj with h1|h1
        · omega
        · exact ((htl j).1 h1).2
    · have hex:∃ j,j<m∧listed[j]?≠some true:=by
        refine Classical.byContradiction fun hc=>hall fun j hj=>Classical.byContradiction fun hn=>hc ⟨j,hj,hn⟩
      have hmin:∀ q j,q=j→j<m→listed[j]?≠some true→∃ k,k<m∧listed[k]?≠some true∧∀ i,i<k→listed[i]? = some true:=by
        intro q
        induction q using Nat.strongRecOn with
        | _ q ihq=>
          intro j hqj hj hn
          by_cases hb:∀ i,i<j→listed[i]? = some true
          · exact ⟨j,hj,hn,hb⟩
          · have:∃ i,i<j∧listed[i]?≠some true:=Classical.byContradiction fun hc=>hb fun i hi=>Classical.byContradiction fun hn=>hc ⟨i,hi,hn⟩
            obtain ⟨i,hij,hni⟩:=this
            exact ihq i (by omega) i rfl (by omega) hni
      obtain ⟨j0,hj0,hn0⟩:=hex
      obtain ⟨k,hkm,hkn,hkb⟩:=hmin j0 j0 rfl hj0 hn0
      have hkf:listed[k]? = some false:=by
        have:k<listed.size:=by omega
        rw [Array.getElem?_eq_getElem this] at hkn ⊢
        simpa using hkn
      refine ⟨fun h0=>?_,fun i hir=>?_⟩
      · have:=ready_of' hsz (by omega) hkf (fun j hj=>hkb j (hback k (by omega) j hj))
        rw [h0] at this;cases this
      · obtain ⟨hnl,hil⟩:=KM hir hsz
        have ho:ops[i]? = some ops[i]:=List.getElem?_eq_getElem hil
        have haft:=HY ho hir hsz (hin i hil)
        have hclose:∀ j,DR ops i j=true→listed[j]? = some true:=fun j hj=>by
          unfold DR at hj
          exact GW (D:=fun j=>listed[j]? = some true) (hdown _ _ _ hi) _ _ haft j (by simpa using hj)
        rcases Nat.lt_or_ge i m with him|hge
        · have hsp:=hstep listed F1 w1 i ops[i] hsz hi him ho hnl haft
          have hno':∀ j,m≤j→(listed.setIfInBounds i true)[j]?≠some true:=fun j hj=>by
            rw [Array.getElem?_setIfInBounds,if_neg (by omega)];exact hno j hj
          refine LS (K:=fun F2 w2=>INV (listed.setIfInBounds i true) F2 w2) hok ho (fun F2 w2 hK=>ih _ F2 w2 (by simpa using hsz) (by have:=IL hil hsz hnl;omega) hno' hK) (fun hw=>?_) (fun hw=>hsp.2 hw)
          have h1:=hsp.1 hw
          unfold DL at h1 ⊢
          generalize (execOp (CQ F1) ⟨none,ops[i].op,ops[i].type,"",#[],none⟩).run P w1=r at h1 ⊢
          cases r with
          | ok x w'=>
            cases x <;> simp only [FS] at h1 ⊢ <;> try exact h1.elim
            case value v=>exact h1
            case skip=>exact h1
            case enter f args=>
              exact Calls.mono h1 fun e w'' he=>by
                cases e with
                | returned v=>exact he
                | panicked c=>exact he.elim
                | outgrown=>exact he.elim
          | halt x w'=>cases x <;> simp only [FS] at h1 ⊢ <;> exact h1.elim
        · -- operation m comes ahead of some late ones
          have him:i=m:=by
            rcases Nat.eq_or_lt_of_le hge with h1|h1
            · exact h1.symm
            · have h2:=hclose m (List.all_eq_true.1 d3 i ((htl i).2 ⟨h1,hil⟩))
              rw [hmn] at h2;cases h2
          subst him
          have hnl':∀ j,j<i→j∉late→listed[j]? = some true:=fun j hj hjl=>by
            have h1:=List.all_eq_true.1 d2 j (by simpa using hj)
            simp only [Bool.or_eq_true,List.contains_iff_mem] at h1
            exact hclose j (h1.resolve_left hjl)
          have hcw:∀ b a,listed[b]? = some true→DR ops b a=true→listed[a]? = some true:=fun b a hb hba=>by
            unfold DR at hba
            exact GW (D:=fun j=>listed[j]? = some true) (hdown _ _ _ hi) _ _ ((hdown _ _ _ hi) b hb) a (by simpa using hba)
          have hS:=List.all_eq_true.1 d7 _ (NY (fun j=>listed[j]? != some true) late)
          have hmS:∀ j,j∈late.filter (fun j=>listed[j]? != some true)↔j∈late∧listed[j]?≠some true:=fun j=>by simp [List.mem_filter]
          generalize late.filter (fun j=>listed[j]? != some true)=S at hS hmS
          simp only [Bool.or_eq_true] at hS
          have hne:¬ S.isEmpty=true:=fun h=>by
            have h1:j0∈late:=Classical.byContradiction fun hc=>hn0 (hnl' j0 hj0 hc)
            have:=(hmS j0).2 ⟨h1,hn0⟩
            rw [List.isEmpty_iff.1 h] at this;simp at this
          have hup:upB ops late S=true:=by
            unfold upB
            refine List.all_eq_true.2 fun a ha=>List.all_eq_true.2 fun b hb=>?_
            simp only [Bool.or_eq_true,List.contains_iff_mem]
            cases hw:DR ops b a with
            | false=>exact .inl rfl
            | true=>exact .inr ((hmS b).2 ⟨hb,fun h=>((hmS a).1 ha).2 (hcw b a h hw)⟩)
          rw [hup] at hS
          have hS:=(hS.resolve_left (fun h=>h.elim hne (fun h=>by cases h)))
          obtain ⟨L,hL,hLS⟩:=List.any_eq_true.1 hS
          simp only [Bool.and_eq_true] at hLS
          obtain ⟨c,hc⟩:=List.mem_iff_getElem?.1 hL
          have hcl:c<lates.length:=(List.getElem?_eq_some_iff.1 hc).1
          have hlat:lat lates c=L:=by unfold lat;rw [hc];rfl
          have hmL:∀ j,j∈L↔j∈late∧listed[j]?≠some true:=fun j=>by
            rw [← hmS j]
            exact ⟨fun h=>by simpa using List.all_eq_true.1 hLS.1 j h,fun h=>by simpa using List.all_eq_true.1 hLS.2 j h⟩
          have hdropn:∀ j∈lat lates c,¬ listed[j]? = some true:=fun j hj=>by rw [hlat] at hj;exact ((hmL j).1 hj).2
          have hdropm:∀ j,j<i→(listed[j]? = some true↔j∉lat lates c):=fun j hj=>by
            constructor
            · intro h1 h2;exact hdropn j h2 h1
            · intro h1
              by_cases hjl:j∈late
              · exact Classical.byContradiction fun h2=>h1 (by rw [hlat];exact (hmL j).2 ⟨hjl,h2⟩)
              · exact hnl' j hj hjl
          have hK:=finL c hcl listed F1 w1 hi hdropm hno
          have hom':om=ops[i]:=by rw [ho] at hom;exact (Option.some.inj hom).symm
          have hso:CV ops (lat lates c)++CV ops (CM ops i)=CV ops (lat lates c++CM ops i):=by unfold CV;rw [List.filterMap_append]
          rw [hso,hom'] at hK
          have hset:∀ j,(listed.setIfInBounds i true)[j]? = some true↔j=i∨listed[j]? = some true:=fun j=>by
            rw [Array.getElem?_setIfInBounds]
            by_cases hji:i=j
            · subst hji;simp;omega
            · rw [if_neg hji];exact ⟨fun h=>.inr h,fun h=>h.resolve_left (fun e=>hji e.symm)⟩
          refine LS (K:=fun F w=>WL false P ops Q (CV ops (lat lates c++CM ops i)) F w) hok ho (fun F2 w2 hK2=>QM hok hqp hin (ops.length+1) (lat lates c++CM ops i) fuel _ F2 w2 (by simpa using hsz) (by have:=IL hil hsz hnl;omega) (fun j hj=>?_) (fun j hj=>?_) ?_ (by rw [hlat];exact List.all_eq_true.1 d9 L hL) (fun j hj q hq=>?_) hK2) (fun hw=>?_) (fun hw=>?_)
          · rw [hset j,List.mem_append,htl j]
            constructor
            · rintro (rfl|h1)
              · rintro (h2|h2)
                · have:=hlm L hL j (hlat ▸ h2);omega
                · omega
              · rintro (h2|h2)
                · exact hdropn j h2 h1
                · exact hno j (by omega) h1
            · intro h1
              rcases Nat.lt_trichotomy j i with h2|h2|h2
              · exact .inr ((hdropm j h2).2 (fun h3=>h1 (.inl h3)))
              · exact .inl h2
              · exact absurd (.inr ⟨h2,hj⟩) h1
          · rcases List.mem_append.1 hj with h1|h1
            · have:=hlm L hL j (hlat ▸ h1);omega
            · exact ((htl j).1 h1).2
          · refine List.nodup_append.2 ⟨hlat ▸ hndl L hL,hndt,fun a ha b hb e=>?_⟩
            have h1:=hlm L hL a (hlat ▸ ha)
            have h2:=(htl b).1 hb
            omega
          · rw [hset q]
            rcases (hset j).1 hj with rfl|h1
            · exact .inr (haft q hq)
            · exact .inr ((hdown _ _ _ hi) j h1 q hq)
          · unfold WL at hK;rw [if_pos hw] at hK;exact hK.resolve_right (fun e=>by cases e.1)
          · unfold WL at hK;rw [if_neg (by rw [hw];simp)] at hK;exact hK
theorem VZ {id:Nat} {ops:List Oper} {F:Fr} {w:World} (m:Nat) (late:List Nat) (lates:List (List Nat)) (hqp:∀ c F d v w,d<n→(Q (.panic c) (FR F d v) w↔Q (.panic c) F w)) (pre:List Oper) (om:Oper) (tl:List Oper) (Ts:List VM) (G:List Gr) (B:List Nat) (hm:P.follows .mixedOrders=true) (hok:ops.all (OU n ops)=true) (hd:SM ops m late lates=true) (hlen:(Nat.beq Ts.length m && Nat.beq G.length m && Nat.ble m ops.length)=true) (hgr:UM ops m G=true) (hnd:∀ S∈lates,S.Nodup)
    (hpre:ops.take m=pre) (hom:ops[m]? = some om) (htl:CV ops (CM ops m)=tl) (hst:TU Ts G) (hs:PL P ops m Ts G F w.drew B 0 pre Ts)
    (fin:FinU ops m Ts G F w B [] (WL false P ops Q (om :: tl))) (finL:∀ c,c<lates.length→FinU ops m Ts G F w B (lat lates c) (WL false P ops Q (om :: (CV ops (lat lates c)++tl)))):CW P (ro:=none) n (.region id ops.toArray true) Q F w:=by
  subst hpre;subst htl
  simp only [Bool.and_eq_true] at hlen
  have hTl:Ts.length=m:=Nat.eq_of_beq_eq_true hlen.1.1
  have hGl:G.length=Ts.length:=by rw [hTl];exact Nat.eq_of_beq_eq_true hlen.1.2
  have hle:m≤ops.length:=Nat.le_of_ble_eq_true hlen.2
  have hdr:({ w with drawn:=w.drawn+1 }:World)=w.drew:=rfl
  have hd':=hd
  unfold SM at hd'
  simp only [Bool.and_eq_true] at hd'
  obtain ⟨⟨⟨⟨⟨⟨⟨⟨d1,d2⟩,d3⟩,d4⟩,d5⟩,d6⟩,d7⟩,d8⟩,d9⟩:=hd'
  have hdist:∀ (i j:Nat) (oi oj:Oper),i<m→j<m→i≠j→ops[i]? = some oi→ops[j]? = some oj→oi.dst≠none→oi.dst≠oj.dst:=by
    intro i j oi oj hi hj hij hoi hoj hne
    have:=List.all_eq_true.1 (List.all_eq_true.1 d1 i (by simpa using hi)) j (by simpa using hj)
    simp only [Bool.or_eq_true] at this
    rcases this with h5|h5
    · exact absurd (Nat.eq_of_beq_eq_true h5) hij
    · rw [hoi,hoj] at h5
      intro e
      cases hd:oi.dst with
      | none=>exact hne hd
      | some d=>
        rw [hd] at e
        simp only [Option.bind_some,hd,← e] at h5
        simp at h5
  refine wpIn_wide.2 (wp_region_any hm ?_)
  rw [hdr,List.size_toArray]
  refine draw_runN (late:=late) (lates:=lates) (UInv ops m Ts G F w.drew B) hqp hd hnd hok hom (fun listed F1 w1 h=>h.down) (fun listed F1 w1 i o hsz h him ho hnl haft=>stepU hdist hTl hGl hle hgr hst hs hsz h him ho hnl haft)
    (fun listed F1 w1 hi hall hno=>hi.fin (fun i him _=>hall i him) hno fin) (fun c hc listed F1 w1 hi hall hno=>hi.fin (fun i him hex=>(hall i him).2 (by simpa using hex)) hno (finL c hc)) ops.length _ F w.drew (by simp) ?_ (fun j _=>?_) UInv.start
  · unfold PM;exact Nat.le_trans (List.countP_le_length) (by simp)
  · simp [Array.getElem?_replicate]
end
variable {P:Program} {ro:Option Nat} {n:Nat} {Q:Exit→Fr→World→Prop} {F:Fr} {w:World}
theorem cw_cut {x y:Code} (I:Fr→World→Prop) (h1:CW P (ro:=ro) n x (OY I Q) F w) (h2:∀ F w,I F w→CW P (ro:=ro) n y Q F w):CW P (ro:=ro) n (.seq x y) Q F w:=
  AI (wpIn_mono h1 fun e _ _ ⟨F,ha,hQ⟩=>⟨F,ha,by cases e <;> first|exact h2 _ _ hQ|exact hQ⟩)
open Go.RowKit
section
variable {P:Program} {ro:Option Nat} {n:Nat} {Q:Exit→Fr→World→Prop} {F:Fr} {w:World}
end
section
variable {P:Program}
theorem wl_yT {ops rest:List Oper} {Q:Exit→Fr→World→Prop} {F:Fr} {w:World} {d:Tmp} {ty:TypeId} {pos:String} {af:Array Edge} {xf:Operand} {xs:List Operand} {ats:Array TypeId} {j:Nat} {b:Bool} (hg:DO ops F j=some b) (l:Nat) (vs:List Value)
    (hf:CQ F xf = .func (.yield l) #[] #[]) (hv:xs.map (CQ F)=vs) (hy:LJ P l vs w (fun v w'=>WL true P ops Q rest (FR F d v) w')) :
    WL true P ops Q (⟨some d, .call { callee:=.value xf,args:=xs.toArray,argTypes:=ats },ty,pos,af,some (j,b)⟩ :: rest) F w:=by
  unfold WL
  rw [if_pos (by simp [Region.wanted,hg])]
  refine .inr ⟨rfl,?_⟩
  unfold RoundW
  obtain ⟨fn,tmps,assign,body,h1,h2⟩:=hy
  have:(execOp (CQ F) ⟨none, .call { callee:=.value xf,args:=xs.toArray,argTypes:=ats },ty,"",#[],none⟩).run P w = .ok (.round l fn tmps assign body) w:=by
    simp [execOp,resolve,Deferred.ofValue,invoke,hf,hv,h1]
  rw [this]
  exact h2.mono fun e w' ⟨v,he,hk⟩=>by subst he;exact hk
end
section
variable {P:Program} {t yt ty:TypeId} {x y:Operand} {F:Fr} {w:World} {K:Value→World→Prop} {Z:List PanicEntry→World→Prop}
end
def Enc.cells (n:Nat):Enc (List Value) where
  size:=n
  rd:=fun _ _ cs x=>cs=x∧x.length=n∧∀ u∈x,u.oneCell'=true
  len:=fun h=>h.1 ▸ h.2.1
  one:=fun h u hu=>h.2.2 u (h.1 ▸ hu)
  mv:=fun h _=>h
  sub:=fun h _=>h
end Go.Fw
namespace Go.Proofs.Ytjgfokolnkhafaa
open Go.Fw Go.RowKit
theorem NR:DP Try.prog 3=some 1:=by kernel_rfl
theorem z_3:GS Try.prog 3=some (.int .i64 0):=by kernel_rfl
theorem i_3:(Try.prog.info? 3).map (fun i=>(i.zero,i.size,i.bytes))=some (some (.int .i64 0),1,8):=by kernel_rfl
theorem z_4:GS Try.prog 4=some (.bool false):=by kernel_rfl
theorem IR:DP Try.prog 5=some 1:=by kernel_rfl
theorem z_5:GS Try.prog 5=some (.int .u8 0):=by kernel_rfl
theorem i_5:(Try.prog.info? 5).map (fun i=>(i.zero,i.size,i.bytes))=some (some (.int .u8 0),1,1):=by kernel_rfl
theorem s_22:DP Try.prog 22=some 1:=by kernel_rfl
theorem s_23:DP Try.prog 23=some 1:=by kernel_rfl
theorem z_23:GS Try.prog 23=some (.slice none 0 0):=by kernel_rfl
theorem i_23:(Try.prog.info? 23).map (fun i=>(i.zero,i.size,i.bytes))=some (some (.slice none 0 0),1,24):=by kernel_rfl
theorem s_26:DP Try.prog 26=some 1:=by kernel_rfl
theorem BM:DP Try.prog 28=some 5:=by kernel_rfl
theorem LC:GS Try.prog 28=some (.agg #[.int .i64 0, .int .i64 0, .int .i64 0, .slice none 0 0, .slice none 0 0]):=by kernel_rfl
theorem RW:MV Try.prog 28=some [(0,1),(1,1),(2,1),(3,1),(4,1)]:=by kernel_rfl
theorem LT:DS Try.prog 28 0=some 0:=by kernel_rfl
theorem LV:DS Try.prog 28 1=some 1:=by kernel_rfl
theorem f_28_2:DS Try.prog 28 2=some 2:=by kernel_rfl
theorem MZ:DS Try.prog 28 3=some 3:=by kernel_rfl
theorem DU:DS Try.prog 28 4=some 4:=by kernel_rfl
theorem QY:DP Try.prog 29=some 1:=by kernel_rfl
theorem z_29:GS Try.prog 29=some (.int .i64 0):=by kernel_rfl
theorem s_32:DP Try.prog 32=some 1:=by kernel_rfl
theorem z_32:GS Try.prog 32=some (.slice none 0 0):=by kernel_rfl
theorem GP:DP Try.prog 68=some 5:=by kernel_rfl
theorem NM:GS Try.prog 68=some (.agg #[.int .i64 0, .int .i64 0, .int .i64 0, .slice none 0 0, .slice none 0 0]):=by kernel_rfl
theorem UP:(Try.prog.info? 68).map (fun i=>(i.zero,i.size,i.bytes))=some (some (.agg #[.int .i64 0, .int .i64 0, .int .i64 0, .slice none 0 0, .slice none 0 0]),5,72):=by kernel_rfl
theorem pl_68:MV Try.prog 68=some [(0,1),(1,1),(2,1),(3,1),(4,1)]:=by kernel_rfl
theorem f_68_0:DS Try.prog 68 0=some 0:=by kernel_rfl
theorem PF:DS Try.prog 68 1=some 1:=by kernel_rfl
theorem LR:DS Try.prog 68 2=some 2:=by kernel_rfl
theorem PD:DS Try.prog 68 3=some 3:=by kernel_rfl
theorem UD:DS Try.prog 68 4=some 4:=by kernel_rfl
theorem DC:DP Try.prog 70=some 5:=by kernel_rfl
theorem MO:GS Try.prog 70=some (.agg #[.int .i64 0, .int .i64 0, .int .i64 0, .int .i64 0, .slice none 0 0]):=by kernel_rfl
theorem i_70:(Try.prog.info? 70).map (fun i=>(i.zero,i.size,i.bytes))=some (some (.agg #[.int .i64 0, .int .i64 0, .int .i64 0, .int .i64 0, .slice none 0 0]),5,56):=by kernel_rfl
theorem pl_70:MV Try.prog 70=some [(0,1),(1,1),(2,1),(3,1),(4,1)]:=by kernel_rfl
theorem HW:DS Try.prog 70 0=some 0:=by kernel_rfl
theorem OB:DS Try.prog 70 1=some 1:=by kernel_rfl
theorem JC:DS Try.prog 70 2=some 2:=by kernel_rfl
theorem JE:DS Try.prog 70 3=some 3:=by kernel_rfl
theorem FV:DS Try.prog 70 4=some 4:=by kernel_rfl
theorem s_83:DP Try.prog 83=some 1:=by kernel_rfl
theorem z_83:GS Try.prog 83=some (.slice none 0 0):=by kernel_rfl
theorem z_113:GS Try.prog 113=some (.agg #[.int .i64 0, .int .i64 0, .int .i64 0, .slice none 0 0, .slice none 0 0]):=by kernel_rfl
theorem pl_113:MV Try.prog 113=some [(0,5)]:=by kernel_rfl
theorem HE:DS Try.prog 113 0=some 0:=by kernel_rfl
theorem s_125:DP Try.prog 125=some 1:=by kernel_rfl
theorem PX:GS Try.prog 125=some (.agg #[.int .i64 0]):=by kernel_rfl
theorem NI:MV Try.prog 125=some [(0,1)]:=by kernel_rfl
theorem f_125_0:DS Try.prog 125 0=some 0:=by kernel_rfl
theorem s_132:DP Try.prog 132=some 1:=by kernel_rfl
theorem z_132:GS Try.prog 132=some (.map none):=by kernel_rfl
theorem s_134:DP Try.prog 134=some 8:=by kernel_rfl
theorem z_134:GS Try.prog 134=some (.agg #[.int .u8 0, .int .u8 0, .int .u8 0, .int .u8 0, .int .u8 0, .int .u8 0, .int .u8 0, .int .u8 0]):=by kernel_rfl
theorem enter_10 (xs:Array Value) (w:World):(callFunc 10 xs).run Try.prog w = .ok (.enter 10 xs) w:=AT Try.func10 (by kernel_rfl) rfl xs w
theorem MM (xs:Array Value) (w:World):(callFunc 11 xs).run Try.prog w = .ok (.enter 11 xs) w:=AT Try.func11 (by kernel_rfl) rfl xs w
theorem QS (xs:Array Value) (w:World):(callFunc 14 xs).run Try.prog w = .ok (.enter 14 xs) w:=AT Try.func14 (by kernel_rfl) rfl xs w
theorem enter_15 (xs:Array Value) (w:World):(callFunc 15 xs).run Try.prog w = .ok (.enter 15 xs) w:=AT Try.func15 (by kernel_rfl) rfl xs w
theorem TL (xs:Array Value) (w:World):(callFunc 16 xs).run Try.prog w = .ok (.enter 16 xs) w:=AT Try.func16 (by kernel_rfl) rfl xs w
theorem SP (xs:Array Value) (w:World):(callFunc 18 xs).run Try.prog w = .ok (.enter 18 xs) w:=AT Try.func18 (by kernel_rfl) rfl xs w
theorem enter_19 (xs:Array Value) (w:World):(callFunc 19 xs).run Try.prog w = .ok (.enter 19 xs) w:=AT Try.func19 (by kernel_rfl) rfl xs w
theorem enter_20 (xs:Array Value) (w:World):(callFunc 20 xs).run Try.prog w = .ok (.enter 20 xs) w:=AT Try.func20 (by kernel_rfl) rfl xs w
theorem enter_21 (xs:Array Value) (w:World):(callFunc 21 xs).run Try.prog w = .ok (.enter 21 xs) w:=AT Try.func21 (by kernel_rfl) rfl xs w
theorem enter_23 (xs:Array Value) (w:World):(callFunc 23 xs).run Try.prog w = .ok (.enter 23 xs) w:=AT Try.func23 (by kernel_rfl) rfl xs w
theorem QQ (xs:Array Value) (w:World):(callFunc 24 xs).run Try.prog w = .ok (.enter 24 xs) w:=AT Try.func24 (by kernel_rfl) rfl xs w
theorem enter_25 (xs:Array Value) (w:World):(callFunc 25 xs).run Try.prog w = .ok (.enter 25 xs) w:=AT Try.func25 (by kernel_rfl) rfl xs w
theorem enter_26 (xs:Array Value) (w:World):(callFunc 26 xs).run Try.prog w = .ok (.enter 26 xs) w:=AT Try.func26 (by kernel_rfl) rfl xs w
theorem enter_28 (xs:Array Value) (w:World):(callFunc 28 xs).run Try.prog w = .ok (.enter 28 xs) w:=AT Try.func28 (by kernel_rfl) rfl xs w
theorem enter_30 (xs:Array Value) (w:World):(callFunc 30 xs).run Try.prog w = .ok (.enter 30 xs) w:=AT Try.func30 (by kernel_rfl) rfl xs w
theorem ME (xs:Array Value) (w:World):(callFunc 31 xs).run Try.prog w = .ok (.enter 31 xs) w:=AT Try.func31 (by kernel_rfl) rfl xs w
theorem UB (xs:Array Value) (w:World):(callFunc 32 xs).run Try.prog w = .ok (.enter 32 xs) w:=AT Try.func32 (by kernel_rfl) rfl xs w
theorem QU (xs:Array Value) (w:World):(callFunc 33 xs).run Try.prog w = .ok (.enter 33 xs) w:=AT Try.func33 (by kernel_rfl) rfl xs w
theorem enter_34 (xs:Array Value) (w:World):(callFunc 34 xs).run Try.prog w = .ok (.enter 34 xs) w:=AT Try.func34 (by kernel_rfl) rfl xs w
theorem enter_35 (xs:Array Value) (w:World):(callFunc 35 xs).run Try.prog w = .ok (.enter 35 xs) w:=AT Try.func35 (by kernel_rfl) rfl xs w
theorem enter_38 (xs:Array Value) (w:World):(callFunc 38 xs).run Try.prog w = .ok (.enter 38 xs) w:=AT Try.func38 (by kernel_rfl) rfl xs w
theorem SZ (xs:Array Value) (w:World):(callFunc 39 xs).run Try.prog w = .ok (.enter 39 xs) w:=AT Try.func39 (by kernel_rfl) rfl xs w
theorem MG (xs:Array Value) (w:World):(callFunc 40 xs).run Try.prog w = .ok (.enter 40 xs) w:=AT Try.func40 (by kernel_rfl) rfl xs w
theorem enter_41 (xs:Array Value) (w:World):(callFunc 41 xs).run Try.prog w = .ok (.enter 41 xs) w:=AT Try.func41 (by kernel_rfl) rfl xs w
theorem enter_42 (xs:Array Value) (w:World):(callFunc 42 xs).run Try.prog w = .ok (.enter 42 xs) w:=AT Try.func42 (by kernel_rfl) rfl xs w
theorem enter_43 (xs:Array Value) (w:World):(callFunc 43 xs).run Try.prog w = .ok (.enter 43 xs) w:=AT Try.func43 (by kernel_rfl) rfl xs w
theorem enter_44 (xs:Array Value) (w:World):(callFunc 44 xs).run Try.prog w = .ok (.enter 44 xs) w:=AT Try.func44 (by kernel_rfl) rfl xs w
theorem enter_45 (xs:Array Value) (w:World):(callFunc 45 xs).run Try.prog w = .ok (.enter 45 xs) w:=AT Try.func45 (by kernel_rfl) rfl xs w
theorem enter_46 (xs:Array Value) (w:World):(callFunc 46 xs).run Try.prog w = .ok (.enter 46 xs) w:=AT Try.func46 (by kernel_rfl) rfl xs w
theorem SW (xs:Array Value) (w:World):(callFunc 47 xs).run Try.prog w = .ok (.enter 47 xs) w:=AT Try.func47 (by kernel_rfl) rfl xs w
theorem enter_48 (xs:Array Value) (w:World):(callFunc 48 xs).run Try.prog w = .ok (.enter 48 xs) w:=AT Try.func48 (by kernel_rfl) rfl xs w
theorem NO (xs:Array Value) (w:World):(callFunc 49 xs).run Try.prog w = .ok (.enter 49 xs) w:=AT Try.func49 (by kernel_rfl) rfl xs w
theorem enter_50 (xs:Array Value) (w:World):(callFunc 50 xs).run Try.prog w = .ok (.enter 50 xs) w:=AT Try.func50 (by kernel_rfl) rfl xs w
theorem UG (xs:Array Value) (w:World):(callFunc 51 xs).run Try.prog w = .ok (.enter 51 xs) w:=AT Try.func51 (by kernel_rfl) rfl xs w
theorem enter_52 (xs:Array Value) (w:World):(callFunc 52 xs).run Try.prog w = .ok (.enter 52 xs) w:=AT Try.func52 (by kernel_rfl) rfl xs w
theorem enter_53 (xs:Array Value) (w:World):(callFunc 53 xs).run Try.prog w = .ok (.enter 53 xs) w:=AT Try.func53 (by kernel_rfl) rfl xs w
theorem enter_54 (xs:Array Value) (w:World):(callFunc 54 xs).run Try.prog w = .ok (.enter 54 xs) w:=AT Try.func54 (by kernel_rfl) rfl xs w
theorem enter_55 (xs:Array Value) (w:World):(callFunc 55 xs).run Try.prog w = .ok (.enter 55 xs) w:=AT Try.func55 (by kernel_rfl) rfl xs w
theorem enter_56 (xs:Array Value) (w:World):(callFunc 56 xs).run Try.prog w = .ok (.enter 56 xs) w:=AT Try.func56 (by kernel_rfl) rfl xs w
theorem enter_61 (xs:Array Value) (w:World):(callFunc 61 xs).run Try.prog w = .ok (.enter 61 xs) w:=AT Try.func61 (by kernel_rfl) rfl xs w
theorem enter_62 (xs:Array Value) (w:World):(callFunc 62 xs).run Try.prog w = .ok (.enter 62 xs) w:=AT Try.func62 (by kernel_rfl) rfl xs w
theorem enter_63 (xs:Array Value) (w:World):(callFunc 63 xs).run Try.prog w = .ok (.enter 63 xs) w:=AT Try.func63 (by kernel_rfl) rfl xs w
theorem enter_64 (xs:Array Value) (w:World):(callFunc 64 xs).run Try.prog w = .ok (.enter 64 xs) w:=AT Try.func64 (by kernel_rfl) rfl xs w
theorem MD (xs:Array Value) (w:World):(callFunc 65 xs).run Try.prog w = .ok (.enter 65 xs) w:=AT Try.func65 (by kernel_rfl) rfl xs w
theorem enter_66 (xs:Array Value) (w:World):(callFunc 66 xs).run Try.prog w = .ok (.enter 66 xs) w:=AT Try.func66 (by kernel_rfl) rfl xs w
theorem MH (xs:Array Value) (w:World):(callFunc 67 xs).run Try.prog w = .ok (.enter 67 xs) w:=AT Try.func67 (by kernel_rfl) rfl xs w
theorem enter_68 (xs:Array Value) (w:World):(callFunc 68 xs).run Try.prog w = .ok (.enter 68 xs) w:=AT Try.func68 (by kernel_rfl) rfl xs w
theorem enter_69 (xs:Array Value) (w:World):(callFunc 69 xs).run Try.prog w = .ok (.enter 69 xs) w:=AT Try.func69 (by kernel_rfl) rfl xs w
theorem enter_70 (xs:Array Value) (w:World):(callFunc 70 xs).run Try.prog w = .ok (.enter 70 xs) w:=AT Try.func70 (by kernel_rfl) rfl xs w
theorem enter_71 (xs:Array Value) (w:World):(callFunc 71 xs).run Try.prog w = .ok (.enter 71 xs) w:=AT Try.func71 (by kernel_rfl) rfl xs w
theorem JO (xs:Array Value) (w:World):(callFunc 72 xs).run Try.prog w = .ok (.enter 72 xs) w:=AT Try.func72 (by kernel_rfl) rfl xs w
theorem enter_73 (xs:Array Value) (w:World):(callFunc 73 xs).run Try.prog w = .ok (.enter 73 xs) w:=AT Try.func73 (by kernel_rfl) rfl xs w
theorem enter_74 (xs:Array Value) (w:World):(callFunc 74 xs).run Try.prog w = .ok (.enter 74 xs) w:=AT Try.func74 (by kernel_rfl) rfl xs w
theorem enter_75 (xs:Array Value) (w:World):(callFunc 75 xs).run Try.prog w = .ok (.enter 75 xs) w:=AT Try.func75 (by kernel_rfl) rfl xs w
theorem enter_76 (xs:Array Value) (w:World):(callFunc 76 xs).run Try.prog w = .ok (.enter 76 xs) w:=AT Try.func76 (by kernel_rfl) rfl xs w
theorem enter_81 (xs:Array Value) (w:World):(callFunc 81 xs).run Try.prog w = .ok (.enter 81 xs) w:=AT Try.func81 (by kernel_rfl) rfl xs w
theorem enter_82 (xs:Array Value) (w:World):(callFunc 82 xs).run Try.prog w = .ok (.enter 82 xs) w:=AT Try.func82 (by kernel_rfl) rfl xs w
theorem enter_83 (xs:Array Value) (w:World):(callFunc 83 xs).run Try.prog w = .ok (.enter 83 xs) w:=AT Try.func83 (by kernel_rfl) rfl xs w
theorem enter_84 (xs:Array Value) (w:World):(callFunc 84 xs).run Try.prog w = .ok (.enter 84 xs) w:=AT Try.func84 (by kernel_rfl) rfl xs w
theorem enter_85 (xs:Array Value) (w:World):(callFunc 85 xs).run Try.prog w = .ok (.enter 85 xs) w:=AT Try.func85 (by kernel_rfl) rfl xs w
theorem enter_86 (xs:Array Value) (w:World):(callFunc 86 xs).run Try.prog w = .ok (.enter 86 xs) w:=AT Try.func86 (by kernel_rfl) rfl xs w
theorem enter_87 (xs:Array Value) (w:World):(callFunc 87 xs).run Try.prog w = .ok (.enter 87 xs) w:=AT Try.func87 (by kernel_rfl) rfl xs w
theorem enter_88 (xs:Array Value) (w:World):(callFunc 88 xs).run Try.prog w = .ok (.enter 88 xs) w:=AT Try.func88 (by kernel_rfl) rfl xs w
theorem enter_89 (xs:Array Value) (w:World):(callFunc 89 xs).run Try.prog w = .ok (.enter 89 xs) w:=AT Try.func89 (by kernel_rfl) rfl xs w
theorem enter_90 (xs:Array Value) (w:World):(callFunc 90 xs).run Try.prog w = .ok (.enter 90 xs) w:=AT Try.func90 (by kernel_rfl) rfl xs w
theorem enter_91 (xs:Array Value) (w:World):(callFunc 91 xs).run Try.prog w = .ok (.enter 91 xs) w:=AT Try.func91 (by kernel_rfl) rfl xs w
theorem enter_92 (xs:Array Value) (w:World):(callFunc 92 xs).run Try.prog w = .ok (.enter 92 xs) w:=AT Try.func92 (by kernel_rfl) rfl xs w
theorem MA (xs:Array Value) (w:World):(callFunc 93 xs).run Try.prog w = .ok (.enter 93 xs) w:=AT Try.func93 (by kernel_rfl) rfl xs w
theorem enter_94 (xs:Array Value) (w:World):(callFunc 94 xs).run Try.prog w = .ok (.enter 94 xs) w:=AT Try.func94 (by kernel_rfl) rfl xs w
theorem enter_95 (xs:Array Value) (w:World):(callFunc 95 xs).run Try.prog w = .ok (.enter 95 xs) w:=AT Try.func95 (by kernel_rfl) rfl xs w
theorem enter_96 (xs:Array Value) (w:World):(callFunc 96 xs).run Try.prog w = .ok (.enter 96 xs) w:=AT Try.func96 (by kernel_rfl) rfl xs w
theorem enter_97 (xs:Array Value) (w:World):(callFunc 97 xs).run Try.prog w = .ok (.enter 97 xs) w:=AT Try.func97 (by kernel_rfl) rfl xs w
theorem enter_98 (xs:Array Value) (w:World):(callFunc 98 xs).run Try.prog w = .ok (.enter 98 xs) w:=AT Try.func98 (by kernel_rfl) rfl xs w
theorem FK (xs:Array Value) (w:World):(callFunc 103 xs).run Try.prog w = .ok (.enter 103 xs) w:=AT Try.func103 (by kernel_rfl) rfl xs w
theorem enter_104 (xs:Array Value) (w:World):(callFunc 104 xs).run Try.prog w = .ok (.enter 104 xs) w:=AT Try.func104 (by kernel_rfl) rfl xs w
theorem enter_105 (xs:Array Value) (w:World):(callFunc 105 xs).run Try.prog w = .ok (.enter 105 xs) w:=AT Try.func105 (by kernel_rfl) rfl xs w
theorem VE (xs:Array Value) (w:World):(callFunc 106 xs).run Try.prog w = .ok (.enter 106 xs) w:=AT Try.func106 (by kernel_rfl) rfl xs w
theorem enter_107 (xs:Array Value) (w:World):(callFunc 107 xs).run Try.prog w = .ok (.enter 107 xs) w:=AT Try.func107 (by kernel_rfl) rfl xs w
theorem enter_108 (xs:Array Value) (w:World):(callFunc 108 xs).run Try.prog w = .ok (.enter 108 xs) w:=AT Try.func108 (by kernel_rfl) rfl xs w
theorem enter_113 (xs:Array Value) (w:World):(callFunc 113 xs).run Try.prog w = .ok (.enter 113 xs) w:=AT Try.func113 (by kernel_rfl) rfl xs w
theorem enter_114 (xs:Array Value) (w:World):(callFunc 114 xs).run Try.prog w = .ok (.enter 114 xs) w:=AT Try.func114 (by kernel_rfl) rfl xs w
theorem ov_115 (x y:Value) (w:World) (h:(Extern.SlicesOverlaps.overlaps #[22,22] #[4] #[x,y]).run Try.prog w = .ok (.bool false) w):(callFunc 115 #[x,y]).run Try.prog w = .ok (.value (.bool false)) w:=by
  rw [run_callFunc_extern Try.func115 (by kernel_rfl) (by kernel_rfl) (by kernel_rfl) (e:=Extern.SlicesOverlaps.overlaps #[22,22] #[4]) (by kernel_rfl),h];rfl
theorem enter_117 (xs:Array Value) (w:World):(callFunc 117 xs).run Try.prog w = .ok (.enter 117 xs) w:=AT Try.func117 (by kernel_rfl) rfl xs w
theorem enter_119 (xs:Array Value) (w:World):(callFunc 119 xs).run Try.prog w = .ok (.enter 119 xs) w:=AT Try.func119 (by kernel_rfl) rfl xs w
open Go.Fw Go.RowKit
set_option maxHeartbeats 4000000 in
set_option maxRecDepth 100000 in
theorem VW {O B:List Nat} {w0 w:World} (v u:Value) (l m:List Int) (i:Nat) (s0:St w0 O w B) (ho:EG Enc.int 3 w0.heap.size (B++O) w v l) (hu:EG Enc.int 3 w0.heap.size (B++O) w u m) (hB:∀ b,v.ownBlock=some b→b∈B) (d7:∀ b,u.ownBlock=some b→b∈B) (hne:∀ b,v.ownBlock=some b→u.ownBlock≠some b) (hm:0<m.length) (hi:i≤l.length) (hlen:(l.length+m.length)*8≤140737488355328) (c8:l.length+m.length≤maxLen):Calls Try.prog 106 [v,vI (i:Int),u].toArray w (fun e w'=>∃ (v':Value) (B':List Nat),e = .returned v'∧(∀ b,v'.ownBlock=some b→b∈B')∧(∀ b,v'.ownBlock=some b→v.ownBlock=some b∨w.heap.size≤b)∧(∀ b∈B,b∈B')∧St w0 O w' B'∧Mv B w B' w'∧Keep v.ownBlock.toList w w'∧EG Enc.int 3 w0.heap.size (B'++O) w' v' (l.take i++m++l.drop i)):= by
  have ms:Mv B w B w:=Mv.refl _ _
  have ks:Keep v.ownBlock.toList w w:=Keep.refl _ _
  have g7:=c8
  simp only [maxLen] at g7
  refine CE 95 Try.func106 rfl rfl oT (fun F0=>AI (AC kR (AA (AF (nS) rfl (AH (AD (AI (AC kR (AA (AG (v) rfl (AA (AG (vI (i:Int)) rfl (AA (SR U22_ NR i .i64 (i:Int) rfl rfl rfl oM ho fun h6 g8=>(AH (AD (AI (AC kR (AA (AG (u) rfl (AA (SU U22_ rfl hu (AA (AF (vI (m.length:Int)) rfl (AH (AD (AI (AI (AC kR (AA (AG (vI (m.length:Int)) rfl (AA (EV .i64 (m.length:Int) (0:Int) rfl rfl (AH (AD (?_))))))))))))))))))))))))))))))))))))
  have d8:((m.length:Int) == (0:Int))=false:=(by rw [beq_eq_false_iff_ne];omega)
  rw [d8]
  refine AN false rfl rfl (fun h=>by cases h) (fun _=>AW (AD (AI (AC kR (AA (AG (v) rfl (AA (SU U22_ rfl ho (AA (AF (vI (l.length:Int)) rfl (AH (AD (AI (AI (AC kR (AA (AG (vI (i:Int)) rfl (AA (AG (vI (l.length:Int)) rfl (AA (EV .i64 (i:Int) (l.length:Int) rfl rfl (AH (AD (AN ((i:Int) == (l.length:Int)) rfl rfl (fun b0=>?_) (fun b0=>?_)))))))))))))))))))))))))
  · have g9:(i:Int)=(l.length:Int):=by simpa using b0
    refine AI (AC kR (AA (AG (v) rfl (AA (AG (u) rfl (AA (o_appendOO (E:=Enc.int) (l:=l) (m:=m) U22_ i_3 rfl (by decide) rfl rfl ho hu  hB hlen c8 s0 fun b8 h7 c9 d9 c4 b6 e8 d0 d1 c5=>(?_))))))))
    have h0:∀ b,u.ownBlock=some b→b8.ownBlock≠some b:=fun b hb e=>by rcases c4 with e1|e1 <;> rw [e1] at e <;> first|(cases e;have:=(hu.lt _ hb).2;omega)|(exact absurd e ((fun b hb e=>hne b e hb) b hb))
    have d7:∀ b,u.ownBlock=some b→b∈c9:=fun b hb=>b6 b (d7 b hb)
    have hu:=hu.mv d0 d1 (fun b hb=>by simp only [Option.mem_toList];exact (fun b hb e=>hne b e hb) b hb)
    have ms:=ms.trans d0
    have ks:=ks.step0 d1 (fun b hb=>by exact .inl hb)
    refine AA (AF (b8) rfl (AH (AD (AQ (AR (AX rfl (CK rfl rfl rfl) (?_)))))))
    rw [show l++m=l.take i++m++l.drop i from by rw [show i=l.length from by omega,List.take_length,List.drop_length,List.append_nil]] at c5
    exact ⟨b8,c9,rfl,d9,fun b hb=>by rcases c4 with e1|e1 <;> rw [e1] at hb;exact .inl hb;cases hb;exact .inr (Nat.le_refl _),b6,e8,ms,ks,c5⟩
  have h1:(i:Int)≠(l.length:Int):=by simpa using b0
  obtain ⟨g,c,cur,css,rfl,hgb,bg,hnc,hcm,hcl,hcss,hrd⟩:=own_open ho oM
  obtain ⟨gu,cu,curu,cssu,rfl,hgub,bgu,hncu,hcmu,hclu,hcssu,b9⟩:=own_open hu oM
  have hgB:g∈B:=hB g rfl
  have hguB:gu∈B:=d7 gu rfl
  have hgg:g≠gu:=fun e=>hne g rfl (by rw [e];rfl)
  have hns:l.length*Enc.int.size≤cur.length:=by rw [hcl];exact Nat.mul_le_mul_right _ hnc
  have d2:m.length*Enc.int.size≤curu.length:=by rw [hclu];exact Nat.mul_le_mul_right _ hncu
  have one1:=ones_drop hrd hcss hi hns
  have one2:=ones_all b9 hcssu
  have hfm:=b9.flen
  refine AW (AD (AI (AI (AC kR (AA (AG (vI (l.length:Int)) rfl (AA (AG (vI (m.length:Int)) rfl (AA (DE .i64 (l.length:Int) (m.length:Int) (((l.length+m.length:Nat):Int)) rfl rfl (GR oM oM) (AA (AG (vS (some ⟨g,0,none⟩) l.length c) rfl (AA (o_cap _ _ c U22_ rfl (AA (HI .i64 ((l.length+m.length:Nat):Int) ((c:Nat):Int) rfl rfl (AH (AD (AN (decide (((c:Nat):Int)<((l.length+m.length:Nat):Int))) rfl rfl (fun b1=>?_) (fun b1=>?_))))))))))))))))))))
  · have h3:((c:Nat):Int)<((l.length+m.length:Nat):Int):=by simpa using b1
    refine AI (AC kR (AA (AG (vS (some ⟨g,0,none⟩) l.length c) rfl (AA (AG (vI (i:Int)) rfl (AA (VG (size:=Enc.int.size) U22_ NR g 0 l.length c i .i64 (i:Int) rfl rfl rfl oM (AA (AG (vI (l.length:Int)) rfl (AA (AG (vI (m.length:Int)) rfl (AA (DE .i64 (l.length:Int) (m.length:Int) (((l.length+m.length:Nat):Int)) rfl rfl (GR oM oM) (AA (AG (vI (i:Int)) rfl (AA (JM .i64 ((l.length+m.length:Nat):Int) (i:Int) ((((l.length+m.length) - i:Nat):Int)) rfl rfl (GR oM oM) (AA (o_appendZ (size:=Enc.int.size) (i:=i) ((l.length+m.length) - i) (l.length+m.length) (((l.length+m.length) - i:Nat):Int) oM U22_ U3_ i_3 rfl (by decide) rfl rfl rfl bg (by rw [hcl];exact Nat.mul_le_mul_right _ oM) oM oM hlen c8 s0 fun a0 a2 b7 h8 e9 e0 f0 f1 c0 e2 a5 h4 e3 e4=>(?_))))))))))))))))))))
    have c6:g≠a0:=by have:=bg.lt;omega
    have c7:gu≠a0:=by have:=bgu.lt;omega
    have c1:w.heap.size≤a0:=by have:=ks.size;omega
    clear e9
    have bg:=bg.keep c0 (by simp)
    have bgu:=bgu.keep c0 (by simp)
    have ms:=ms.trans f1
    have ks:=ks.step0 c0 (fun b hb=>by (simp at hb;done))
    refine AA (AF (vS (some ⟨a0,0,none⟩) (l.length+m.length) a2) rfl (AH (AD (AI (AC kR (AA (AG (vS (some ⟨a0,0,none⟩) (l.length+m.length) a2) rfl (AA (AG (vI (i:Int)) rfl (AA (IV (size:=Enc.int.size) U22_ NR a0 (l.length+m.length) a2 i .i64 (i:Int) rfl rfl rfl oM oM oM (AA (AG (vS (some ⟨gu,0,none⟩) m.length cu) rfl (AA (OE (size:=Enc.int.size) m.length U22_ NR rfl rfl e2 bgu (by repeat (constructor)) (by simp only [Nat.min_def];split <;> omega) (by rw [a5,← Nat.add_mul];exact Nat.mul_le_mul_right _ oM) (by rw [Nat.zero_add];exact d2) one2 f0 fun a1 a3 f2 c2 b2=>(?_))))))))))))))))
    have a8:(GD b7 (i*Enc.int.size) ((curu.drop 0).take (m.length*Enc.int.size))).length=a2*Enc.int.size:=by rw [MP (by rw [List.length_take,List.length_drop,Nat.min_eq_left (by have h2:=((by rw [Nat.zero_add];exact d2):0+m.length*Enc.int.size≤curu.length);omega)];exact (by rw [a5,← Nat.add_mul];exact Nat.mul_le_mul_right _ oM))];exact a5
    have bg:=bg.keep c2 (BF c6)
    have bgu:=bgu.keep c2 (BF c7)
    have ms:=ms.trans f2
    have ks:=ks.step0 c2 (fun b hb=>by (simp only [List.mem_singleton] at hb;subst hb;(right;omega)))
    refine AH (AD (AI (cw_draw' 8 _ _ [DB (vS (some ⟨a0,0,none⟩) (l.length+m.length) a2),DB (vI (i:Int)),DB (vI (m.length:Int)),DB (vI ((i+m.length:Nat):Int)),DB (vS (some ⟨a0,((i+m.length)*Enc.int.size),none⟩) ((l.length+m.length) - (i+m.length)) (a2 - (i+m.length))),DB (vS (some ⟨g,0,none⟩) l.length c),DB (vI (i:Int)),DB (vS (some ⟨g,(i*Enc.int.size),none⟩) (l.length - i) (c - i))] kR kR kR kR rfl rfl ⟨kI,kI,kI,kI,kI,kI,kI,kI,trivial⟩ ⟨?_,?_,?_,?_,?_,?_,?_,?_,trivial⟩ ?_)))
    · intro F1 w1 k1 hf hd
      have k0:=(Keep.drew [] a1).trans k1
      have s1:=a3.call k0
      have m1:Mv (a0 :: B) a1 (a0 :: B) w1:=Mv.of_keep k0
      obtain ⟨F2,rfl⟩:=AM (F:=F1) [(9,vS (some ⟨a0,0,none⟩) (l.length+m.length) a2)] ⟨hf 9 kR,trivial⟩
      exact AK rfl ((AG (vS (some ⟨a0,0,none⟩) (l.length+m.length) a2) rfl (⟨(Keep.refl _ _),rfl⟩)))
    · intro F1 w1 k1 hf hd
      have k0:=(Keep.drew [] a1).trans k1
      have s1:=a3.call k0
      have m1:Mv (a0 :: B) a1 (a0 :: B) w1:=Mv.of_keep k0
      obtain ⟨F2,rfl⟩:=AM (F:=F1) [(1,vI (i:Int))] ⟨hf 1 kR,trivial⟩
      exact AK rfl ((AG (vI (i:Int)) rfl (⟨(Keep.refl _ _),rfl⟩)))
    · intro F1 w1 k1 hf hd
      have k0:=(Keep.drew [] a1).trans k1
      have s1:=a3.call k0
      have m1:Mv (a0 :: B) a1 (a0 :: B) w1:=Mv.of_keep k0
      obtain ⟨F2,rfl⟩:=AM (F:=F1) [(7,vI (m.length:Int))] ⟨hf 7 kR,trivial⟩
      exact AK rfl ((AG (vI (m.length:Int)) rfl (⟨(Keep.refl _ _),rfl⟩)))
    · intro F1 w1 k1 hf hd
      have k0:=(Keep.drew [] a1).trans k1
      have s1:=a3.call k0
      have m1:Mv (a0 :: B) a1 (a0 :: B) w1:=Mv.of_keep k0
      obtain ⟨F2,rfl⟩:=AM (F:=F1) [(47,vI (i:Int)),(48,vI (m.length:Int))] ⟨hd 1 47 kR,hd 2 48 kR,trivial⟩
      exact AK rfl ((DE .i64 (i:Int) (m.length:Int) (((i+m.length:Nat):Int)) rfl rfl (GR oM oM) (⟨(Keep.refl _ _),rfl⟩)))
    · intro F1 w1 k1 hf hd
      have k0:=(Keep.drew [] a1).trans k1
      have s1:=a3.call k0
      have m1:Mv (a0 :: B) a1 (a0 :: B) w1:=Mv.of_keep k0
      obtain ⟨F2,rfl⟩:=AM (F:=F1) [(46,vS (some ⟨a0,0,none⟩) (l.length+m.length) a2),(49,vI ((i+m.length:Nat):Int))] ⟨hd 0 46 kR,hd 3 49 kR,trivial⟩
      exact AK rfl ((IV (size:=Enc.int.size) U22_ NR a0 (l.length+m.length) a2 (i+m.length) .i64 ((i+m.length:Nat):Int) rfl rfl rfl oM oM oM (⟨(Keep.refl _ _),rfl⟩)))
    · intro F1 w1 k1 hf hd
      have k0:=(Keep.drew [] a1).trans k1
      have s1:=a3.call k0
      have m1:Mv (a0 :: B) a1 (a0 :: B) w1:=Mv.of_keep k0
      obtain ⟨F2,rfl⟩:=AM (F:=F1) [(0,vS (some ⟨g,0,none⟩) l.length c)] ⟨hf 0 kR,trivial⟩
      exact AK rfl ((AG (vS (some ⟨g,0,none⟩) l.length c) rfl (⟨(Keep.refl _ _),rfl⟩)))
    · intro F1 w1 k1 hf hd
      have k0:=(Keep.drew [] a1).trans k1
      have s1:=a3.call k0
      have m1:Mv (a0 :: B) a1 (a0 :: B) w1:=Mv.of_keep k0
      obtain ⟨F2,rfl⟩:=AM (F:=F1) [(1,vI (i:Int))] ⟨hf 1 kR,trivial⟩
      exact AK rfl ((AG (vI (i:Int)) rfl (⟨(Keep.refl _ _),rfl⟩)))
    · intro F1 w1 k1 hf hd
      have k0:=(Keep.drew [] a1).trans k1
      have s1:=a3.call k0
      have m1:Mv (a0 :: B) a1 (a0 :: B) w1:=Mv.of_keep k0
      obtain ⟨F2,rfl⟩:=AM (F:=F1) [(51,vS (some ⟨g,0,none⟩) l.length c),(52,vI (i:Int))] ⟨hd 5 51 kR,hd 6 52 kR,trivial⟩
      exact AK rfl ((IV (size:=Enc.int.size) U22_ NR g l.length c i .i64 (i:Int) rfl rfl rfl oM oM oM (⟨(Keep.refl _ _),rfl⟩)))
    intro f3 f4 a6 b3 b4
    have f5:=a3.call a6
    have f6:Mv (a0 :: B) a1 (a0 :: B) f4:=Mv.of_keep a6
    have bg:=bg.keep a6 (by simp)
    have bgu:=bgu.keep a6 (by simp)
    have b2:=b2.keep a6 (by simp)
    have ms:=ms.trans f6
    have ks:=ks.step0 a6 (fun b hb=>by (simp at hb;done))
    obtain ⟨F2,rfl⟩:=AM (F:=f3) [(9,vS (some ⟨a0,0,none⟩) (l.length+m.length) a2),(95,undef),(50,vS (some ⟨a0,((i+m.length)*Enc.int.size),none⟩) ((l.length+m.length) - (i+m.length)) (a2 - (i+m.length))),(53,vS (some ⟨g,(i*Enc.int.size),none⟩) (l.length - i) (c - i))] ⟨b4 9 kR,b4 95 kR,b3 4 50 kR (by decide),b3 7 53 kR (by decide),trivial⟩
    clear b3 b4
    refine AA (OE (size:=Enc.int.size) (l.length - i) U22_ NR rfl rfl b2 bg (by repeat (constructor)) (by simp only [Nat.min_def];split <;> omega) (by rw [a8,← Nat.add_mul];exact Nat.mul_le_mul_right _ oM) (by rw [← Nat.add_mul];exact Nat.le_trans (Nat.mul_le_mul_right _ oM) hns) one1 f5 fun h9 f7 f8 c3 e5=>(?_))
    have d5:(GD (GD b7 (i*Enc.int.size) ((curu.drop 0).take (m.length*Enc.int.size))) ((i+m.length)*Enc.int.size) ((cur.drop (i*Enc.int.size)).take ((l.length - i)*Enc.int.size))).length=a2*Enc.int.size:=by rw [MP (by rw [List.length_take,List.length_drop,Nat.min_eq_left (by have h2:=((by rw [← Nat.add_mul];exact Nat.le_trans (Nat.mul_le_mul_right _ oM) hns):(i*Enc.int.size)+(l.length - i)*Enc.int.size≤cur.length);omega)];exact (by rw [a8,← Nat.add_mul];exact Nat.mul_le_mul_right _ oM))];exact a8
    have bg:=bg.keep c3 (BF c6)
    have bgu:=bgu.keep c3 (BF c7)
    have ms:=ms.trans f8
    have ks:=ks.step0 c3 (fun b hb=>by (simp only [List.mem_singleton] at hb;subst hb;(right;omega)))
    refine AH (AD (AI (AC kR (AA (AG (vS (some ⟨a0,0,none⟩) (l.length+m.length) a2) rfl (AA (AF (vS (some ⟨a0,0,none⟩) (l.length+m.length) a2) rfl (AH (AD (AQ (AR (AX rfl (CK rfl rfl rfl) (?_)))))))))))))
    exact ⟨_,(a0 :: B),rfl,fun b hb=>by cases hb;exact (by repeat (constructor)),fun b hb=>by cases hb;exact .inr c1,fun b hb=>List.mem_cons_of_mem _ hb,f7,ms,ks,EG.ins hrd b9 ms e5 e0 hi d5 oM e3 (tk_grow hcss hrd.lens hrd.1 hi hns hcssu hfm e4 (by rw [a5];exact Nat.mul_le_mul_right _ oM))⟩
  have h5:((l.length+m.length:Nat):Int)≤((c:Nat):Int):=by simpa using b1
  refine AW (AD (AI (AC kR (AA (AG (vS (some ⟨g,0,none⟩) l.length c) rfl (AA (AG (vI (l.length:Int)) rfl (AA (AG (vI (m.length:Int)) rfl (AA (DE .i64 (l.length:Int) (m.length:Int) (((l.length+m.length:Nat):Int)) rfl rfl (GR oM oM) (AA (VG (size:=Enc.int.size) U22_ NR g 0 l.length c (l.length+m.length) .i64 ((l.length+m.length:Nat):Int) rfl rfl rfl oM (AA (AF (vS (some ⟨g,0,none⟩) (l.length+m.length) c) rfl (AH (AD (AI (AI (AC kR (AA (AG (vS (some ⟨gu,0,none⟩) m.length cu) rfl (AA (AG (vS (some ⟨g,0,none⟩) (l.length+m.length) c) rfl (AA (AG (vI (i:Int)) rfl (AA (AG (vI (m.length:Int)) rfl (AA (DE .i64 (i:Int) (m.length:Int) (((i+m.length:Nat):Int)) rfl rfl (GR oM oM) (AA (IV (size:=Enc.int.size) U22_ NR g (l.length+m.length) c (i+m.length) .i64 ((i+m.length:Nat):Int) rfl rfl rfl oM oM oM (AA (o_overlaps (size:=Enc.int.size) ov_115 U22_ NR rfl bgu bg (Ne.symm hgg) (by rw [hcl];exact Nat.mul_pos oM (by decide)) (AA (GZ false rfl (AH (AD (AN true rfl rfl (fun _=>AI (cw_draw' 8 _ _ [DB (vS (some ⟨g,0,none⟩) (l.length+m.length) c),DB (vI (i:Int)),DB (vI (m.length:Int)),DB (vI ((i+m.length:Nat):Int)),DB (vS (some ⟨g,((i+m.length)*Enc.int.size),none⟩) ((l.length+m.length) - (i+m.length)) (c - (i+m.length))),DB (vS (some ⟨g,0,none⟩) (l.length+m.length) c),DB (vI (i:Int)),DB (vS (some ⟨g,(i*Enc.int.size),none⟩) ((l.length+m.length) - i) (c - i))] kR kR kR kR rfl rfl ⟨kI,kI,kI,kI,kI,kI,kI,kI,trivial⟩ ⟨?_,?_,?_,?_,?_,?_,?_,?_,trivial⟩ ?_)) (fun h=>by cases h))))))))))))))))))))))))))))))))))))))))
  · intro F1 w1 k1 hf hd
    have k0:=(Keep.drew [] w).trans k1
    have s1:=s0.call k0
    have m1:Mv B w B w1:=Mv.of_keep k0
    obtain ⟨F2,rfl⟩:=AM (F:=F1) [(0,vS (some ⟨g,0,none⟩) (l.length+m.length) c)] ⟨hf 0 kR,trivial⟩
    exact AK rfl ((AG (vS (some ⟨g,0,none⟩) (l.length+m.length) c) rfl (⟨(Keep.refl _ _),rfl⟩)))
  · intro F1 w1 k1 hf hd
    have k0:=(Keep.drew [] w).trans k1
    have s1:=s0.call k0
    have m1:Mv B w B w1:=Mv.of_keep k0
    obtain ⟨F2,rfl⟩:=AM (F:=F1) [(1,vI (i:Int))] ⟨hf 1 kR,trivial⟩
    exact AK rfl ((AG (vI (i:Int)) rfl (⟨(Keep.refl _ _),rfl⟩)))
  · intro F1 w1 k1 hf hd
    have k0:=(Keep.drew [] w).trans k1
    have s1:=s0.call k0
    have m1:Mv B w B w1:=Mv.of_keep k0
    obtain ⟨F2,rfl⟩:=AM (F:=F1) [(7,vI (m.length:Int))] ⟨hf 7 kR,trivial⟩
    exact AK rfl ((AG (vI (m.length:Int)) rfl (⟨(Keep.refl _ _),rfl⟩)))
  · intro F1 w1 k1 hf hd
    have k0:=(Keep.drew [] w).trans k1
    have s1:=s0.call k0
    have m1:Mv B w B w1:=Mv.of_keep k0
    obtain ⟨F2,rfl⟩:=AM (F:=F1) [(70,vI (i:Int)),(71,vI (m.length:Int))] ⟨hd 1 70 kR,hd 2 71 kR,trivial⟩
    exact AK rfl ((DE .i64 (i:Int) (m.length:Int) (((i+m.length:Nat):Int)) rfl rfl (GR oM oM) (⟨(Keep.refl _ _),rfl⟩)))
  · intro F1 w1 k1 hf hd
    have k0:=(Keep.drew [] w).trans k1
    have s1:=s0.call k0
    have m1:Mv B w B w1:=Mv.of_keep k0
    obtain ⟨F2,rfl⟩:=AM (F:=F1) [(69,vS (some ⟨g,0,none⟩) (l.length+m.length) c),(72,vI ((i+m.length:Nat):Int))] ⟨hd 0 69 kR,hd 3 72 kR,trivial⟩
    exact AK rfl ((IV (size:=Enc.int.size) U22_ NR g (l.length+m.length) c (i+m.length) .i64 ((i+m.length:Nat):Int) rfl rfl rfl oM oM oM (⟨(Keep.refl _ _),rfl⟩)))
  · intro F1 w1 k1 hf hd
    have k0:=(Keep.drew [] w).trans k1
    have s1:=s0.call k0
    have m1:Mv B w B w1:=Mv.of_keep k0
    obtain ⟨F2,rfl⟩:=AM (F:=F1) [(0,vS (some ⟨g,0,none⟩) (l.length+m.length) c)] ⟨hf 0 kR,trivial⟩
    exact AK rfl ((AG (vS (some ⟨g,0,none⟩) (l.length+m.length) c) rfl (⟨(Keep.refl _ _),rfl⟩)))
  · intro F1 w1 k1 hf hd
    have k0:=(Keep.drew [] w).trans k1
    have s1:=s0.call k0
    have m1:Mv B w B w1:=Mv.of_keep k0
    obtain ⟨F2,rfl⟩:=AM (F:=F1) [(1,vI (i:Int))] ⟨hf 1 kR,trivial⟩
    exact AK rfl ((AG (vI (i:Int)) rfl (⟨(Keep.refl _ _),rfl⟩)))
  · intro F1 w1 k1 hf hd
    have k0:=(Keep.drew [] w).trans k1
    have s1:=s0.call k0
    have m1:Mv B w B w1:=Mv.of_keep k0
    obtain ⟨F2,rfl⟩:=AM (F:=F1) [(74,vS (some ⟨g,0,none⟩) (l.length+m.length) c),(75,vI (i:Int))] ⟨hd 5 74 kR,hd 6 75 kR,trivial⟩
    exact AK rfl ((IV (size:=Enc.int.size) U22_ NR g (l.length+m.length) c i .i64 (i:Int) rfl rfl rfl oM oM oM (⟨(Keep.refl _ _),rfl⟩)))
  intro f9 g0 a7 b5 a4
  have g1:=s0.call a7
  have g2:Mv B w B g0:=Mv.of_keep a7
  have bg:=bg.keep a7 (by simp)
  have bgu:=bgu.keep a7 (by simp)
  have ms:=ms.trans g2
  have ks:=ks.step0 a7 (fun b hb=>by (simp at hb;done))
  obtain ⟨F2,rfl⟩:=AM (F:=f9) [(0,vS (some ⟨g,0,none⟩) (l.length+m.length) c),(1,vI (i:Int)),(2,vS (some ⟨gu,0,none⟩) m.length cu),(95,undef),(73,vS (some ⟨g,((i+m.length)*Enc.int.size),none⟩) ((l.length+m.length) - (i+m.length)) (c - (i+m.length))),(76,vS (some ⟨g,(i*Enc.int.size),none⟩) ((l.length+m.length) - i) (c - i))] ⟨a4 0 kR,a4 1 kR,a4 2 kR,a4 95 kR,b5 4 73 kR (by decide),b5 7 76 kR (by decide),trivial⟩
  clear b5 a4
  refine AA (OE (size:=Enc.int.size) (l.length - i) U22_ NR rfl rfl bg bg (by repeat (assumption)) (by simp only [Nat.min_def];split <;> omega) (by rw [hcl,← Nat.add_mul];exact Nat.mul_le_mul_right _ oM) (by rw [← Nat.add_mul];exact Nat.le_trans (Nat.mul_le_mul_right _ oM) hns) one1 g1 fun i0 g3 g4 d3 e6=>(?_))
  have a9:(GD cur ((i+m.length)*Enc.int.size) ((cur.drop (i*Enc.int.size)).take ((l.length - i)*Enc.int.size))).length=c*Enc.int.size:=by rw [MP (by rw [List.length_take,List.length_drop,Nat.min_eq_left (by have h2:=((by rw [← Nat.add_mul];exact Nat.le_trans (Nat.mul_le_mul_right _ oM) hns):(i*Enc.int.size)+(l.length - i)*Enc.int.size≤cur.length);omega)];exact (by rw [hcl,← Nat.add_mul];exact Nat.mul_le_mul_right _ oM))];exact hcl
  have bgu:=bgu.keep d3 (BF (Ne.symm hgg))
  have ms:=ms.trans g4
  have ks:=ks.step0 d3 (fun b hb=>by exact .inl hb)
  refine AH (AD (AI (AC kR (AA (AG (vS (some ⟨g,0,none⟩) (l.length+m.length) c) rfl (AA (AG (vI (i:Int)) rfl (AA (IV (size:=Enc.int.size) U22_ NR g (l.length+m.length) c i .i64 (i:Int) rfl rfl rfl oM oM oM (AA (AG (vS (some ⟨gu,0,none⟩) m.length cu) rfl (AA (OE (size:=Enc.int.size) m.length U22_ NR rfl rfl e6 bgu (by repeat (assumption)) (by simp only [Nat.min_def];split <;> omega) (by rw [a9,← Nat.add_mul];exact Nat.mul_le_mul_right _ oM) (by rw [Nat.zero_add];exact d2) one2 g3 fun i1 g5 g6 d4 e7=>(?_))))))))))))))
  have d6:(GD (GD cur ((i+m.length)*Enc.int.size) ((cur.drop (i*Enc.int.size)).take ((l.length - i)*Enc.int.size))) (i*Enc.int.size) ((curu.drop 0).take (m.length*Enc.int.size))).length=c*Enc.int.size:=by rw [MP (by rw [List.length_take,List.length_drop,Nat.min_eq_left (by have h2:=((by rw [Nat.zero_add];exact d2):0+m.length*Enc.int.size≤curu.length);omega)];exact (by rw [a9,← Nat.add_mul];exact Nat.mul_le_mul_right _ oM))];exact a9
  have bgu:=bgu.keep d4 (BF (Ne.symm hgg))
  have ms:=ms.trans g6
  have ks:=ks.step0 d4 (fun b hb=>by exact .inl hb)
  refine AH (AD (AI (AC kR (AA (AG (vS (some ⟨g,0,none⟩) (l.length+m.length) c) rfl (AA (AF (vS (some ⟨g,0,none⟩) (l.length+m.length) c) rfl (AH (AD (AQ (AR (AX rfl (CK rfl rfl rfl) (?_)))))))))))))
  exact ⟨_,B,rfl,fun b hb=>by cases hb;exact (by repeat (assumption)),fun b hb=>by cases hb;exact .inl rfl,fun b hb=>hb,g5,ms,ks,EG.ins hrd b9 ms e7 hgb hi d6 oM hcm (tk_shift hcss hrd.lens hrd.1 hi (by rw [hcl];exact Nat.mul_le_mul_right _ oM) hcssu hfm)⟩
open Go.Fw
def JX (l:List Int) (k:Nat):Int:=if k=0 then -1 else l[k - 1]!
def JV (l:List Int) (k:Nat):Bool:=decide (l[k]!≤JX l k) || decide (4096≤l[k]!)
def HU (l:List Int):Bool:=FH (fun k=>if JV l k then some false else none) true 0 (l.length - 0)
def CO (d f:Int):Bool:=decide (f≤d) && decide (d<1024)
def ED (r:Recovery):Bool:=
  if (decide (r.state<0) || decide (2<r.state)) || !HU r.approved then false
  else if r.state == 2 then ((r.vetoed.length:Int) == 1) && CO r.vetoed[0]! r.asked else (r.vetoed.length:Int) == 0
def EJ (l:List Recovery) (k:Nat):Int:=if k=0 then 0 else l[k - 1]!.asked
def ER (l:List Recovery) (k:Nat):Bool:=
  ((l[k]!.no != (k:Int) || !CO l[k]!.asked (EJ l k)) || !ED l[k]!) || (l[k]!.state == 0 && decide ((k:Int)<(l.length:Int) - 1))
def DD (c:Circle):Bool:=
  (((((((decide (c.epoch<0) || decide (1048576<c.epoch)) || decide ((c.guardians.length:Int)<1)) || decide (8<(c.guardians.length:Int))) || !HU c.guardians) || decide (c.threshold<1)) || decide ((c.guardians.length:Int)<c.threshold)) || !CO c.wait 0) || decide (1024<(c.recs.length:Int))
def AS (c:Circle):Int:=if DD c then 450 else FH (fun k=>if ER c.recs k then some 450 else none) 0 0 (c.recs.length - 0)
def DV:Circle:=⟨0,0,0,[],[]⟩
def LA (l:List Int) (t w:Int):Circle × Int:=if AS ⟨0,t,w,l,[]⟩ != 0 then (DV,AS ⟨0,t,w,l,[]⟩) else (⟨0,t,w,l,[]⟩,0)
def IU (c:Circle):Recovery:=if 0<c.recs.length then c.recs[c.recs.length - 1]! else ⟨0,0,1,[],[]⟩
def BS (c:Circle) (day:Int):Circle × Int × Int:=
  if AS c != 0 then (DV,0,AS c) else if !CO day (IU c).asked then (DV,0,1) else if (IU c).state == 0 then (DV,0,451) else if (c.recs.length:Int) == 1024 then (DV,0,2)
  else (⟨c.epoch,c.threshold,c.wait,c.guardians,c.recs++[⟨(c.recs.length:Int),day,0,[],[]⟩]⟩,(c.recs.length:Int),0)
def CH (c:Circle) (no:Int) (f:Recovery→Except Int Recovery):Circle × Int:=
  if AS c != 0 then (DV,AS c) else if no<0∨(c.recs.length:Int)≤no then (DV,1)
  else match f c.recs[no.toNat]! with | .error e=>(DV,e) | .ok r=>(⟨c.epoch,c.threshold,c.wait,c.guardians,c.recs.set no.toNat r⟩,0)
def idxI (l:List Int) (x:Int):Int:=FH (fun k=>if x == l[k]! then some (k:Int) else none) (-1) 0 (l.length - 0)
def tw (l:List Int) (x:Int):Nat:=(l.takeWhile (fun y=>decide (y<x))).length
def RY (l:List Int) (x:Int):Bool:=decide (tw l x<l.length) && (l[tw l x]! == x)
def PB (l:List Int) (x:Int):List Int:=l.take (tw l x)++[x]++l.drop (tw l x)
def HT (l g:List Int) (k:Nat):Nat:=((g.take k).filter (fun x=>l.contains x)).length
def LQ (c:Circle) (r:Recovery):Bool:=decide (c.threshold≤(HT r.approved c.guardians c.guardians.length:Int))
def BJ (c:Circle) (g:Int) (r:Recovery):Except Int Recovery:=
  if r.state == 2 then .error 452 else if r.state == 1 then .error 1 else if !(c.guardians.contains g) then .error 450 else if RY r.approved g then .ok r else .ok ⟨r.no,r.asked,r.state,PB r.approved g,r.vetoed⟩
def BZ (c:Circle) (day:Int) (r:Recovery):Except Int Recovery:=
  if r.state == 2 then .error 452 else if r.state == 1 then .error 1 else if !CO day 0 then .error 1 else if !LQ c r then .error 450 else if decide (day<r.asked+c.wait) then .error 451 else .ok ⟨r.no,r.asked,1,r.approved,r.vetoed⟩
theorem scan_if {β:Type} {p:Nat→Bool} {d r:β} (hne:r≠d):∀ {m i:Nat},FH (fun k=>if p k then some r else none) d i m=d↔∀ k,i≤k→k<i+m→p k=false
  | 0,i=>by simp [FH];intro k h1 h2;omega
  | m+1,i=>by
    unfold FH
    cases hp:p i with
    | true=>
      simp only [if_true]
      refine ⟨fun h=>absurd h hne,fun h=>?_⟩
      have:=h i (Nat.le_refl _) (by omega)
      rw [hp] at this;cases this
    | false=>
      simp only [Bool.false_eq_true,if_false]
      rw [scan_if hne]
      refine ⟨fun h k h1 h2=>?_,fun h k h1 h2=>h k (by omega) (by omega)⟩
      by_cases hk:k=i
      · subst hk;exact hp
      · exact h k (by omega) (by omega)
theorem SH (l:List Int):HU l=true↔∀ k,k<l.length→JV l k=false:=by
  unfold HU
  rw [scan_if (by simp)]
  exact ⟨fun h k hk=>h k (by omega) (by omega),fun h k _ hk=>h k (by omega)⟩
theorem QT {l:List Int} {k:Nat}:JV l k=false↔JX l k<l[k]!∧l[k]! < 4096:=by
  simp [JV]
theorem MR {l:List Int} (h:HU l=true):∀ p q,p<q→q<l.length→l[p]! < l[q]!:=by
  intro p q hpq hq
  induction q with
  | zero=>omega
  | succ q ih=>
    have h1:=(QT.1 ((SH l).1 h (q+1) hq)).1
    simp only [JX,Nat.add_one_ne_zero,if_false,Nat.add_sub_cancel] at h1
    by_cases hp:p=q
    · subst hp;exact h1
    · have:=ih (by omega) (by omega);omega
theorem QZ {l:List Int} (h:HU l=true):∀ q,q<l.length→0≤l[q]!∧l[q]! < 4096:=by
  intro q hq
  have h2:=(QT.1 ((SH l).1 h q hq))
  refine ⟨?_,h2.2⟩
  have h0:=(QT.1 ((SH l).1 h 0 (by omega))).1
  simp only [JX,if_true] at h0
  by_cases hq0:q=0
  · subst hq0;omega
  · have:=MR h 0 q (by omega) hq;omega
theorem inc_ge {l:List Int} (h:HU l=true):∀ q,q<l.length→(q:Int)≤l[q]!:=by
  intro q hq
  induction q with
  | zero=>exact (QZ h 0 hq).1
  | succ q ih=>have:=ih (by omega);have:=MR h q (q+1) (by omega) hq;omega
theorem MX {l:List Int} (h:HU l=true):l.length≤4096:=by
  by_cases h0:l.length=0
  · omega
  · have h1:=inc_ge h (l.length - 1) (by omega)
    have h2:=(QZ h (l.length - 1) (by omega)).2
    omega
theorem FT (c:Circle):AS c=0↔DD c=false∧∀ k,k<c.recs.length→ER c.recs k=false:=by
  unfold AS
  cases hh:DD c with
  | true=>simp
  | false=>
    simp only [Bool.false_eq_true,if_false,true_and]
    rw [scan_if (by decide)]
    exact ⟨fun h k hk=>h k (by omega) (by omega),fun h k _ hk=>h k (by omega)⟩
theorem EQ {r:Recovery} (h:ED r=true):0≤r.state∧r.state≤2∧HU r.approved=true:=by
  unfold ED at h
  split at h
  · cases h
  · rename_i hh
    have hh':((decide (r.state<0) || decide (2<r.state)) || !HU r.approved)=false:=by simpa using hh
    simp only [dbs] at hh'
    exact ⟨by omega,by omega,by simpa using hh'.2⟩
theorem KV {c:Circle} (h:AS c=0) {k:Nat} (hk:k<c.recs.length):ED c.recs[k]! = true:=by
  have:=((FT c).1 h).2 k hk
  simp only [ER,dbs] at this
  exact this.1.2
theorem LK {c:Circle} (h:AS c=0) {no:Int} (h1:0≤no) (h2:no<c.recs.length):c.recs[no.toNat]!.state=0∨c.recs[no.toNat]!.state=1∨c.recs[no.toNat]!.state=2:=by
  have:=EQ (KV h (k:=no.toNat) (by omega))
  omega
theorem SA {c:Circle} (h:AS c=0) {no:Int} (h1:0≤no) (h2:no<c.recs.length):∀ p q,p<q→q<c.recs[no.toNat]!.approved.length→c.recs[no.toNat]!.approved[p]! < c.recs[no.toNat]!.approved[q]!:=
  MR (EQ (KV h (k:=no.toNat) (by omega))).2.2
theorem tw_le (l:List Int) (x:Int):tw l x≤l.length:=by
  unfold tw
  exact (List.takeWhile_sublist _).length_le
theorem tw_eq {x:Int}:∀ {l:List Int} {k:Nat},k≤l.length→(∀ q,q<k→l[q]! < x)→(k<l.length→x≤l[k]!)→tw l x=k
  | [],k,hk,_,_=>by simp at hk;subst hk;rfl
  | a :: l,0,_,_,h2=>by
    have:=h2 (by simp)
    simp at this
    have hn:¬ (a<x):=by omega
    simp [tw,hn]
  | a :: l,k+1,hk,h1,h2=>by
    have h0:=h1 0 (by omega)
    simp at h0
    have ih:=tw_eq (x:=x) (l:=l) (k:=k) (by simpa using hk) (fun q hq=>by have:=h1 (q+1) (by omega);simpa using this) (fun hk2=>by have:=h2 (by simpa using hk2);simpa using this)
    unfold tw at ih ⊢
    simp [h0,ih]
theorem bsF_1 {l:List Int} {x:Int} {k:Nat} (ht:tw l x=k) (h:(l.length:Int)≤k):RY l x=false:=by
  have:¬ (k<l.length):=by omega
  simp [RY,ht,this]
theorem bsF_2 {l:List Int} {x:Int} {k:Nat} (ht:tw l x=k) (h:l[k]!≠x):RY l x=false:=by
  unfold RY;rw [ht]
  have:(l[k]! == x)=false:=by simpa using h
  rw [this,Bool.and_false]
theorem bsF_t {l:List Int} {x:Int} {k:Nat} (ht:tw l x=k) (h:(k:Int)<l.length) (he:l[k]! = x):RY l x=true:=by
  unfold RY;rw [ht]
  have:(l[k]! == x)=true:=by simpa using he
  rw [this,Bool.and_true];simpa using h
theorem bs_lo {l:List Int} {x:Int} {h:Nat} (hs:∀ p q,p<q→q<l.length→l[p]! < l[q]!) (h1:l[h]! < x) (hh:h<l.length):∀ q,q<h+1→l[q]! < x:=by
  intro q hq
  by_cases hqh:q=h
  · subst hqh;exact h1
  · have:=hs q h (by omega) hh;omega
theorem bs_hi {l:List Int} {x:Int} {h:Nat} (hs:∀ p q,p<q→q<l.length→l[p]! < l[q]!) (h1:x≤l[h]!):∀ q,h≤q→q<l.length→x≤l[q]!:=by
  intro q hq hql
  by_cases hqh:q=h
  · subst hqh;exact h1
  · have:=hs h q (by omega) hql;omega
theorem idxI_pos (l:List Int) (x:Int):decide ((0:Int)≤idxI l x)=l.contains x:=by
  have key:∀ (m i:Nat),m+i=l.length→decide ((0:Int)≤FH (fun k=>if x == l[k]! then some (k:Int) else none) (-1) i m)=(l.drop i).contains x:=by
    intro m
    induction m with
    | zero=>intro i hi;rw [List.drop_eq_nil_of_le (by omega)];rfl
    | succ m ih=>
      intro i hi
      unfold FH
      have hil:i<l.length:=by omega
      have hd:l.drop i=l[i]! :: l.drop (i+1):=by rw [getElem!_pos l i hil];exact List.drop_eq_getElem_cons hil
      rw [hd,List.contains_cons]
      cases hx:(x == l[i]!) with
      | true=>simp
      | false=>simp only [Bool.false_eq_true,if_false,Bool.false_or];exact ih (i+1) (by omega)
  have:=key l.length 0 (by omega)
  rw [List.drop_zero] at this
  exact this
theorem RX {l g:List Int} {k:Nat} (h:k<g.length):HT l g (k+1)=HT l g k+(if l.contains g[k]! then 1 else 0):=by
  unfold HT
  rw [List.take_add_one,List.getElem?_eq_getElem h,getElem!_pos g k h]
  simp only [Option.toList_some,List.filter_append,List.length_append]
  by_cases hc:g[k]∈l <;> simp [List.filter,hc]
theorem countM_le (l g:List Int) (k:Nat):HT l g k≤k:=by
  unfold HT
  exact Nat.le_trans (List.length_filter_le _ _) (List.length_take_le _ _)
theorem SF {c:Circle} (h:AS c=0):c.recs.length≤1024:=by
  have:=((FT c).1 h).1
  simp only [DD,dbs] at this
  omega
theorem QC {l:List Int} {t w:Int} (h:AS ⟨0,t,w,l,[]⟩≠0):LA l t w=(DV,AS ⟨0,t,w,l,[]⟩):=by
  unfold LA;rw [if_pos (by simpa using h)]
theorem SD {l:List Int} {t w:Int} (h:AS ⟨0,t,w,l,[]⟩ = 0):LA l t w=(⟨0,t,w,l,[]⟩,0):=by
  unfold LA;rw [if_neg (by simp [h])]
theorem QI {c:Circle} {day:Int} (h:AS c≠0):BS c day=(DV,0,AS c):=by
  unfold BS;rw [if_pos (by simpa using h)]
theorem KN {c:Circle} {day:Int} (h:AS c=0) (h1:CO day (IU c).asked=false):BS c day=(DV,0,1):=by
  unfold BS;rw [if_neg (by simp [h]),if_pos (by simp [h1])]
theorem OP {c:Circle} {day:Int} (h:AS c=0) (h1:CO day (IU c).asked=true) (h2:(IU c).state=0):BS c day=(DV,0,451):=by
  unfold BS;rw [if_neg (by simp [h]),if_neg (by simp [h1]),if_pos (by simp [h2])]
theorem JD {c:Circle} {day:Int} (h:AS c=0) (h1:CO day (IU c).asked=true) (h2:(IU c).state≠0) (h3:(c.recs.length:Int)=1024):BS c day=(DV,0,2):=by
  unfold BS;rw [if_neg (by simp [h]),if_neg (by simp [h1]),if_neg (by simpa using h2),if_pos (by simpa using h3)]
theorem HD {c:Circle} {day:Int} (h:AS c=0) (h1:CO day (IU c).asked=true) (h2:(IU c).state≠0) (h3:(c.recs.length:Int)≠1024) :
    BS c day=(⟨c.epoch,c.threshold,c.wait,c.guardians,c.recs++[⟨(c.recs.length:Int),day,0,[],[]⟩]⟩,(c.recs.length:Int),0):=by
  unfold BS;rw [if_neg (by simp [h]),if_neg (by simp [h1]),if_neg (by simpa using h2),if_neg (by simpa using h3)]
theorem gAct_bad {c:Circle} {no:Int} {f:Recovery→Except Int Recovery} (h:AS c≠0):CH c no f=(DV,AS c):=by
  unfold CH;rw [if_pos (by simpa using h)]
theorem gAct_no {c:Circle} {no:Int} {f:Recovery→Except Int Recovery} (h:AS c=0) (hn:no<0∨(c.recs.length:Int)≤no):CH c no f=(DV,1):=by
  unfold CH;rw [if_neg (by simp [h]),if_pos hn]
theorem JJ {c:Circle} {no:Int} {f:Recovery→Except Int Recovery} {e:Int} (h:AS c=0) (h1:0≤no) (h2:no<c.recs.length) (hf:f c.recs[no.toNat]! = .error e):CH c no f=(DV,e):=by
  unfold CH;rw [if_neg (by simp [h]),if_neg (by omega),hf]
theorem gAct_ok {c:Circle} {no:Int} {f:Recovery→Except Int Recovery} {r:Recovery} (h:AS c=0) (h1:0≤no) (h2:no<c.recs.length) (hf:f c.recs[no.toNat]! = .ok r):CH c no f=(⟨c.epoch,c.threshold,c.wait,c.guardians,c.recs.set no.toNat r⟩,0):=by
  unfold CH;rw [if_neg (by simp [h]),if_neg (by omega),hf]
theorem fin_bad {c:Circle} {no:Int} {day:Int} (h:AS c≠0):CH c no (BZ c day)=(DV,AS c):=gAct_bad h
theorem fin_no {c:Circle} {no:Int} {day:Int} (h:AS c=0) (hn:no<0∨(c.recs.length:Int)≤no):CH c no (BZ c day)=(DV,1):=gAct_no h hn
theorem app_bad {c:Circle} {no:Int} {g:Int} (h:AS c≠0):CH c no (BJ c g)=(DV,AS c):=gAct_bad h
theorem app_no {c:Circle} {no:Int} {g:Int} (h:AS c=0) (hn:no<0∨(c.recs.length:Int)≤no):CH c no (BJ c g)=(DV,1):=gAct_no h hn
theorem fin_dead {c:Circle} {no day:Int} (hok:AS c=0) (h1:0≤no) (h2:no<c.recs.length) (hs:c.recs[no.toNat]!.state=2):CH c no (BZ c day)=(DV,452):=
  JJ hok h1 h2 (by revert hs;generalize c.recs[no.toNat]! = r;intro hs;simp [BZ,hs])
theorem fin_done {c:Circle} {no day:Int} (hok:AS c=0) (h1:0≤no) (h2:no<c.recs.length) (hs:c.recs[no.toNat]!.state=1):CH c no (BZ c day)=(DV,1):=
  JJ hok h1 h2 (by revert hs;generalize c.recs[no.toNat]! = r;intro hs;simp [BZ,hs])
theorem fin_day {c:Circle} {no day:Int} (hok:AS c=0) (h1:0≤no) (h2:no<c.recs.length) (hs:c.recs[no.toNat]!.state=0) (hd:CO day 0=false):CH c no (BZ c day)=(DV,1):=
  JJ hok h1 h2 (by revert hs hd;generalize c.recs[no.toNat]! = r;intro hs hd;simp [BZ,hs,hd])
theorem fin_few {c:Circle} {no day:Int} (hok:AS c=0) (h1:0≤no) (h2:no<c.recs.length) (hs:c.recs[no.toNat]!.state=0) (hd:CO day 0=true) (ha:LQ c c.recs[no.toNat]! = false):CH c no (BZ c day)=(DV,450):=
  JJ hok h1 h2 (by revert hs hd ha;generalize c.recs[no.toNat]! = r;intro hs hd ha;simp [BZ,hs,hd,ha])
theorem fin_wait {c:Circle} {no day:Int} (hok:AS c=0) (h1:0≤no) (h2:no<c.recs.length) (hs:c.recs[no.toNat]!.state=0) (hd:CO day 0=true) (ha:LQ c c.recs[no.toNat]! = true) (hw:day<c.recs[no.toNat]!.asked+c.wait):CH c no (BZ c day)=(DV,451):=
  JJ hok h1 h2 (by revert hs hd ha hw;generalize c.recs[no.toNat]! = r;intro hs hd ha hw;simp [BZ,hs,hd,ha];omega)
theorem fin_open {c:Circle} {no day:Int} (hok:AS c=0) (h1:0≤no) (h2:no<c.recs.length) (hs:c.recs[no.toNat]!.state=0) (hd:CO day 0=true) (ha:LQ c c.recs[no.toNat]! = true) (hw:c.recs[no.toNat]!.asked+c.wait≤day):CH c no (BZ c day)=(⟨c.epoch,c.threshold,c.wait,c.guardians,c.recs.set no.toNat ⟨c.recs[no.toNat]!.no,c.recs[no.toNat]!.asked,1,c.recs[no.toNat]!.approved,c.recs[no.toNat]!.vetoed⟩⟩,0):=
  gAct_ok hok h1 h2 (by revert hs hd ha hw;generalize c.recs[no.toNat]! = r;intro hs hd ha hw;simp [BZ,hs,hd,ha];omega)
theorem app_dead {c:Circle} {no g:Int} (hok:AS c=0) (h1:0≤no) (h2:no<c.recs.length) (hs:c.recs[no.toNat]!.state=2):CH c no (BJ c g)=(DV,452):=
  JJ hok h1 h2 (by revert hs;generalize c.recs[no.toNat]! = r;intro hs;simp [BJ,hs])
theorem app_done {c:Circle} {no g:Int} (hok:AS c=0) (h1:0≤no) (h2:no<c.recs.length) (hs:c.recs[no.toNat]!.state=1):CH c no (BJ c g)=(DV,1):=
  JJ hok h1 h2 (by revert hs;generalize c.recs[no.toNat]! = r;intro hs;simp [BJ,hs])
theorem app_not {c:Circle} {no g:Int} (hok:AS c=0) (h1:0≤no) (h2:no<c.recs.length) (hs:c.recs[no.toNat]!.state=0) (hg:c.guardians.contains g=false):CH c no (BJ c g)=(DV,450):=
  JJ hok h1 h2 (by revert hs hg;generalize c.recs[no.toNat]! = r;intro hs hg;simp only [BJ,hs,hg];simp [hs,hg])
theorem app_had {c:Circle} {no g:Int} (hok:AS c=0) (h1:0≤no) (h2:no<c.recs.length) (hs:c.recs[no.toNat]!.state=0) (hg:c.guardians.contains g=true) (hb:RY c.recs[no.toNat]!.approved g=true):CH c no (BJ c g)=(⟨c.epoch,c.threshold,c.wait,c.guardians,c.recs.set no.toNat c.recs[no.toNat]!⟩,0):=
  gAct_ok hok h1 h2 (by revert hs hg hb;generalize c.recs[no.toNat]! = r;intro hs hg hb;simp only [BJ,hs,hg,hb];simp [hs,hg,hb])
theorem SI {c:Circle} {no g:Int} (hok:AS c=0) (h1:0≤no) (h2:no<c.recs.length) (hs:c.recs[no.toNat]!.state=0) (hg:c.guardians.contains g=true) (hb:RY c.recs[no.toNat]!.approved g=false):CH c no (BJ c g)=(⟨c.epoch,c.threshold,c.wait,c.guardians,c.recs.set no.toNat ⟨c.recs[no.toNat]!.no,c.recs[no.toNat]!.asked,c.recs[no.toNat]!.state,PB c.recs[no.toNat]!.approved g,c.recs[no.toNat]!.vetoed⟩⟩,0):=
  gAct_ok hok h1 h2 (by revert hs hg hb;generalize c.recs[no.toNat]! = r;intro hs hg hb;simp only [BJ,hs,hg,hb];simp [hs,hg,hb])
theorem KP {l:List Recovery} {k:Nat}:ER l k=false↔l[k]!.no=(k:Int)∧CO l[k]!.asked (EJ l k)=true∧ED l[k]! = true∧(l[k]!.state≠0∨(l.length:Int) - 1≤(k:Int)):=by
  simp only [ER,dbs]
  constructor
  · rintro ⟨⟨⟨h1,h2⟩,h3⟩,h4⟩;exact ⟨by omega,by simpa using h2,by simpa using h3,by omega⟩
  · rintro ⟨h1,h2,h3,h4⟩;exact ⟨⟨⟨by omega,by simpa using h2⟩,by simpa using h3⟩,by omega⟩
theorem KF {d f:Int}:CO d f=true↔f≤d∧d<1024:=by simp [CO]
theorem asked_ge {l:List Recovery} {n:Nat} (h:∀ k,k<n→ER l k=false):∀ k,k<n→0≤l[k]!.asked:=by
  intro k hk
  induction k with
  | zero=>
    have:=(KF.1 (KP.1 (h 0 hk)).2.1).1
    simpa [EJ] using this
  | succ k ih=>
    have h1:=(KF.1 (KP.1 (h (k+1) hk)).2.1).1
    simp only [EJ,Nat.add_one_ne_zero,if_false,Nat.add_sub_cancel] at h1
    have:=ih (by omega)
    omega
theorem TA {c:Circle} (h:AS c=0) {no:Int} (h1:0≤no) (h2:no<c.recs.length):0≤c.recs[no.toNat]!.asked∧c.recs[no.toNat]!.asked<1024∧0≤c.wait∧c.wait<1024:=by
  have hh:=(FT c).1 h
  have ha:=asked_ge hh.2 no.toNat (by omega)
  have hd:=(KF.1 (KP.1 (hh.2 no.toNat (by omega))).2.1).2
  have hw:=hh.1
  simp only [DD,dbs] at hw
  have:=KF.1 (show CO c.wait 0=true by simpa using hw.1.2)
  omega
section
variable {l:List Int} {k:Nat}
end
open Go.Fw Go.RowKit
set_option maxHeartbeats 4000000 in
set_option maxRecDepth 100000 in
theorem c_isNaN {O:List Nat} (x:Int) (w:World) (hO:∀ b∈O,b<w.heap.size):CD Try.prog 119 [vI x] w (fun v _=>v = .bool (false)):= by
 have s0:St w O w []:=St.start hO
 refine BK 6 Try.func119 rfl rfl oT (fun F0=>AI (AC kR (AA (AF (vO false) rfl (AH (AD (AI (AC kR (AA (AG (vI x) rfl (AA (AG (vI x) rfl (AA (CS .i64 x x rfl rfl (AA (AF (vO (x != x)) rfl (AH (AD (AQ (AX rfl (CK rfl rfl rfl) (?_)))))))))))))))))))))
 have e:false=(x != x):=by simp
 exact ⟨_,rfl,s0.keep,(by exact congrArg vO e.symm)⟩
set_option maxHeartbeats 4000000 in
set_option maxRecDepth 100000 in
theorem c_isNaN2 {O:List Nat} (x:Int) (w:World) (hO:∀ b∈O,b<w.heap.size):CD Try.prog 114 [vI x] w (fun v _=>v = .bool (false)):= by
 have s0:St w O w []:=St.start hO
 refine BK 6 Try.func114 rfl rfl oT (fun F0=>AI (AC kR (AA (AF (vO false) rfl (AH (AD (AI (AC kR (AA (AG (vI x) rfl (AA (AG (vI x) rfl (AA (CS .i64 x x rfl rfl (AA (AF (vO (x != x)) rfl (AH (AD (AQ (AX rfl (CK rfl rfl rfl) (?_)))))))))))))))))))))
 have e:false=(x != x):=by simp
 exact ⟨_,rfl,s0.keep,(by exact congrArg vO e.symm)⟩
set_option maxHeartbeats 4000000 in
set_option maxRecDepth 100000 in
theorem c_less {O:List Nat} (x:Int) (y:Int) (w:World) (hO:∀ b∈O,b<w.heap.size):CD Try.prog 113 [vI x,vI y] w (fun v _=>v = .bool (decide (x<y))):= by
 have s0:St w O w []:=St.start hO
 refine BK 17 Try.func113 rfl rfl oT (fun F0=>AI (AC kR (AA (AF (vO false) rfl (AH (AD (AI (AC kR (AA (AG (vI x) rfl (AA (BD (vs:=[vI x]) enter_119 (c_isNaN (O:=[]++O) x w s0.lt) rfl s0 fun a2 a3 a0 a4 a5 a1=>(?_)))))))))))))
 obtain rfl:=a1
 refine AA (AG (vO false) rfl (AO rfl (AO rfl (AO rfl (AA (BR (vO false) rfl rfl (AA (AG (vO false) rfl (AY rfl (AG (vI x) rfl (AY rfl (AG (vI y) rfl (AY rfl (DY .i64 x y rfl rfl (AA (BR (vO (decide (x<y))) rfl rfl (AA (AF (vO (decide (x<y))) rfl (AH (AD (AQ (AX rfl (CK rfl rfl rfl) (?_)))))))))))))))))))))))
 exact ⟨_,rfl,a0.keep,rfl⟩
set_option maxHeartbeats 4000000 in
set_option maxRecDepth 100000 in
theorem c_bs {O:List Nat} (l_v:Value) (l:List Int) (x:Int) (w:World) (a0:AZ Enc.int w O l_v l) (hpre0:∀ p q,p<q→q<l.length→l[p]! < l[q]!) (hpre1:l.length≤4611686018427387903) (hO:∀ b∈O,b<w.heap.size):CD Try.prog 105 [l_v,vI x] w (fun v _=>v = .tuple #[vI ((tw l x:Nat):Int), .bool (RY l x)]):= by
 have d0:=a0.len_le
 have a0:AZ Enc.int w ([]++O) l_v l:=a0
 have s0:St w O w []:=St.start hO
 refine BK 54 Try.func105 rfl rfl oT (fun F0=>AI (AC kR (AA (AF (vI 0) rfl (AA (AF (vO false) rfl (AH (AD (AI (AC kR (AA (AG (l_v) rfl (AA (CB U22_ rfl a0 (AA (AF (vI (l.length:Int)) rfl (AH (AD (AI (AC kR (AA (AG (vI (l.length:Int)) rfl (AA (AF (vI 0) rfl (AA (AF (vI (l.length:Int)) rfl (AH (AD (AI (BO (DJ (fun mI FI wI=>∃ (lo:Nat) (hi:Nat) (B:List Nat),lo≤hi∧hi≤l.length∧(∀ q,q<lo→l[q]! < x)∧(∀ q,hi≤q→q<l.length→x≤l[q]!)∧mI=hi - lo∧(∃ F1,FI=GO F1 [(0,l_v),(1,vI x),(6,vI (l.length:Int)),(7,vI ((lo:Nat):Int)),(8,vI ((hi:Nat):Int)),(54,undef)])∧St w O wI B∧AZ Enc.int wI (B++O) (l_v) (l)) ((l.length) - (0)) ?_ ?_)))))))))))))))))))))))))))))))
 ·exact ⟨(0),(l.length),[],oM,oM,(fun q hq=>by omega),(fun q h1 h2=>by omega),rfl,⟨_,BB _ ⟨rfl,rfl,rfl,(by rfl),(by rfl),rfl,trivial⟩⟩,s0,a0⟩
 intro e1 F c1 hI
 clear a0
 obtain ⟨lo,hi,a6,hr0_0,hr0_1,hr0_2,hr0_3,e2,⟨e3,rfl⟩,a3,a0⟩:=hI
 refine AI (AI (AC kR (AA (AG (vI ((lo:Nat):Int)) rfl (AA (AG (vI ((hi:Nat):Int)) rfl (AA (DY .i64 ((lo:Nat):Int) ((hi:Nat):Int) rfl rfl (AH (AD (AN (decide (((lo:Nat):Int)<((hi:Nat):Int))) rfl rfl (fun a1=>?_) (fun a1=>?_))))))))))))
 ·have c2:((lo:Nat):Int)<((hi:Nat):Int):=by simpa using a1
  refine AW (AD (BO (AI (AC kR (AA (AG (vI ((lo:Nat):Int)) rfl (AA (AG (vI ((hi:Nat):Int)) rfl (AA (DE .i64 ((lo:Nat):Int) ((hi:Nat):Int) (((lo+hi:Nat):Int)) rfl rfl (GR oM oM) (AA (o_conv .i64 .u64 U3_ U135_ ((lo+hi:Nat):Int) (((lo+hi):Nat):Int) rfl (wrap_u64 oM) (AA (o_shrU .u64 (lo+hi) 1 oM rfl rfl (AA (o_conv .u64 .i64 U135_ U3_ (((lo+hi) / 2 ^ 1:Nat):Int) ((((lo+hi) / 2 ^ 1):Nat):Int) rfl (GR oM rfl) (AA (AF (vI (((lo+hi) / 2 ^ 1:Nat):Int)) rfl (AH (AD (AI (AC kR (AA (AG (l_v) rfl (AA (AG (vI (((lo+hi) / 2 ^ 1:Nat):Int)) rfl (AA (DF U22_ NR .i64 (((lo+hi) / 2 ^ 1:Nat):Int) ((lo+hi) / 2 ^ 1) rfl rfl rfl a0 oM fun d1 a8=>(AA (CA U3_ rfl rfl a8 (AA (AG (vI x) rfl (AA (BD (vs:=[vI (l[(lo+hi) / 2 ^ 1]!),vI x]) enter_113 (c_less (O:=a6++O) (l[(lo+hi) / 2 ^ 1]!) x c1 a3.lt) rfl a3 fun d2 d3 a7 b1 d4 b2=>(?_)))))))))))))))))))))))))))))))))))
  obtain rfl:=b2
  have a0:=a0.mv b1
  refine AH (AD (AN (decide (l[(lo+hi) / 2 ^ 1]! < x)) rfl rfl (fun a2=>?_) (fun a2=>?_)))
  ·have c3:l[(lo+hi) / 2 ^ 1]! < x:=by simpa using a2
   refine AC kR (AA (AG (vI (((lo+hi) / 2 ^ 1:Nat):Int)) rfl (AA (DE .i64 (((lo+hi) / 2 ^ 1:Nat):Int) (1:Int) ((((lo+hi) / 2 ^ 1+1:Nat):Int)) rfl rfl (GR oM oM) (AA (AF (vI (((lo+hi) / 2 ^ 1+1:Nat):Int)) rfl (AH (CI (AD (?_))))))))))
   exact ⟨_,oM,((lo+hi) / 2 ^ 1+1),(hi),a6,oM,oM,(by exact bs_lo hpre0 aS oM),(by exact hr0_3),rfl,⟨_,BB _ ⟨rfl,rfl,rfl,(by rfl),(by rfl),rfl,trivial⟩⟩,a7,a0⟩
  have c4:x≤l[(lo+hi) / 2 ^ 1]!:=by simpa using a2
  refine AC kR (AA (AG (vI (((lo+hi) / 2 ^ 1:Nat):Int)) rfl (AA (AF (vI (((lo+hi) / 2 ^ 1:Nat):Int)) rfl (AH (CI (AD (?_))))))))
  exact ⟨_,oM,(lo),((lo+hi) / 2 ^ 1),a6,oM,oM,(by exact hr0_2),(by exact bs_hi hpre0 aS),rfl,⟨_,BB _ ⟨rfl,rfl,rfl,(by rfl),(by rfl),rfl,trivial⟩⟩,a7,a0⟩
 have c5:((hi:Nat):Int)≤((lo:Nat):Int):=by simpa using a1
 obtain rfl:lo=hi:=by omega
 have htw:tw l x=lo:=tw_eq oM hr0_2 (fun h=>hr0_3 lo oM h)
 refine DI (CF (CF (CY (AD (AI (AC kR (AA (AG (vI ((lo:Nat):Int)) rfl (AA (AG (vI ((lo:Nat):Int)) rfl (AA (AG (vI (l.length:Int)) rfl (AA (DY .i64 ((lo:Nat):Int) (l.length:Int) rfl rfl (AA (AG (vO (decide (((lo:Nat):Int)<(l.length:Int)))) rfl (?_)))))))))))))))))
 cases a4:(decide (((lo:Nat):Int)<(l.length:Int)))
 ·have c6:(l.length:Int)≤((lo:Nat):Int):=by simpa using a4
  refine AO rfl (AO rfl (AO rfl (AO rfl (AO rfl (AO rfl (AO rfl (IN rfl (IN rfl (IN rfl (IN rfl (IN rfl (IN rfl (IN rfl (IN rfl (IN rfl (AO rfl (AA (BR (vO false) rfl rfl (AA (AF (vI ((lo:Nat):Int)) rfl (AA (AF (vO false) rfl (AH (AD (AQ (AX rfl (FG rfl rfl rfl rfl) (?_)))))))))))))))))))))))))))
  have b3:(tw l x)=lo:=by exact htw
  have b4:(RY l x)=false:=by exact bsF_1 htw oM
  exact ⟨_,rfl,a3.keep,by rw [b3,b4];exact rfl⟩
 have c7:((lo:Nat):Int)<(l.length:Int):=by simpa using a4
 refine AY rfl (AG (l_v) rfl (AY rfl (AG (vI ((lo:Nat):Int)) rfl (AY rfl (DF U22_ NR .i64 ((lo:Nat):Int) lo rfl rfl rfl a0 oM fun d5 a9=>(AY rfl (CA U3_ rfl rfl a9 (AY rfl (AG (vI x) rfl (AY rfl (EV .i64 (l[lo]!) x rfl rfl (AY rfl (AG (vO ((l[lo]!) == x)) rfl (?_))))))))))))))
 cases a5:((l[lo]!) == x)
 ·have c8:l[lo]!≠x:=by simpa using a5
  refine AY rfl (AG (l_v) rfl (AY rfl (AG (vI ((lo:Nat):Int)) rfl (AY rfl (DF U22_ NR .i64 ((lo:Nat):Int) lo rfl rfl rfl a0 oM fun d6 b0=>(AY rfl (CA U3_ rfl rfl b0 (AY rfl (BD (vs:=[vI (l[lo]!)]) enter_114 (c_isNaN2 (O:=a6++O) (l[lo]!) c1 a3.lt) rfl a3 fun d7 d8 b5 d9 e0 b6=>(?_))))))))))
  obtain rfl:=b6
  refine AY rfl (AG (vO false) rfl (AO rfl (AO rfl (AY rfl (BR (vO false) rfl rfl (AY rfl (BR (vO false) rfl rfl (AA (BA (vO false) rfl rfl (AA (AF (vI ((lo:Nat):Int)) rfl (AA (AF (vO false) rfl (AH (AD (AQ (AX rfl (FG rfl rfl rfl rfl) (?_))))))))))))))))))
  have b7:(tw l x)=lo:=by exact htw
  have b8:(RY l x)=false:=by exact bsF_2 htw aS
  exact ⟨_,rfl,b5.keep,by rw [b7,b8];exact rfl⟩
 have c9:l[lo]! = x:=by simpa using a5
 refine AO rfl (AO rfl (AO rfl (AO rfl (AO rfl (AO rfl (IN rfl (IN rfl (AO rfl (AY rfl (BA (vO true) rfl rfl (AA (BA (vO true) rfl rfl (AA (AF (vI ((lo:Nat):Int)) rfl (AA (AF (vO true) rfl (AH (AD (AQ (AX rfl (FG rfl rfl rfl rfl) (?_)))))))))))))))))))))
 have b9:(tw l x)=lo:=by exact htw
 have c0:(RY l x)=true:=by exact bsF_t htw oM aS
 exact ⟨_,rfl,a3.keep,by rw [b9,c0];exact rfl⟩
set_option maxHeartbeats 4000000 in
set_option maxRecDepth 100000 in
theorem c_idx {O:List Nat} (l_v:Value) (l:List Int) (x:Int) (w:World) (a2:AZ Enc.int w O l_v l) (hO:∀ b∈O,b<w.heap.size):CD Try.prog 104 [l_v,vI x] w (fun v _=>v=vI (idxI l x)):= by
 have a8:=a2.len_le
 have a2:AZ Enc.int w ([]++O) l_v l:=a2
 have s0:St w O w []:=St.start hO
 refine BK 19 Try.func104 rfl rfl oT (fun F0=>AI (AC kR (AA (AF (vI 0) rfl (AH (AD (AI (AI (AC kR (AA (AG (l_v) rfl (AA (CB U22_ rfl a2 (AA (AG (vI 0) rfl (AH (AD (BO (DJ (fun mI FI wI=>∃ (k:Nat),k≤l.length∧idxI l x=FH (fun k=>if x == l[k]! then some (k:Int) else none) (-1) k (l.length - k)∧mI=l.length - k∧(∃ F1,FI=GO F1 [(0,l_v),(1,vI x),(7,vI (l.length:Int)),(8,vI ((k:Nat):Int)),(19,undef)])∧w=wI) (l.length - (0)) ?_ ?_)))))))))))))))))))
 ·exact ⟨(0),oM,rfl,rfl,⟨_,BB _ ⟨rfl,rfl,rfl,(by rfl),rfl,trivial⟩⟩,rfl⟩
 rintro b0 F b1 ⟨k,hr0_0,hr0_1,b2,⟨b3,rfl⟩,rfl⟩
 refine AI (AC kR (AA (DY .i64 ((k:Nat):Int) (l.length:Int) rfl rfl (AH (AD (AI (AN (decide (((k:Nat):Int)<(l.length:Int))) rfl rfl (fun a0=>?_) (fun a0=>?_))))))))
 ·have a4:((k:Nat):Int)<(l.length:Int):=by simpa using a0
  refine AW (AD (AI (BO (AI (AC kR (AA (AG (vI ((k:Nat):Int)) rfl (AA (AF (vI ((k:Nat):Int)) rfl (AH (AD (AI (AC kR (AA (AG (vI x) rfl (AA (AG (l_v) rfl (AA (AG (vI ((k:Nat):Int)) rfl (AA (DF U22_ NR .i64 ((k:Nat):Int) k rfl rfl rfl a2 oM fun a9 a3=>(AA (CA U3_ rfl rfl a3 (AA (EV .i64 x (l[k]!) rfl rfl (AH (AD (AN (x == (l[k]!)) rfl rfl (fun a1=>?_) (fun a1=>?_)))))))))))))))))))))))))))))
  ·have a5:x=l[k]!:=by simpa using a1
   refine AI (AC kR (AA (AG (vI ((k:Nat):Int)) rfl (AA (AF (vI ((k:Nat):Int)) rfl (AH (AD (AQ (BY (AR (AR (BY (AR (AX rfl (CK rfl rfl rfl) (?_)))))))))))))))
   have e:(idxI l x)=((k:Nat):Int):=by (rw [hr0_1];exact DN oM (by ((repeat ((refine (if_pos ?_).trans ?_;omega)));rfl)))
   exact ⟨_,rfl,s0.keep,by rw [e];exact rfl⟩
  have a6:x≠l[k]!:=by simpa using a1
  refine AW (CI (AD (AC kR (AA (DE .i64 ((k:Nat):Int) (1:Int) (((k+1:Nat):Int)) rfl rfl (GR oM oM) (AA (AG (vI ((k+1:Nat):Int)) rfl (AH (AD (?_))))))))))
  exact ⟨_,oM,(k+1),oM,(hr0_1.trans (GL oM (by ((repeat ((refine (if_neg ?_).trans ?_;solve|(simp only [dbs];(repeat (omega))))));rfl)))),rfl,⟨_,BB _ ⟨rfl,rfl,rfl,(by rfl),rfl,trivial⟩⟩,rfl⟩
 have a7:(l.length:Int)≤((k:Nat):Int):=by simpa using a0
 refine DI (CF (CF (CY (AD (AI (AC kR (AA (AF (vI (-1:Int)) rfl (AH (AD (AQ (AX rfl (CK rfl rfl rfl) (?_)))))))))))))
 have e:(idxI l x)=(-1:Int):=by (rw [hr0_1];exact HJ oM)
 exact ⟨_,rfl,s0.keep,by rw [e];exact rfl⟩
set_option maxHeartbeats 4000000 in
set_option maxRecDepth 100000 in
theorem TS {O:List Nat} (l_v:Value) (l:List Int) (x:Int) (w:World) (a0:AZ Enc.int w O l_v l) (hO:∀ b∈O,b<w.heap.size):CD Try.prog 75 [l_v,vI x] w (fun v _=>v = .bool (l.contains x)):= by
 have a3:=a0.len_le
 have a0:AZ Enc.int w ([]++O) l_v l:=a0
 have s0:St w O w []:=St.start hO
 refine BK 9 Try.func75 rfl rfl oT (fun F0=>AI (AC kR (AA (AF (vO false) rfl (AH (AD (AI (AC kR (AA (AG (l_v) rfl (AA (AG (vI x) rfl (AA (BD (vs:=[l_v,vI x]) enter_104 (c_idx (O:=[]++O) l_v l x w a0 s0.lt) rfl s0 fun a4 a5 a1 a6 a7 a2=>(?_)))))))))))))))
 obtain rfl:=a2
 refine AA (JK .i64 (idxI l x) (0:Int) rfl rfl (AA (AF (vO (decide ((0:Int)≤idxI l x))) rfl (AH (AD (AQ (AX rfl (CK rfl rfl rfl) (?_))))))))
 have e:(l.contains x)=(decide ((0:Int)≤idxI l x)):=by exact (idxI_pos _ _).symm
 exact ⟨_,rfl,a1.keep,(by exact congrArg vO e.symm)⟩
set_option maxHeartbeats 4000000 in
set_option maxRecDepth 100000 in
theorem ON {O:List Nat} (day:Int) (frm:Int) (w:World) (hO:∀ b∈O,b<w.heap.size):CD Try.prog 65 [vI day,vI frm] w (fun v _=>v = .bool (CO day frm)):= by
 have s0:St w O w []:=St.start hO
 refine BK 12 Try.func65 rfl rfl oT (fun F0=>AI (AC kR (AA (AF (vO false) rfl (AH (AD (AI (AC kR (AA (AG (vI day) rfl (AA (AG (vI frm) rfl (AA (JK .i64 day frm rfl rfl (AA (AG (vO (decide (frm≤day))) rfl (?_)))))))))))))))))
 cases a0:(decide (frm≤day))
 ·have a1:day<frm:=by simpa using a0
  refine AO rfl (AO rfl (AA (BR (vO false) rfl rfl (AA (AF (vO false) rfl (AH (AD (AQ (AX rfl (CK rfl rfl rfl) (?_))))))))))
  have e:(CO day frm)=false:=by simp [CO, *]
  exact ⟨_,rfl,s0.keep,(by exact congrArg vO e.symm)⟩
 have a2:frm≤day:=by simpa using a0
 refine AY rfl (AG (vI day) rfl (AY rfl (DY .i64 day (1024:Int) rfl rfl (AA (BA (vO (decide (day<(1024:Int)))) rfl rfl (AA (AF (vO (decide (day<(1024:Int)))) rfl (AH (AD (AQ (AX rfl (CK rfl rfl rfl) (?_))))))))))))
 have e:(CO day frm)=(decide (day<(1024:Int))):=by simp [CO, *]
 exact ⟨_,rfl,s0.keep,(by exact congrArg vO e.symm)⟩
set_option maxHeartbeats 4000000 in
set_option maxRecDepth 100000 in
theorem c_incr {O:List Nat} (l_v:Value) (l:List Int) (w:World) (a2:AZ Enc.int w O l_v l) (hO:∀ b∈O,b<w.heap.size):CD Try.prog 64 [l_v] w (fun v _=>v = .bool (HU l)):= by
 have b1:=a2.len_le
 have a2:AZ Enc.int w ([]++O) l_v l:=a2
 have s0:St w O w []:=St.start hO
 refine BK 21 Try.func64 rfl rfl oT (fun F0=>AI (AC kR (AA (AF (vO false) rfl (AH (AD (AI (AC kR (AA (AF (vI (-1:Int)) rfl (AH (AD (AI (AI (AC kR (AA (AG (l_v) rfl (AA (CB U22_ rfl a2 (AA (AG (vI 0) rfl (AH (AD (BO (DJ (fun mI FI wI=>∃ (k:Nat),k≤l.length∧HU l=FH (fun k=>if JV l k then some false else none) true k (l.length - k)∧mI=l.length - k∧(∃ F1,FI=GO F1 [(3,vI (JX l k)),(6,l_v),(7,vI (l.length:Int)),(8,vI ((k:Nat):Int)),(21,undef)])∧w=wI) (l.length - (0)) ?_ ?_)))))))))))))))))))))))))
 ·exact ⟨(0),oM,(by unfold HU;((repeat (first|(refine (if_pos ?_).trans ?_;solve|omega|assumption|(simp only [JV,dbs];first|done|(repeat (first|omega|assumption|(right;first|omega|assumption|(constructor <;> first|omega|assumption))|left)))|(rw [Bool.not_eq_true];simp only [JV,dbs];first|done|omega|assumption|((repeat' apply And.intro) <;> first|omega|assumption))|(simp only [*,dbs];done))|(refine (if_neg ?_).trans ?_;solve|omega|assumption|(simp only [JV,dbs];first|done|(repeat (first|omega|assumption|(right;first|omega|assumption|(constructor <;> first|omega|assumption))|left)))|(rw [Bool.not_eq_true];simp only [JV,dbs];first|done|omega|assumption|((repeat' apply And.intro) <;> first|omega|assumption))|(simp only [*,dbs];done))));rfl)),rfl,⟨_,BB _ ⟨(by rfl),rfl,rfl,(by rfl),rfl,trivial⟩⟩,rfl⟩
 rintro b3 F b4 ⟨k,hr0_0,hr0_1,b5,⟨b6,rfl⟩,rfl⟩
 refine AI (AC kR (AA (DY .i64 ((k:Nat):Int) (l.length:Int) rfl rfl (AH (AD (AI (AN (decide (((k:Nat):Int)<(l.length:Int))) rfl rfl (fun a0=>?_) (fun a0=>?_))))))))
 ·have a5:((k:Nat):Int)<(l.length:Int):=by simpa using a0
  refine AW (AD (AI (BO (AI (AC kR (AA (DF U22_ NR .i64 ((k:Nat):Int) k rfl rfl rfl a2 oM fun b2 a4=>(AA (CA U3_ rfl rfl a4 (AA (AF (vI (l[k]!)) rfl (AH (AD (AI (AI (AC kR (AA (AG (vI (l[k]!)) rfl (AA (AG (vI (JX l k)) rfl (AA (o_leq .i64 (l[k]!) (JX l k) rfl rfl (AA (AG (vO (decide (l[k]!≤JX l k))) rfl (?_)))))))))))))))))))))))))
  cases a3:(decide (l[k]!≤JX l k))
  ·have a6:JX l k<l[k]!:=by simpa using a3
   refine AY rfl (AG (vI (l[k]!)) rfl (AY rfl (JK .i64 (l[k]!) (4096:Int) rfl rfl (AA (BR (vO (decide ((4096:Int)≤l[k]!))) rfl rfl (AH (AD (AN (decide ((4096:Int)≤l[k]!)) rfl rfl (fun a1=>?_) (fun a1=>?_)))))))))
   ·have a7:(4096:Int)≤l[k]!:=by simpa using a1
    refine AI (AC kR (AA (AF (vO false) rfl (AH (AD (AQ (AR (BY (AR (AR (BY (AR (AX rfl (CK rfl rfl rfl) (?_))))))))))))))
    have e:(HU l)=false:=by (rw [hr0_1];exact DN oM (by ((repeat ((refine (if_pos ?_).trans ?_;solve|(simp only [JV,dbs];(repeat (omega))))));rfl)))
    exact ⟨_,rfl,s0.keep,(by exact congrArg vO e.symm)⟩
   have a8:l[k]! < (4096:Int):=by simpa using a1
   refine AW (AD (AC kR (AA (AG (vI (l[k]!)) rfl (AA (AF (vI (l[k]!)) rfl (AH (CI (AD (AC kR (AA (DE .i64 ((k:Nat):Int) (1:Int) (((k+1:Nat):Int)) rfl rfl (GR oM oM) (AA (AG (vI ((k+1:Nat):Int)) rfl (AH (AD (?_)))))))))))))))))
   exact ⟨_,oM,(k+1),oM,(hr0_1.trans (GL oM (by ((repeat ((refine (if_neg ?_).trans ?_;solve|(simp only [JV,dbs];(repeat (omega))))));rfl)))),rfl,⟨_,BB _ ⟨(by rfl),rfl,rfl,(by rfl),rfl,trivial⟩⟩,rfl⟩
  have a9:l[k]!≤JX l k:=by simpa using a3
  refine AO rfl (AO rfl (AA (BA (vO true) rfl rfl (AH (AD (AN true rfl rfl (fun _=>AI (AC kR (AA (AF (vO false) rfl (AH (AD (AQ (AR (BY (AR (AR (BY (AR (AX rfl (CK rfl rfl rfl) (?_))))))))))))))) (fun h=>by cases h)))))))
  have e:(HU l)=false:=by (rw [hr0_1];exact DN oM (by ((repeat ((refine (if_pos ?_).trans ?_;solve|(simp only [JV,dbs];(repeat (omega))))));rfl)))
  exact ⟨_,rfl,s0.keep,(by exact congrArg vO e.symm)⟩
 have b0:(l.length:Int)≤((k:Nat):Int):=by simpa using a0
 refine DI (CF (CF (CY (AD (AI (AC kR (AA (AF (vO true) rfl (AH (AD (AQ (AX rfl (CK rfl rfl rfl) (?_)))))))))))))
 have e:(HU l)=true:=by (rw [hr0_1];exact HJ oM)
 exact ⟨_,rfl,s0.keep,(by exact congrArg vO e.symm)⟩
set_option maxHeartbeats 4000000 in
set_option maxRecDepth 100000 in
theorem c_recOK {O:List Nat} (r_cs:List Value) (r:Recovery) (w:World) (c4:Enc.recovery.rd w O r_cs r) (hO:∀ b∈O,b<w.heap.size):CD Try.prog 66 [.agg r_cs.toArray] w (fun v _=>v = .bool (ED r)):= by
 have c4:Enc.recovery.rd w ([]++O) r_cs r:=c4
 have s0:St w O w []:=St.start hO
 refine BK 37 Try.func66 rfl rfl oT (fun F0=>AI (AC kR (AA (DK (E:=Enc.recovery) (vA r_cs.toArray) (r_cs) r rfl rfl c4 s0 fun a4 e0 a5 i2 i3 a0=>(AA (AF (vO false) rfl (AH (AD (AI (AI (AC kR (AA (BI 2 LR (r.state) rfl a0 (fun _ _ _ h=>HP h) fun i4 c5=>(AA (CA U3_ rfl rfl c5 (AA (DY .i64 r.state (0:Int) rfl rfl (AA (AG (vO (decide (r.state<(0:Int)))) rfl (?_))))))))))))))))))))
 cases b1:(decide (r.state<(0:Int)))
 ·have h2:(0:Int)≤r.state:=by simpa using b1
  refine AY rfl (BI 2 LR (r.state) rfl a0 (fun _ _ _ h=>HP h) fun i5 c6=>(AY rfl (CA U3_ rfl rfl c6 (AY rfl (HI .i64 r.state (2:Int) rfl rfl (AA (BR (vO (decide ((2:Int)<r.state))) rfl rfl (AA (AG (vO (decide ((2:Int)<r.state))) rfl (?_))))))))))
  cases b2:(decide ((2:Int)<r.state))
  ·have h3:r.state≤(2:Int):=by simpa using b2
   refine AY rfl (BI 3 PD (r.approved) rfl a0 (fun _ _ _ h=>JU h) fun i6 c7=>(AY rfl (BW U22_ rfl rfl c7 fun c2 b3=>(?_))))
   have:=b3.len_le
   refine AY rfl (BD (vs:=[c2]) enter_64 (c_incr (O:=[]++O) c2 r.approved e0 b3 a5.lt) rfl a5 fun i7 a1 a6 e1 i8 e2=>(?_))
   obtain rfl:=e2
   have a0:=a0.mv e1
   refine AY rfl (GZ (HU r.approved) rfl (AA (BR (vO (!(HU r.approved))) rfl rfl (AH (AD (AN (!(HU r.approved)) rfl rfl (fun a7=>?_) (fun a7=>?_)))))))
   ·have h4:(HU r.approved)=false:=by simpa using a7
    refine AI (AC kR (AA (AF (vO false) rfl (AH (AD (AQ (AR (AX rfl (CK rfl rfl rfl) (?_)))))))))
    have e:(ED r)=false:=by (unfold ED;((repeat ((refine (if_pos ?_).trans ?_;solve|(simp only [dbs];(repeat ((right;omega)))))));rfl))
    exact ⟨_,rfl,a6.keep,(by exact congrArg vO e.symm)⟩
   have h5:(HU r.approved)=true:=by simpa using a7
   refine AW (AD (AI (AI (AC kR (AA (BI 2 LR (r.state) rfl a0 (fun _ _ _ h=>HP h) fun i9 c8=>(AA (CA U3_ rfl rfl c8 (AA (EV .i64 r.state (2:Int) rfl rfl (AH (AD (AN (r.state == (2:Int)) rfl rfl (fun a8=>?_) (fun a8=>?_))))))))))))))
   ·have h6:r.state=(2:Int):=by simpa using a8
    refine AI (?_)
    cases a2:((r.vetoed.length:Int) == (1:Int))
    ·have h7:(r.vetoed.length:Int)≠(1:Int):=by simpa using a2
     refine cw_draw' 11 _ _ [fun (vT:Value) (wT:World)=>∃ aT,vT = .pointer (some aT)∧PT (Enc.slice Enc.int) wT ([]++O) (.pointer (some aT)) (r.vetoed),fun (vT:Value) (wT:World)=>AZ Enc.int wT ([]++O) vT (r.vetoed),DB (vI (r.vetoed.length:Int)),DB (vO false),DB (vO false),DB undef,DB undef,DB undef,DB undef,DB undef,DB undef] kR kR kR kR rfl rfl ⟨fun _ _ _ ⟨a,e,h⟩ k=>⟨a,e,h.mv (Mv.of_keep k)⟩,fun _ _ _ h k=>h.mv (Mv.of_keep k),kI,kI,kI,kI,kI,kI,kI,kI,kI,trivial⟩ ⟨?_,?_,?_,?_,?_,?_,?_,?_,?_,?_,?_,trivial⟩ ?_
     ·intro F1 w1 k1 hf hd
      have k0:=(Keep.drew [] a1).trans k1
      have m1:Mv ([]) a1 ([]) w1:=Mv.of_keep k0
      have a0:=a0.mv m1
      obtain ⟨F2,rfl⟩:=AM (F:=F1) [(1,vP (some a4))] ⟨hf 1 kR,trivial⟩
      exact AK rfl ((BI 4 UD (r.vetoed) rfl a0 (fun _ _ _ h=>GG h) fun e3 c9=>(⟨(Keep.refl _ _),⟨e3,rfl,c9⟩⟩)))
     ·intro F1 w1 k1 hf hd
      obtain ⟨e4,e5,d0⟩:∃ aX_,F1 20 = .pointer (some aX_)∧PT (Enc.slice Enc.int) w1 ([]++O) (.pointer (some aX_)) (r.vetoed):=hd 0 20 kR
      obtain ⟨F2,rfl⟩:=AM (F:=F1) [(20,vP (some e4))] ⟨e5,trivial⟩
      refine AK rfl ((BW U22_ rfl rfl d0 fun j0 b4=>(?_)))
      have:=b4.len_le
      exact ⟨(Keep.refl _ _),b4⟩
     ·intro F1 w1 k1 hf hd
      obtain ⟨e6,e7,b5⟩:∃ v,F1 21=v∧AZ Enc.int w1 ([]++O) v (r.vetoed):=⟨_,rfl,hd 1 21 kR⟩
      have:=b5.len_le
      obtain ⟨F2,rfl⟩:=AM (F:=F1) [(21,e6)] ⟨e7,trivial⟩
      exact AK rfl ((CB U22_ rfl b5 (⟨(Keep.refl _ _),rfl⟩)))
     ·intro F1 w1 k1 hf hd
      obtain ⟨F2,rfl⟩:=AM (F:=F1) [(22,vI (r.vetoed.length:Int))] ⟨hd 2 22 kR,trivial⟩
      refine AK rfl ((EV .i64 (r.vetoed.length:Int) (1:Int) rfl rfl (?_)))
      exact ⟨(Keep.refl _ _),congrArg vO (a2)⟩
     ·intro F1 w1 k1 hf hd
      obtain ⟨F2,rfl⟩:=AM (F:=F1) [(23,vO false)] ⟨hd 3 23 kR,trivial⟩
      exact AK rfl ((AG (vO false) rfl (⟨(Keep.refl _ _),rfl⟩)))
     ·intro F1 w1 k1 hf hd
      exact MC rfl rfl (hd 4 24 kR) rfl rfl
     ·intro F1 w1 k1 hf hd
      exact MC rfl rfl (hd 4 24 kR) rfl rfl
     ·intro F1 w1 k1 hf hd
      exact MC rfl rfl (hd 4 24 kR) rfl rfl
     ·intro F1 w1 k1 hf hd
      exact MC rfl rfl (hd 4 24 kR) rfl rfl
     ·intro F1 w1 k1 hf hd
      exact MC rfl rfl (hd 4 24 kR) rfl rfl
     ·intro F1 w1 k1 hf hd
      exact MC rfl rfl (hd 4 24 kR) rfl rfl
     intro e8 j1 e9 b6 a9
     have f0:=a6.call e9
     obtain ⟨F2,rfl⟩:=AM (F:=e8) [(2,vO false),(37,undef),(24,vO false)] ⟨a9 2 kR,a9 37 kR,b6 4 24 kR (by decide),trivial⟩
     clear b6 a9
     refine AO rfl (AA (BR (vO false) rfl rfl (AA (AF (vO false) rfl (AH (AD (AQ (AR (AX rfl (CK rfl rfl rfl) (?_))))))))))
     have e:(ED r)=false:=by (simp_all [ED];done)
     exact ⟨_,rfl,f0.keep,(by exact congrArg vO e.symm)⟩
    have h8:(r.vetoed.length:Int)=(1:Int):=by simpa using a2
    refine cw_draw' 11 _ _ [fun (vT:Value) (wT:World)=>∃ aT,vT = .pointer (some aT)∧PT (Enc.slice Enc.int) wT ([]++O) (.pointer (some aT)) (r.vetoed),fun (vT:Value) (wT:World)=>AZ Enc.int wT ([]++O) vT (r.vetoed),DB (vI (r.vetoed.length:Int)),DB (vO true),DB (vO true),fun (vT:Value) (wT:World)=>∃ aT,vT = .pointer (some aT)∧PT (Enc.slice Enc.int) wT ([]++O) (.pointer (some aT)) (r.vetoed),fun (vT:Value) (wT:World)=>AZ Enc.int wT ([]++O) vT (r.vetoed),fun (vT:Value) (wT:World)=>∃ aT,vT = .pointer (some aT)∧PT Enc.int wT ([]++O) (.pointer (some aT)) (r.vetoed[0]!),DB (vI (r.vetoed[0]!)),fun (vT:Value) (wT:World)=>∃ aT,vT = .pointer (some aT)∧PT Enc.int wT ([]++O) (.pointer (some aT)) (r.asked),DB (vI r.asked)] kR kR kR kR rfl rfl ⟨fun _ _ _ ⟨a,e,h⟩ k=>⟨a,e,h.mv (Mv.of_keep k)⟩,fun _ _ _ h k=>h.mv (Mv.of_keep k),kI,kI,kI,fun _ _ _ ⟨a,e,h⟩ k=>⟨a,e,h.mv (Mv.of_keep k)⟩,fun _ _ _ h k=>h.mv (Mv.of_keep k),fun _ _ _ ⟨a,e,h⟩ k=>⟨a,e,h.mv (Mv.of_keep k)⟩,kI,fun _ _ _ ⟨a,e,h⟩ k=>⟨a,e,h.mv (Mv.of_keep k)⟩,kI,trivial⟩ ⟨?_,?_,?_,?_,?_,?_,?_,?_,?_,?_,?_,trivial⟩ ?_
    ·intro F1 w1 k1 hf hd
     have k0:=(Keep.drew [] a1).trans k1
     have m1:Mv ([]) a1 ([]) w1:=Mv.of_keep k0
     have a0:=a0.mv m1
     obtain ⟨F2,rfl⟩:=AM (F:=F1) [(1,vP (some a4))] ⟨hf 1 kR,trivial⟩
     exact AK rfl ((BI 4 UD (r.vetoed) rfl a0 (fun _ _ _ h=>GG h) fun f1 d1=>(⟨(Keep.refl _ _),⟨f1,rfl,d1⟩⟩)))
    ·intro F1 w1 k1 hf hd
     obtain ⟨f2,f3,d2⟩:∃ aX_,F1 20 = .pointer (some aX_)∧PT (Enc.slice Enc.int) w1 ([]++O) (.pointer (some aX_)) (r.vetoed):=hd 0 20 kR
     obtain ⟨F2,rfl⟩:=AM (F:=F1) [(20,vP (some f2))] ⟨f3,trivial⟩
     refine AK rfl ((BW U22_ rfl rfl d2 fun j2 b7=>(?_)))
     have:=b7.len_le
     exact ⟨(Keep.refl _ _),b7⟩
    ·intro F1 w1 k1 hf hd
     obtain ⟨f4,f5,b8⟩:∃ v,F1 21=v∧AZ Enc.int w1 ([]++O) v (r.vetoed):=⟨_,rfl,hd 1 21 kR⟩
     have:=b8.len_le
     obtain ⟨F2,rfl⟩:=AM (F:=F1) [(21,f4)] ⟨f5,trivial⟩
     exact AK rfl ((CB U22_ rfl b8 (⟨(Keep.refl _ _),rfl⟩)))
    ·intro F1 w1 k1 hf hd
     obtain ⟨F2,rfl⟩:=AM (F:=F1) [(22,vI (r.vetoed.length:Int))] ⟨hd 2 22 kR,trivial⟩
     refine AK rfl ((EV .i64 (r.vetoed.length:Int) (1:Int) rfl rfl (?_)))
     exact ⟨(Keep.refl _ _),congrArg vO (a2)⟩
    ·intro F1 w1 k1 hf hd
     obtain ⟨F2,rfl⟩:=AM (F:=F1) [(23,vO true)] ⟨hd 3 23 kR,trivial⟩
     exact AK rfl ((AG (vO true) rfl (⟨(Keep.refl _ _),rfl⟩)))
    ·intro F1 w1 k1 hf hd
     have k0:=(Keep.drew [] a1).trans k1
     have m1:Mv ([]) a1 ([]) w1:=Mv.of_keep k0
     have a0:=a0.mv m1
     obtain ⟨F2,rfl⟩:=AM (F:=F1) [(1,vP (some a4)),(24,vO true)] ⟨hf 1 kR,hd 4 24 kR,trivial⟩
     exact HO rfl rfl ((BI 4 UD (r.vetoed) rfl a0 (fun _ _ _ h=>GG h) fun f6 d3=>(⟨(Keep.refl _ _),⟨f6,rfl,d3⟩⟩)))
    ·intro F1 w1 k1 hf hd
     obtain ⟨f7,f8,d4⟩:∃ aX_,F1 25 = .pointer (some aX_)∧PT (Enc.slice Enc.int) w1 ([]++O) (.pointer (some aX_)) (r.vetoed):=hd 5 25 kR
     obtain ⟨F2,rfl⟩:=AM (F:=F1) [(24,vO true),(25,vP (some f7))] ⟨hd 4 24 kR,f8,trivial⟩
     refine HO rfl rfl ((BW U22_ rfl rfl d4 fun j3 b9=>(?_)))
     have:=b9.len_le
     exact ⟨(Keep.refl _ _),b9⟩
    ·intro F1 w1 k1 hf hd
     obtain ⟨f9,g0,c0⟩:∃ v,F1 26=v∧AZ Enc.int w1 ([]++O) v (r.vetoed):=⟨_,rfl,hd 6 26 kR⟩
     have:=c0.len_le
     obtain ⟨F2,rfl⟩:=AM (F:=F1) [(24,vO true),(26,f9)] ⟨hd 4 24 kR,g0,trivial⟩
     exact HO rfl rfl ((DF U22_ NR .i64 (0:Int) 0 rfl rfl rfl c0 oM fun g1 d5=>(⟨(Keep.refl _ _),⟨g1,rfl,d5⟩⟩)))
    ·intro F1 w1 k1 hf hd
     obtain ⟨g2,g3,d6⟩:∃ aX_,F1 27 = .pointer (some aX_)∧PT Enc.int w1 ([]++O) (.pointer (some aX_)) (r.vetoed[0]!):=hd 7 27 kR
     obtain ⟨F2,rfl⟩:=AM (F:=F1) [(24,vO true),(27,vP (some g2))] ⟨hd 4 24 kR,g3,trivial⟩
     exact HO rfl rfl ((CA U3_ rfl rfl d6 (⟨(Keep.refl _ _),rfl⟩)))
    ·intro F1 w1 k1 hf hd
     have k0:=(Keep.drew [] a1).trans k1
     have m1:Mv ([]) a1 ([]) w1:=Mv.of_keep k0
     have a0:=a0.mv m1
     obtain ⟨F2,rfl⟩:=AM (F:=F1) [(1,vP (some a4)),(24,vO true)] ⟨hf 1 kR,hd 4 24 kR,trivial⟩
     exact HO rfl rfl ((BI 1 PF (r.asked) rfl a0 (fun _ _ _ h=>SB h) fun g4 d7=>(⟨(Keep.refl _ _),⟨g4,rfl,d7⟩⟩)))
    ·intro F1 w1 k1 hf hd
     obtain ⟨g5,g6,d8⟩:∃ aX_,F1 29 = .pointer (some aX_)∧PT Enc.int w1 ([]++O) (.pointer (some aX_)) (r.asked):=hd 9 29 kR
     obtain ⟨F2,rfl⟩:=AM (F:=F1) [(24,vO true),(29,vP (some g5))] ⟨hd 4 24 kR,g6,trivial⟩
     exact HO rfl rfl ((CA U3_ rfl rfl d8 (⟨(Keep.refl _ _),rfl⟩)))
    intro g7 g8 g9 a3 b0
    have c3:=a6.call g9
    obtain ⟨F2,rfl⟩:=AM (F:=g7) [(2,vO false),(37,undef),(24,vO true),(28,vI (r.vetoed[0]!)),(30,vI r.asked)] ⟨b0 2 kR,b0 37 kR,a3 4 24 kR (by decide),a3 8 28 kR (by decide),a3 10 30 kR (by decide),trivial⟩
    clear a3 b0
    refine AY rfl (BD (vs:=[vI (r.vetoed[0]!),vI r.asked]) MD (ON (O:=[]++O) (r.vetoed[0]!) r.asked g8 c3.lt) rfl c3 fun j4 j5 h0 j6 j7 h1=>(?_))
    obtain rfl:=h1
    refine AA (BA (vO (CO (r.vetoed[0]!) r.asked)) rfl rfl (AA (AF (vO (CO (r.vetoed[0]!) r.asked)) rfl (AH (AD (AQ (AR (AX rfl (CK rfl rfl rfl) (?_)))))))))
    have e:(ED r)=(CO (r.vetoed[0]!) r.asked):=by (simp_all [ED];done)
    exact ⟨_,rfl,h0.keep,(by exact congrArg vO e.symm)⟩
   have h9:r.state≠(2:Int):=by simpa using a8
   refine AW (AD (AI (AC kR (AA (BI 4 UD (r.vetoed) rfl a0 (fun _ _ _ h=>GG h) fun j8 d9=>(AA (BW U22_ rfl rfl d9 fun j9 c1=>(?_))))))))
   have:=c1.len_le
   refine AA (CB U22_ rfl c1 (AA (EV .i64 (r.vetoed.length:Int) (0:Int) rfl rfl (AA (AF (vO ((r.vetoed.length:Int) == (0:Int))) rfl (AH (AD (AQ (AX rfl (CK rfl rfl rfl) (?_))))))))))
   have e:(ED r)=((r.vetoed.length:Int) == (0:Int)):=by (unfold ED;((repeat ((refine (if_neg ?_).trans ?_;solve|(simp only [dbs];(repeat (omega)))|(rw [Bool.not_eq_true];simp only [dbs];((repeat' apply And.intro) <;> omega)))));rfl))
   exact ⟨_,rfl,a6.keep,(by exact congrArg vO e.symm)⟩
  have i0:(2:Int)<r.state:=by simpa using b2
  refine AO rfl (AO rfl (AO rfl (AO rfl (AA (BA (vO true) rfl rfl (AH (AD (AN true rfl rfl (fun _=>AI (AC kR (AA (AF (vO false) rfl (AH (AD (AQ (AR (AX rfl (CK rfl rfl rfl) (?_)))))))))) (fun h=>by cases h)))))))))
  have e:(ED r)=false:=by (unfold ED;((repeat ((refine (if_pos ?_).trans ?_;solve|(simp only [dbs];(repeat (omega))))));rfl))
  exact ⟨_,rfl,a5.keep,(by exact congrArg vO e.symm)⟩
 have i1:r.state<(0:Int):=by simpa using b1
 refine AO rfl (AO rfl (AO rfl (AA (BA (vO true) rfl rfl (AA (AG (vO true) rfl (AO rfl (AO rfl (AO rfl (AO rfl (AA (BA (vO true) rfl rfl (AH (AD (AN true rfl rfl (fun _=>AI (AC kR (AA (AF (vO false) rfl (AH (AD (AQ (AR (AX rfl (CK rfl rfl rfl) (?_)))))))))) (fun h=>by cases h))))))))))))))))
 have e:(ED r)=false:=by (unfold ED;((repeat ((refine (if_pos ?_).trans ?_;solve|(simp only [dbs];(repeat (omega))))));rfl))
 exact ⟨_,rfl,a5.keep,(by exact congrArg vO e.symm)⟩
open Go.Fw Go.RowKit
set_option maxHeartbeats 4000000 in
set_option maxRecDepth 100000 in
theorem OQ {O:List Nat} (c_cs:List Value) (c:Circle) (w:World) (e2:Enc.circle.rd w O c_cs c) (hO:∀ b∈O,b<w.heap.size):CD Try.prog 31 [.agg c_cs.toArray] w (fun v _=>v=vI (AS c)):= by
 have e2:Enc.circle.rd w ([]++O) c_cs c:=e2
 have s0:St w O w []:=St.start hO
 refine BK 95 Try.func31 rfl rfl oT (fun F0=>AI (AC kR (AA (DK (E:=Enc.circle) (vA c_cs.toArray) (c_cs) c rfl rfl e2 s0 fun d8 f6 a5 k2 k3 a0=>(AA (AF (vI 0) rfl (AH (AD (AI (AC kR (AA (BI 3 MZ (c.guardians) rfl a0 (fun _ _ _ h=>FO h) fun k4 e3=>(AA (BW U22_ rfl rfl e3 fun k5 c1=>(?_)))))))))))))))
 have:=c1.len_le
 refine AA (CB U22_ rfl c1 (AA (AF (vI (c.guardians.length:Int)) rfl (AH (AD (AI (AI (AC kR (AA (BI 0 LT (c.epoch) rfl a0 (fun _ _ _ h=>JG h) fun k6 e4=>(AA (CA U3_ rfl rfl e4 (AA (DY .i64 c.epoch (0:Int) rfl rfl (AA (AG (vO (decide (c.epoch<(0:Int)))) rfl (?_)))))))))))))))))
 cases c2:(decide (c.epoch<(0:Int)))
 ·have h2:(0:Int)≤c.epoch:=by simpa using c2
  refine AY rfl (BI 0 LT (c.epoch) rfl a0 (fun _ _ _ h=>JG h) fun k7 e5=>(AY rfl (CA U3_ rfl rfl e5 (AY rfl (HI .i64 c.epoch (1048576:Int) rfl rfl (AA (BR (vO (decide ((1048576:Int)<c.epoch))) rfl rfl (AA (AG (vO (decide ((1048576:Int)<c.epoch))) rfl (?_))))))))))
  cases c3:(decide ((1048576:Int)<c.epoch))
  ·have h3:c.epoch≤(1048576:Int):=by simpa using c3
   refine AY rfl (AG (vI (c.guardians.length:Int)) rfl (AY rfl (DY .i64 (c.guardians.length:Int) (1:Int) rfl rfl (AA (BR (vO (decide ((c.guardians.length:Int)<(1:Int)))) rfl rfl (AA (AG (vO (decide ((c.guardians.length:Int)<(1:Int)))) rfl (?_))))))))
   cases c4:(decide ((c.guardians.length:Int)<(1:Int)))
   ·have h4:(1:Int)≤(c.guardians.length:Int):=by simpa using c4
    refine AY rfl (AG (vI (c.guardians.length:Int)) rfl (AY rfl (HI .i64 (c.guardians.length:Int) (8:Int) rfl rfl (AA (BR (vO (decide ((8:Int)<(c.guardians.length:Int)))) rfl rfl (AA (AG (vO (decide ((8:Int)<(c.guardians.length:Int)))) rfl (?_))))))))
    cases c5:(decide ((8:Int)<(c.guardians.length:Int)))
    ·have h5:(c.guardians.length:Int)≤(8:Int):=by simpa using c5
     refine AY rfl (BI 3 MZ (c.guardians) rfl a0 (fun _ _ _ h=>FO h) fun k8 e6=>(AY rfl (BW U22_ rfl rfl e6 fun d9 c6=>(?_))))
     have:=c6.len_le
     refine AY rfl (BD (vs:=[d9]) enter_64 (c_incr (O:=[]++O) d9 c.guardians f6 c6 a5.lt) rfl a5 fun k9 f7 a6 f8 l0 f9=>(?_))
     obtain rfl:=f9
     have a0:=a0.mv f8
     refine AY rfl (GZ (HU c.guardians) rfl (AA (BR (vO (!(HU c.guardians))) rfl rfl (AA (AG (vO (!(HU c.guardians))) rfl (?_))))))
     cases c7:(!(HU c.guardians))
     ·have h6:(HU c.guardians)=true:=by simpa using c7
      refine AY rfl (BI 1 LV (c.threshold) rfl a0 (fun _ _ _ h=>FN h) fun l1 e7=>(AY rfl (CA U3_ rfl rfl e7 (AY rfl (DY .i64 c.threshold (1:Int) rfl rfl (AA (BR (vO (decide (c.threshold<(1:Int)))) rfl rfl (AA (AG (vO (decide (c.threshold<(1:Int)))) rfl (?_))))))))))
      cases c8:(decide (c.threshold<(1:Int)))
      ·have h7:(1:Int)≤c.threshold:=by simpa using c8
       refine AY rfl (BI 1 LV (c.threshold) rfl a0 (fun _ _ _ h=>FN h) fun l2 e8=>(AY rfl (CA U3_ rfl rfl e8 (AY rfl (AG (vI (c.guardians.length:Int)) rfl (AY rfl (HI .i64 c.threshold (c.guardians.length:Int) rfl rfl (AA (BR (vO (decide ((c.guardians.length:Int)<c.threshold))) rfl rfl (AA (AG (vO (decide ((c.guardians.length:Int)<c.threshold))) rfl (?_))))))))))))
       cases c9:(decide ((c.guardians.length:Int)<c.threshold))
       ·have h8:c.threshold≤(c.guardians.length:Int):=by simpa using c9
        refine AY rfl (BI 2 f_28_2 (c.wait) rfl a0 (fun _ _ _ h=>OT h) fun l3 e9=>(AY rfl (CA U3_ rfl rfl e9 (AY rfl (BD (vs:=[vI c.wait,vI 0]) MD (ON (O:=[]++O) c.wait (0:Int) f7 a6.lt) rfl a6 fun l4 l5 b7 g0 l6 g1=>(?_))))))
        obtain rfl:=g1
        have a0:=a0.mv g0
        refine AY rfl (GZ (CO c.wait (0:Int)) rfl (AA (BR (vO (!(CO c.wait (0:Int)))) rfl rfl (AA (AG (vO (!(CO c.wait (0:Int)))) rfl (?_))))))
        cases d0:(!(CO c.wait (0:Int)))
        ·have h9:(CO c.wait (0:Int))=true:=by simpa using d0
         refine AY rfl (BI 4 DU (c.recs) rfl a0 (fun _ _ _ h=>CN h) fun l7 f0=>(AY rfl (BW U26_ rfl rfl f0 fun l8 d1=>(?_))))
         have:=d1.len_le
         refine AY rfl (CB U26_ rfl d1 (AY rfl (HI .i64 (c.recs.length:Int) (1024:Int) rfl rfl (AA (BR (vO (decide ((1024:Int)<(c.recs.length:Int)))) rfl rfl (AH (AD (AN (decide ((1024:Int)<(c.recs.length:Int))) rfl rfl (fun b3=>?_) (fun b3=>?_)))))))))
         ·have i0:(1024:Int)<(c.recs.length:Int):=by simpa using b3
          refine AI (AC kR (AA (AF (vI 450) rfl (AH (AD (AQ (AR (AX rfl (CK rfl rfl rfl) (?_)))))))))
          have e:(AS c)=(450:Int):=by (unfold AS;((repeat ((refine (if_pos ?_).trans ?_;solve|(simp only [DD,ER,dbs];(repeat (omega))))));rfl))
          exact ⟨_,rfl,b7.keep,by rw [e];exact rfl⟩
         have i1:(c.recs.length:Int)≤(1024:Int):=by simpa using b3
         refine AW (AD (AI (AC kR (AA (AF (vI 0) rfl (AH (AD (AI (AI (AC kR (AA (BI 4 DU (c.recs) rfl a0 (fun _ _ _ h=>CN h) fun l9 f1=>(AA (BW U26_ rfl rfl f1 fun e0 a1=>(?_)))))))))))))))
         have:=a1.len_le
         refine AA (CB U26_ rfl a1 (AA (AG (vI 0) rfl (AH (AD (BO (DJ (fun mI FI wI=>∃ (k:Nat) (B:List Nat),k≤c.recs.length∧AS c=FH (fun k=>if ER c.recs k then some 450 else none) 0 k (c.recs.length - k)∧mI=c.recs.length - k∧(∃ F1,FI=GO F1 [(1,vP (some d8)),(4,vI (EJ c.recs k)),(56,e0),(57,vI (c.recs.length:Int)),(58,vI ((k:Nat):Int)),(95,undef)])∧St w O wI B∧PT Enc.circle wI (B++O) (.pointer (some d8)) (c)∧AZ Enc.recovery wI (B++O) (e0) (c.recs)) (c.recs.length - (0)) ?_ ?_)))))))
         ·exact ⟨(0),[],oM,(by unfold AS;((repeat ((refine (if_neg ?_).trans ?_;solve|(simp only [DD,ER,dbs];(repeat (first|omega|assumption|(right;first|omega|assumption|(constructor <;> first|omega|assumption))|left)))|(rw [Bool.not_eq_true];simp only [DD,ER,dbs];((repeat' apply And.intro) <;> omega)))));rfl)),rfl,⟨_,BB _ ⟨rfl,(by rfl),rfl,rfl,(by rfl),rfl,trivial⟩⟩,b7,a0,a1⟩
         intro m9 F n2 hI
         clear a0 a1
         obtain ⟨k,d2,hr0_0,hr0_1,n3,⟨n4,rfl⟩,h1,a0,a1⟩:=hI
         refine AI (AC kR (AA (DY .i64 ((k:Nat):Int) (c.recs.length:Int) rfl rfl (AH (AD (AI (AN (decide (((k:Nat):Int)<(c.recs.length:Int))) rfl rfl (fun b4=>?_) (fun b4=>?_))))))))
         ·have i2:((k:Nat):Int)<(c.recs.length:Int):=by simpa using b4
          refine AW (AD (AI (BO (AI (AC kR (AA (AG (vI ((k:Nat):Int)) rfl (AA (DF U26_ GP .i64 ((k:Nat):Int) k rfl rfl rfl a1 oM fun m0 f2=>(AA (CP U68_ rfl GP rfl f2 fun f3 b5=>(AA (CU [vI 0,vI 0,vI 0,nS,nS] NM rfl h1 fun a7 g2 g3 g4 b8 m1 f4=>(?_))))))))))))))
          clear g3
          have a0:=a0.mv b8
          have a1:=a1.mv b8
          have b5:Enc.recovery.rd g2 ((a7 :: d2)++O) f3 (c.recs[k]!):=Enc.mv Enc.recovery (x:=c.recs[k]!) b5 b8
          refine AA (AF (vI ((k:Nat):Int)) rfl (?_))
          obtain ⟨a8,a9,rfl,a3,a4⟩:=b5
          have:=a3.len_le
          have:=a4.len_le
          refine BX (BG (vs:=[vI ((c.recs[k]!).no),vI ((c.recs[k]!).asked),vI ((c.recs[k]!).state),a8,a9]) (.agg #[vI ((c.recs[k]!).no),vI ((c.recs[k]!).asked),vI ((c.recs[k]!).state),a8,a9]) rfl rfl rfl GP (fun u hu=>by simp only [List.mem_cons,List.not_mem_nil,or_false] at hu;rcases hu with rfl|rfl|rfl|rfl|rfl <;> first|rfl|exact a3.oneCell|exact a4.oneCell) (by repeat (constructor)) f4 oT g4 fun g5 b9 b0 m2 a2=>(?_))
          have a0:=a0.mv b0
          have a1:=a1.mv b0
          have a3:=a3.mv b0
          have a4:=a4.mv b0
          refine AH (AD (AI (AI (AC kR (AA (BC 0 f_68_0 rfl (AA (BH U3_ rfl (vI ((c.recs[k]!).no)) rfl a2 rfl (AA (AG (vI ((k:Nat):Int)) rfl (AA (CS .i64 ((c.recs[k]!).no) ((k:Nat):Int) rfl rfl (AA (AG (vO (((c.recs[k]!).no) != ((k:Nat):Int))) rfl (?_)))))))))))))))
          cases d3:(((c.recs[k]!).no) != ((k:Nat):Int))
          ·have i3:(c.recs[k]!).no=((k:Nat):Int):=by simpa using d3
           refine AY rfl (BC 1 PF rfl (AY rfl (BH U3_ rfl (vI ((c.recs[k]!).asked)) rfl a2 rfl (AY rfl (AG (vI (EJ c.recs k)) rfl (AY rfl (BD (vs:=[vI ((c.recs[k]!).asked),vI (EJ c.recs k)]) MD (ON (O:=(a7 :: d2)++O) ((c.recs[k]!).asked) (EJ c.recs k) g5 b9.lt) rfl b9 fun m3 g6 c0 b1 g7 g8=>(?_))))))))
           obtain rfl:=g8
           have a0:=a0.mv b1
           have a1:=a1.mv b1
           have a3:=a3.mv b1
           have a4:=a4.mv b1
           have a2:=a2.keep g7 (by simp)
           refine AY rfl (GZ (CO ((c.recs[k]!).asked) (EJ c.recs k)) rfl (AA (BR (vO (!(CO ((c.recs[k]!).asked) (EJ c.recs k)))) rfl rfl (AA (AG (vO (!(CO ((c.recs[k]!).asked) (EJ c.recs k)))) rfl (?_))))))
           cases d4:(!(CO ((c.recs[k]!).asked) (EJ c.recs k)))
           ·have i4:(CO ((c.recs[k]!).asked) (EJ c.recs k))=true:=by simpa using d4
            refine AY rfl (BP (vs:=[vI ((c.recs[k]!).no),vI ((c.recs[k]!).asked),vI ((c.recs[k]!).state),a8,a9]) U68_ rfl GP rfl a2 rfl (AY rfl (BD (vs:=[vA #[vI ((c.recs[k]!).no),vI ((c.recs[k]!).asked),vI ((c.recs[k]!).state),a8,a9]]) enter_66 (c_recOK (O:=(a7 :: d2)++O) [vI ((c.recs[k]!).no),vI ((c.recs[k]!).asked),vI ((c.recs[k]!).state),a8,a9] (c.recs[k]!) g6 ⟨_,_,rfl,a3,a4⟩ c0.lt) rfl c0 fun m4 m5 b2 e1 g9 h0=>(?_))))
            obtain rfl:=h0
            have a0:=a0.mv e1
            have a1:=a1.mv e1
            have a2:=a2.keep g9 (by simp)
            refine AY rfl (GZ (ED (c.recs[k]!)) rfl (AA (BR (vO (!(ED (c.recs[k]!)))) rfl rfl (AA (AG (vO (!(ED (c.recs[k]!)))) rfl (?_))))))
            cases d5:(!(ED (c.recs[k]!)))
            ·have i5:(ED (c.recs[k]!))=true:=by simpa using d5
             refine AY rfl (BC 2 LR rfl (AY rfl (BH U3_ rfl (vI ((c.recs[k]!).state)) rfl a2 rfl (AY rfl (EV .i64 ((c.recs[k]!).state) (0:Int) rfl rfl (AY rfl (AG (vO (((c.recs[k]!).state) == (0:Int))) rfl (?_))))))))
             cases d6:(((c.recs[k]!).state) == (0:Int))
             ·have i6:(c.recs[k]!).state≠(0:Int):=by simpa using d6
              refine AO rfl (AO rfl (AO rfl (AO rfl (AO rfl (AO rfl (AY rfl (BR (vO false) rfl rfl (AA (BR (vO false) rfl rfl (AH (AD (AN false rfl rfl (fun h=>by cases h) (fun _=>AW (AD (AC kR (AA (BC 1 PF rfl (AA (BH U3_ rfl (vI ((c.recs[k]!).asked)) rfl a2 rfl (AA (AF (vI ((c.recs[k]!).asked)) rfl (AH (CI (AD (AC kR (AA (DE .i64 ((k:Nat):Int) (1:Int) (((k+1:Nat):Int)) rfl rfl (GR oM oM) (AA (AG (vI ((k+1:Nat):Int)) rfl (AH (AD (?_))))))))))))))))))))))))))))))))
              exact ⟨_,oM,(k+1),(a7 :: d2),oM,(hr0_1.trans (GL oM (by ((repeat ((refine (if_neg ?_).trans ?_;solve|(simp only [DD,ER,dbs];(repeat (first|omega|assumption|(right;first|omega|assumption|(constructor <;> first|omega|assumption))|left)))|(rw [Bool.not_eq_true];simp only [DD,ER,dbs];((repeat' apply And.intro) <;> omega)))));rfl)))),rfl,⟨_,BB _ ⟨rfl,(by rfl),rfl,rfl,(by rfl),rfl,trivial⟩⟩,b2,a0,a1⟩
             have i7:(c.recs[k]!).state=(0:Int):=by simpa using d6
             refine AY rfl (AG (vI ((k:Nat):Int)) rfl (AY rfl (BI 4 DU (c.recs) rfl a0 (fun _ _ _ h=>CN h) fun m6 f5=>(AY rfl (BW U26_ rfl rfl f5 fun m7 d7=>(?_))))))
             have:=d7.len_le
             refine AY rfl (CB U26_ rfl d7 (AY rfl (JM .i64 (c.recs.length:Int) (1:Int) ((c.recs.length:Int) - (1:Int)) rfl rfl (GR oM oM) (AY rfl (DY .i64 ((k:Nat):Int) ((c.recs.length:Int) - (1:Int)) rfl rfl (AY rfl (BA (vO (decide (((k:Nat):Int)<(c.recs.length:Int) - (1:Int)))) rfl rfl (AA (BR (vO (decide (((k:Nat):Int)<(c.recs.length:Int) - (1:Int)))) rfl rfl (AH (AD (AN (decide (((k:Nat):Int)<(c.recs.length:Int) - (1:Int))) rfl rfl (fun b6=>?_) (fun b6=>?_)))))))))))))
             ·have i8:((k:Nat):Int)<(c.recs.length:Int) - (1:Int):=by simpa using b6
              refine AI (AC kR (AA (AF (vI 450) rfl (AH (AD (AQ (AR (BY (AR (AR (BY (AR (AX rfl (CK rfl rfl rfl) (?_))))))))))))))
              have e:(AS c)=(450:Int):=by (rw [hr0_1];exact DN oM (by ((repeat ((refine (if_pos ?_).trans ?_;solve|(simp only [DD,ER,dbs];(repeat (omega))))));rfl)))
              exact ⟨_,rfl,b2.keep,by rw [e];exact rfl⟩
             have i9:(c.recs.length:Int) - (1:Int)≤((k:Nat):Int):=by simpa using b6
             refine AW (AD (AC kR (AA (BC 1 PF rfl (AA (BH U3_ rfl (vI ((c.recs[k]!).asked)) rfl a2 rfl (AA (AF (vI ((c.recs[k]!).asked)) rfl (AH (CI (AD (AC kR (AA (DE .i64 ((k:Nat):Int) (1:Int) (((k+1:Nat):Int)) rfl rfl (GR oM oM) (AA (AG (vI ((k+1:Nat):Int)) rfl (AH (AD (?_)))))))))))))))))))
             exact ⟨_,oM,(k+1),(a7 :: d2),oM,(hr0_1.trans (GL oM (by ((repeat ((refine (if_neg ?_).trans ?_;solve|(simp only [DD,ER,dbs];(repeat (first|omega|assumption|(right;first|omega|assumption|(constructor <;> first|omega|assumption))|left)))|(rw [Bool.not_eq_true];simp only [DD,ER,dbs];((repeat' apply And.intro) <;> omega)))));rfl)))),rfl,⟨_,BB _ ⟨rfl,(by rfl),rfl,rfl,(by rfl),rfl,trivial⟩⟩,b2,a0,a1⟩
            have j0:(ED (c.recs[k]!))=false:=by simpa using d5
            refine AO rfl (AO rfl (AO rfl (AO rfl (IN rfl (IN rfl (IN rfl (IN rfl (IN rfl (IN rfl (AO rfl (AA (BA (vO true) rfl rfl (AH (AD (AN true rfl rfl (fun _=>AI (AC kR (AA (AF (vI 450) rfl (AH (AD (AQ (AR (BY (AR (AR (BY (AR (AX rfl (CK rfl rfl rfl) (?_))))))))))))))) (fun h=>by cases h))))))))))))))))
            have e:(AS c)=(450:Int):=by (rw [hr0_1];exact DN oM (by ((repeat ((refine (if_pos ?_).trans ?_;solve|(simp only [DD,ER,dbs];(repeat (first|(right;omega)|left))))));rfl)))
            exact ⟨_,rfl,b2.keep,by rw [e];exact rfl⟩
           have j1:(CO ((c.recs[k]!).asked) (EJ c.recs k))=false:=by simpa using d4
           refine AO rfl (AO rfl (AO rfl (AA (BA (vO true) rfl rfl (AA (AG (vO true) rfl (AO rfl (AO rfl (AO rfl (AO rfl (IN rfl (IN rfl (IN rfl (IN rfl (IN rfl (IN rfl (AO rfl (AA (BA (vO true) rfl rfl (AH (AD (AN true rfl rfl (fun _=>AI (AC kR (AA (AF (vI 450) rfl (AH (AD (AQ (AR (BY (AR (AR (BY (AR (AX rfl (CK rfl rfl rfl) (?_))))))))))))))) (fun h=>by cases h)))))))))))))))))))))))
           have e:(AS c)=(450:Int):=by (rw [hr0_1];exact DN oM (by ((repeat ((refine (if_pos ?_).trans ?_;solve|(simp only [DD,ER,dbs];(repeat (first|(right;omega)|left))))));rfl)))
           exact ⟨_,rfl,c0.keep,by rw [e];exact rfl⟩
          have j2:(c.recs[k]!).no≠((k:Nat):Int):=by simpa using d3
          refine AO rfl (AO rfl (AO rfl (AO rfl (AO rfl (AA (BA (vO true) rfl rfl (AA (AG (vO true) rfl (AO rfl (AO rfl (AO rfl (AA (BA (vO true) rfl rfl (AA (AG (vO true) rfl (AO rfl (AO rfl (AO rfl (AO rfl (IN rfl (IN rfl (IN rfl (IN rfl (IN rfl (IN rfl (AO rfl (AA (BA (vO true) rfl rfl (AH (AD (AN true rfl rfl (fun _=>AI (AC kR (AA (AF (vI 450) rfl (AH (AD (AQ (AR (BY (AR (AR (BY (AR (AX rfl (CK rfl rfl rfl) (?_))))))))))))))) (fun h=>by cases h))))))))))))))))))))))))))))))))
          have e:(AS c)=(450:Int):=by (rw [hr0_1];exact DN oM (by ((repeat ((refine (if_pos ?_).trans ?_;solve|(simp only [DD,ER,dbs];(repeat (omega))))));rfl)))
          exact ⟨_,rfl,b9.keep,by rw [e];exact rfl⟩
         have j3:(c.recs.length:Int)≤((k:Nat):Int):=by simpa using b4
         refine DI (CF (CF (CY (AD (AI (AC kR (AA (AF (vI 0) rfl (AH (AD (AQ (AX rfl (CK rfl rfl rfl) (?_)))))))))))))
         have e:(AS c)=(0:Int):=by (rw [hr0_1];exact HJ oM)
         exact ⟨_,rfl,h1.keep,by rw [e];exact rfl⟩
        have j4:(CO c.wait (0:Int))=false:=by simpa using d0
        refine AO rfl (AO rfl (AO rfl (AO rfl (AA (BA (vO true) rfl rfl (AH (AD (AN true rfl rfl (fun _=>AI (AC kR (AA (AF (vI 450) rfl (AH (AD (AQ (AR (AX rfl (CK rfl rfl rfl) (?_)))))))))) (fun h=>by cases h)))))))))
        have e:(AS c)=(450:Int):=by (unfold AS;((repeat ((refine (if_pos ?_).trans ?_;solve|(simp only [DD,ER,dbs];(repeat (first|(right;omega)|left))))));rfl))
        exact ⟨_,rfl,b7.keep,by rw [e];exact rfl⟩
       have j5:(c.guardians.length:Int)<c.threshold:=by simpa using c9
       refine AO rfl (AO rfl (AO rfl (AO rfl (AA (BA (vO true) rfl rfl (AA (AG (vO true) rfl (AO rfl (AO rfl (AO rfl (AO rfl (AA (BA (vO true) rfl rfl (AH (AD (AN true rfl rfl (fun _=>AI (AC kR (AA (AF (vI 450) rfl (AH (AD (AQ (AR (AX rfl (CK rfl rfl rfl) (?_)))))))))) (fun h=>by cases h)))))))))))))))))
       have e:(AS c)=(450:Int):=by (unfold AS;((repeat ((refine (if_pos ?_).trans ?_;solve|(simp only [DD,ER,dbs];(repeat (omega))))));rfl))
       exact ⟨_,rfl,a6.keep,by rw [e];exact rfl⟩
      have j6:c.threshold<(1:Int):=by simpa using c8
      refine AO rfl (AO rfl (AO rfl (AO rfl (AA (BA (vO true) rfl rfl (AA (AG (vO true) rfl (AO rfl (AO rfl (AO rfl (AO rfl (AA (BA (vO true) rfl rfl (AA (AG (vO true) rfl (AO rfl (AO rfl (AO rfl (AO rfl (AA (BA (vO true) rfl rfl (AH (AD (AN true rfl rfl (fun _=>AI (AC kR (AA (AF (vI 450) rfl (AH (AD (AQ (AR (AX rfl (CK rfl rfl rfl) (?_)))))))))) (fun h=>by cases h)))))))))))))))))))))))))
      have e:(AS c)=(450:Int):=by (unfold AS;((repeat ((refine (if_pos ?_).trans ?_;solve|(simp only [DD,ER,dbs];(repeat (omega))))));rfl))
      exact ⟨_,rfl,a6.keep,by rw [e];exact rfl⟩
     have j7:(HU c.guardians)=false:=by simpa using c7
     refine AO rfl (AO rfl (AO rfl (AA (BA (vO true) rfl rfl (AA (AG (vO true) rfl (AO rfl (AO rfl (AO rfl (AO rfl (AA (BA (vO true) rfl rfl (AA (AG (vO true) rfl (AO rfl (AO rfl (AO rfl (AO rfl (AA (BA (vO true) rfl rfl (AA (AG (vO true) rfl (AO rfl (AO rfl (AO rfl (AO rfl (AA (BA (vO true) rfl rfl (AH (AD (AN true rfl rfl (fun _=>AI (AC kR (AA (AF (vI 450) rfl (AH (AD (AQ (AR (AX rfl (CK rfl rfl rfl) (?_)))))))))) (fun h=>by cases h))))))))))))))))))))))))))))))))
     have e:(AS c)=(450:Int):=by (unfold AS;((repeat ((refine (if_pos ?_).trans ?_;solve|(simp only [DD,ER,dbs];(repeat (first|(right;omega)|left))))));rfl))
     exact ⟨_,rfl,a6.keep,by rw [e];exact rfl⟩
    have j8:(8:Int)<(c.guardians.length:Int):=by simpa using c5
    refine AO rfl (AO rfl (AO rfl (AO rfl (AA (BA (vO true) rfl rfl (AA (AG (vO true) rfl (AO rfl (AO rfl (AO rfl (AA (BA (vO true) rfl rfl (AA (AG (vO true) rfl (AO rfl (AO rfl (AO rfl (AO rfl (AA (BA (vO true) rfl rfl (AA (AG (vO true) rfl (AO rfl (AO rfl (AO rfl (AO rfl (AA (BA (vO true) rfl rfl (AA (AG (vO true) rfl (AO rfl (AO rfl (AO rfl (AO rfl (AA (BA (vO true) rfl rfl (AH (AD (AN true rfl rfl (fun _=>AI (AC kR (AA (AF (vI 450) rfl (AH (AD (AQ (AR (AX rfl (CK rfl rfl rfl) (?_)))))))))) (fun h=>by cases h))))))))))))))))))))))))))))))))))))))))
    have e:(AS c)=(450:Int):=by (unfold AS;((repeat ((refine (if_pos ?_).trans ?_;solve|(simp only [DD,ER,dbs];(repeat (omega))))));rfl))
    exact ⟨_,rfl,a5.keep,by rw [e];exact rfl⟩
   have j9:(c.guardians.length:Int)<(1:Int):=by simpa using c4
   refine AO rfl (AO rfl (AA (BA (vO true) rfl rfl (AA (AG (vO true) rfl (AO rfl (AO rfl (AO rfl (AO rfl (AA (BA (vO true) rfl rfl (AA (AG (vO true) rfl (AO rfl (AO rfl (AO rfl (AA (BA (vO true) rfl rfl (AA (AG (vO true) rfl (AO rfl (AO rfl (AO rfl (AO rfl (AA (BA (vO true) rfl rfl (AA (AG (vO true) rfl (AO rfl (AO rfl (AO rfl (AO rfl (AA (BA (vO true) rfl rfl (AA (AG (vO true) rfl (AO rfl (AO rfl (AO rfl (AO rfl (AA (BA (vO true) rfl rfl (AH (AD (AN true rfl rfl (fun _=>AI (AC kR (AA (AF (vI 450) rfl (AH (AD (AQ (AR (AX rfl (CK rfl rfl rfl) (?_)))))))))) (fun h=>by cases h))))))))))))))))))))))))))))))))))))))))))))))
   have e:(AS c)=(450:Int):=by (unfold AS;((repeat ((refine (if_pos ?_).trans ?_;solve|(simp only [DD,ER,dbs];(repeat (omega))))));rfl))
   exact ⟨_,rfl,a5.keep,by rw [e];exact rfl⟩
  have k0:(1048576:Int)<c.epoch:=by simpa using c3
  refine AO rfl (AO rfl (AA (BA (vO true) rfl rfl (AA (AG (vO true) rfl (AO rfl (AO rfl (AA (BA (vO true) rfl rfl (AA (AG (vO true) rfl (AO rfl (AO rfl (AO rfl (AO rfl (AA (BA (vO true) rfl rfl (AA (AG (vO true) rfl (AO rfl (AO rfl (AO rfl (AA (BA (vO true) rfl rfl (AA (AG (vO true) rfl (AO rfl (AO rfl (AO rfl (AO rfl (AA (BA (vO true) rfl rfl (AA (AG (vO true) rfl (AO rfl (AO rfl (AO rfl (AO rfl (AA (BA (vO true) rfl rfl (AA (AG (vO true) rfl (AO rfl (AO rfl (AO rfl (AO rfl (AA (BA (vO true) rfl rfl (AH (AD (AN true rfl rfl (fun _=>AI (AC kR (AA (AF (vI 450) rfl (AH (AD (AQ (AR (AX rfl (CK rfl rfl rfl) (?_)))))))))) (fun h=>by cases h))))))))))))))))))))))))))))))))))))))))))))))))))))
  have e:(AS c)=(450:Int):=by (unfold AS;((repeat ((refine (if_pos ?_).trans ?_;solve|(simp only [DD,ER,dbs];(repeat (omega))))));rfl))
  exact ⟨_,rfl,a5.keep,by rw [e];exact rfl⟩
 have k1:c.epoch<(0:Int):=by simpa using c2
 refine AO rfl (AO rfl (AO rfl (AA (BA (vO true) rfl rfl (AA (AG (vO true) rfl (AO rfl (AO rfl (AA (BA (vO true) rfl rfl (AA (AG (vO true) rfl (AO rfl (AO rfl (AA (BA (vO true) rfl rfl (AA (AG (vO true) rfl (AO rfl (AO rfl (AO rfl (AO rfl (AA (BA (vO true) rfl rfl (AA (AG (vO true) rfl (AO rfl (AO rfl (AO rfl (AA (BA (vO true) rfl rfl (AA (AG (vO true) rfl (AO rfl (AO rfl (AO rfl (AO rfl (AA (BA (vO true) rfl rfl (AA (AG (vO true) rfl (AO rfl (AO rfl (AO rfl (AO rfl (AA (BA (vO true) rfl rfl (AA (AG (vO true) rfl (AO rfl (AO rfl (AO rfl (AO rfl (AA (BA (vO true) rfl rfl (AH (AD (AN true rfl rfl (fun _=>AI (AC kR (AA (AF (vI 450) rfl (AH (AD (AQ (AR (AX rfl (CK rfl rfl rfl) (?_)))))))))) (fun h=>by cases h)))))))))))))))))))))))))))))))))))))))))))))))))))))))))))
 have e:(AS c)=(450:Int):=by (unfold AS;((repeat ((refine (if_pos ?_).trans ?_;solve|(simp only [DD,ER,dbs];(repeat (omega))))));rfl))
 exact ⟨_,rfl,a5.keep,by rw [e];exact rfl⟩
open Go.Fw Go.RowKit
set_option maxHeartbeats 4000000 in
set_option maxRecDepth 100000 in
theorem c_new {O:List Nat} (l_v:Value) (l:List Int) (threshold:Int) (wait:Int) (w:World) (a7:AZ Enc.int w O l_v l) (hpre0:l.length≤1000000) (hO:∀ b∈O,b<w.heap.size):CD Try.prog 10 [l_v,vI threshold,vI wait] w (fun v w'=>∃ (x0:List Value),v = .tuple #[.agg x0.toArray,vI ((LA l threshold wait).2)]∧Enc.circle.rd w' (O) x0 ((LA l threshold wait).1)):= by
 have i0:=a7.len_le
 have a7:AZ Enc.int w ([]++O) l_v l:=a7
 have s0:St w O w []:=St.start hO
 refine BK 21 Try.func10 rfl rfl oT (fun F0=>AI (AC kR (AA (CU [vI 0,vI 0,vI 0,nS,nS] LC rfl s0 fun a3 d5 d6 b7 d7 i1 a2=>(?_)))))
 clear d6
 have a7:=a7.mv d7
 refine AA (AF (vI 0) rfl (AH (AD (AI (AC kR (AA (AG (vI threshold) rfl (AA (AG (vI wait) rfl (AA (AG (l_v) rfl (AA (KW [l_v] _ UB rfl (CE 8 Try.func32 rfl rfl oT (fun i2=>AI (AC kR (AA (AF (nS) rfl (AH (AD (AI (AI (AC kR (AA (AG (l_v) rfl (AA (IX U22_ rfl rfl a7 fun a9 c3=>(AH (AD (AN (a9) rfl rfl (fun b0=>?_) (fun b0=>?_)))))))))))))))))) (fun _ _ h=>h))))))))))))))
 ·have h3:a9=true:=by simpa using b0
  refine AI (AC kR (AA (AF (nS) rfl (AH (AD (AQ (AR (AX rfl (CK rfl rfl rfl) (?_)))))))))
  have c4:l=[]:=c3 aS
  have a4:AZ Enc.int d5 ((a3 :: [])++O) (.slice none 0 0) (l):=by rw [c4];exact AZ.nil _ _ _
  refine Exists.intro _ (And.intro rfl (AA (EC (l:=[(1, .tmp 9),(2, .tmp 10),(3, .tmp 12)]) RW LC rfl [(1,vI threshold,[vI threshold]),(2,vI wait,[vI wait]),(3, .slice none 0 0,[.slice none 0 0])] [vI 0,vI threshold,vI wait, .slice none 0 0,nS] rfl ⟨_,rfl,rfl,oT,⟨_,rfl,rfl,oT,⟨_,rfl,(FD a4.oneCell),oT,rfl⟩⟩⟩ (BX (BG (vs:=[vI 0,vI threshold,vI wait, .slice none 0 0,nS]) (.agg #[vI 0,vI threshold,vI wait, .slice none 0 0,nS]) rfl rfl rfl BM (fun u hu=>by simp only [List.mem_cons,List.not_mem_nil,or_false] at hu;rcases hu with rfl|rfl|rfl|rfl|rfl <;> rfl) (by repeat (constructor)) a2 oT b7 fun d8 b8 d9 i3 a5=>(?_))))))
  have a4:=a4.mv d9
  refine AH (AD (AI (AI (AC kR (AA (BP (vs:=[vI 0,vI threshold,vI wait, .slice none 0 0,nS]) U28_ rfl BM rfl a5 rfl (AA (BD (vs:=[vA #[vI 0,vI threshold,vI wait, .slice none 0 0,nS]]) ME (OQ (O:=(a3 :: [])++O) [vI 0,vI threshold,vI wait, .slice none 0 0,nS] (⟨(0:Int),threshold,wait,l,[]⟩:Circle) d8 ⟨_, .slice none 0 0,rfl,a4,(AZ.nil _ _ _)⟩ b8.lt) rfl b8 fun i4 i5 b9 e0 e2 e3=>(?_)))))))))
  obtain rfl:=e3
  have a4:=a4.mv e0
  have a5:=a5.keep e2 (by simp)
  refine AA (AF (vI (AS (⟨(0:Int),threshold,wait,l,[]⟩:Circle))) rfl (AH (AD (AI (AC kR (AA (AG (vI (AS (⟨(0:Int),threshold,wait,l,[]⟩:Circle))) rfl (AA (CS .i64 (AS (⟨(0:Int),threshold,wait,l,[]⟩:Circle)) (0:Int) rfl rfl (AH (AD (AN ((AS (⟨(0:Int),threshold,wait,l,[]⟩:Circle)) != (0:Int)) rfl rfl (fun b1=>?_) (fun b1=>?_)))))))))))))
  ·have h4:AS (⟨(0:Int),threshold,wait,l,[]⟩:Circle)≠(0:Int):=by simpa using b1
   refine AI (AC kR (AA (EC (l:=[]) RW LC rfl [] [vI 0,vI 0,vI 0,nS,nS] rfl rfl (AA (AG (vI (AS (⟨(0:Int),threshold,wait,l,[]⟩:Circle))) rfl (BX (BG (vs:=[vI 0,vI 0,vI 0,nS,nS]) (.agg #[vI 0,vI 0,vI 0,nS,nS]) rfl rfl rfl BM (fun u hu=>by simp only [List.mem_cons,List.not_mem_nil,or_false] at hu;rcases hu with rfl|rfl|rfl|rfl|rfl <;> rfl) (by repeat (constructor)) a5 oT b9 fun i6 e4 i7 i8 c6=>(AA (AF (vI (AS (⟨(0:Int),threshold,wait,l,[]⟩:Circle))) rfl (AH (AD (AQ (AR (AX rfl (EF rfl (EE (vs:=[vI 0,vI 0,vI 0,nS,nS]) rfl U28_ rfl BM rfl c6 rfl) (DX rfl rfl)) (?_)))))))))))))))
   have e5:((LA l threshold wait).1)=(⟨(0:Int),(0:Int),(0:Int),[],[]⟩:Circle):=by exact congrArg (fun p=>p.1) (QC aS)
   have e6:((LA l threshold wait).2)=(AS (⟨(0:Int),threshold,wait,l,[]⟩:Circle)):=by exact congrArg (fun p=>p.2) (QC aS)
   exact ⟨_,rfl,e4.keep,by rw [e5,e6];exact ⟨[vI 0,vI 0,vI 0,nS,nS],rfl,Enc.out (B:=(a3 :: [])) ⟨.slice none 0 0, .slice none 0 0,rfl,(AZ.nil _ _ _),(AZ.nil _ _ _)⟩⟩⟩
  have h5:AS (⟨(0:Int),threshold,wait,l,[]⟩:Circle)=(0:Int):=by simpa using b1
  refine AW (AD (AI (AC kR (AA (BP (vs:=[vI 0,vI threshold,vI wait, .slice none 0 0,nS]) U28_ rfl BM rfl a5 rfl (BX (BG (vs:=[vI 0,vI threshold,vI wait, .slice none 0 0,nS]) (.agg #[vI 0,vI threshold,vI wait, .slice none 0 0,nS]) rfl rfl rfl BM (fun u hu=>by simp only [List.mem_cons,List.not_mem_nil,or_false] at hu;rcases hu with rfl|rfl|rfl|rfl|rfl <;> rfl) (by repeat (constructor)) a5 oT b9 fun i9 e7 e8 j0 c7=>(?_))))))))
  have a4:=a4.mv e8
  refine AA (AF (vI 0) rfl (AH (AD (AQ (AX rfl (EF rfl (EE (vs:=[vI 0,vI threshold,vI wait, .slice none 0 0,nS]) rfl U28_ rfl BM rfl c7 rfl) (DX rfl rfl)) (?_))))))
  have e9:((LA l threshold wait).1)=(⟨(0:Int),threshold,wait,l,[]⟩:Circle):=by exact congrArg (fun p=>p.1) (SD aS)
  have f0:((LA l threshold wait).2)=(0:Int):=by exact congrArg (fun p=>p.2) (SD aS)
  exact ⟨_,rfl,e7.keep,by rw [e9,f0];exact ⟨[vI 0,vI threshold,vI wait, .slice none 0 0,nS],rfl,Enc.out (B:=(a3 :: [])) ⟨_, .slice none 0 0,rfl,a4,(AZ.nil _ _ _)⟩⟩⟩
 have h6:a9=false:=by simpa using b0
 refine AW (AD (AI (AC kR (AA (II (E:=Enc.int) (xs:=[]) U22_ NR z_3 (by decide) [] [] [] rfl rfl rfl (Parts.nil _ _ _) oT b7 fun c0 f1 j1 f2 b2 f3 f4 f5 c8=>(?_))))))
 have b4:∀ b,c0.ownBlock=some b→b≠a3:=fun b hb=>by have:=a2.lt;rw [b2] at hb;cases hb;omega
 have c9:∀ b,c0.ownBlock=some b→b∈(f1 :: (a3 :: [])):=fun b hb=>by rw [b2] at hb;cases hb;simp
 clear f2 b2
 have a7:=a7.mv f4
 have a2:=a2.keep f5 (by simp)
 refine AA (AG (l_v) rfl (AA (DG (E:=Enc.int) (l:=[]) (m:=l) U22_ i_3 rfl (by decide) rfl rfl c8 a7 (fun _ hb=>.inl hb) c9 (by simp;omega) (by simp [maxLen];omega) f3 fun a0 j2 f6 h7 d0 c5 f7 j3 f8 b5=>(?_))))
 rw [List.nil_append] at b5
 have d1:∀ b,a0.ownBlock=some b→b≠a3:=fun b hb=>by rcases d0 with e1|e1 <;> rw [e1] at hb <;> first|(cases hb;have:=a2.lt;omega)|(exact b4 b hb)
 have b6:a3∈f6:=c5 a3 (by repeat (constructor))
 have a2:=a2.keep f8 (by simp only [Option.mem_toList];exact fun e=>absurd rfl (b4 _ e))
 refine AA (AF (a0) rfl (AH (AD (AQ (AX rfl (CK rfl rfl rfl) (Exists.intro _ (And.intro rfl (?_))))))))
 obtain ⟨a8,f9,j4,a1,d2⟩:=b5.publish f7
 have b6:a3∈a8:=d2 a3 (by repeat (assumption)) (fun e=>absurd rfl (d1 _ e))
 have h2:=a1.len_le
 have a2:=a2.keep (Keep.refl [] _) (by simp)
 refine AA (EC (l:=[(1, .tmp 9),(2, .tmp 10),(3, .tmp 12)]) RW LC rfl [(1,vI threshold,[vI threshold]),(2,vI wait,[vI wait]),(3,a0,[a0])] [vI 0,vI threshold,vI wait,a0,nS] rfl ⟨_,rfl,rfl,oT,⟨_,rfl,rfl,oT,⟨_,rfl,(FD a1.oneCell),oT,rfl⟩⟩⟩ (BX (BG (vs:=[vI 0,vI threshold,vI wait,a0,nS]) (.agg #[vI 0,vI threshold,vI wait,a0,nS]) rfl rfl rfl BM (fun u hu=>by simp only [List.mem_cons,List.not_mem_nil,or_false] at hu;rcases hu with rfl|rfl|rfl|rfl|rfl <;> first|rfl|exact a1.oneCell) (by repeat (assumption)) a2 oT f9 fun g0 c1 g1 j5 a6=>(?_))))
 have a1:=a1.mv g1
 refine AH (AD (AI (AI (AC kR (AA (BP (vs:=[vI 0,vI threshold,vI wait,a0,nS]) U28_ rfl BM rfl a6 rfl (AA (BD (vs:=[vA #[vI 0,vI threshold,vI wait,a0,nS]]) ME (OQ (O:=a8++O) [vI 0,vI threshold,vI wait,a0,nS] (⟨(0:Int),threshold,wait,l,[]⟩:Circle) g0 ⟨_, .slice none 0 0,rfl,a1,(AZ.nil _ _ _)⟩ c1.lt) rfl c1 fun j6 j7 c2 g2 g3 g4=>(?_)))))))))
 obtain rfl:=g4
 have a1:=a1.mv g2
 have a6:=a6.keep g3 (by simp)
 refine AA (AF (vI (AS (⟨(0:Int),threshold,wait,l,[]⟩:Circle))) rfl (AH (AD (AI (AC kR (AA (AG (vI (AS (⟨(0:Int),threshold,wait,l,[]⟩:Circle))) rfl (AA (CS .i64 (AS (⟨(0:Int),threshold,wait,l,[]⟩:Circle)) (0:Int) rfl rfl (AH (AD (AN ((AS (⟨(0:Int),threshold,wait,l,[]⟩:Circle)) != (0:Int)) rfl rfl (fun b3=>?_) (fun b3=>?_)))))))))))))
 ·have h8:AS (⟨(0:Int),threshold,wait,l,[]⟩:Circle)≠(0:Int):=by simpa using b3
  refine AI (AC kR (AA (EC (l:=[]) RW LC rfl [] [vI 0,vI 0,vI 0,nS,nS] rfl rfl (AA (AG (vI (AS (⟨(0:Int),threshold,wait,l,[]⟩:Circle))) rfl (BX (BG (vs:=[vI 0,vI 0,vI 0,nS,nS]) (.agg #[vI 0,vI 0,vI 0,nS,nS]) rfl rfl rfl BM (fun u hu=>by simp only [List.mem_cons,List.not_mem_nil,or_false] at hu;rcases hu with rfl|rfl|rfl|rfl|rfl <;> rfl) (by repeat (assumption)) a6 oT c2 fun j8 g5 j9 k0 d3=>(AA (AF (vI (AS (⟨(0:Int),threshold,wait,l,[]⟩:Circle))) rfl (AH (AD (AQ (AR (AX rfl (EF rfl (EE (vs:=[vI 0,vI 0,vI 0,nS,nS]) rfl U28_ rfl BM rfl d3 rfl) (DX rfl rfl)) (?_)))))))))))))))
  have g6:((LA l threshold wait).1)=(⟨(0:Int),(0:Int),(0:Int),[],[]⟩:Circle):=by exact congrArg (fun p=>p.1) (QC aS)
  have g7:((LA l threshold wait).2)=(AS (⟨(0:Int),threshold,wait,l,[]⟩:Circle)):=by exact congrArg (fun p=>p.2) (QC aS)
  exact ⟨_,rfl,g5.keep,by rw [g6,g7];exact ⟨[vI 0,vI 0,vI 0,nS,nS],rfl,Enc.out (B:=a8) ⟨.slice none 0 0, .slice none 0 0,rfl,(AZ.nil _ _ _),(AZ.nil _ _ _)⟩⟩⟩
 have h9:AS (⟨(0:Int),threshold,wait,l,[]⟩:Circle)=(0:Int):=by simpa using b3
 refine AW (AD (AI (AC kR (AA (BP (vs:=[vI 0,vI threshold,vI wait,a0,nS]) U28_ rfl BM rfl a6 rfl (BX (BG (vs:=[vI 0,vI threshold,vI wait,a0,nS]) (.agg #[vI 0,vI threshold,vI wait,a0,nS]) rfl rfl rfl BM (fun u hu=>by simp only [List.mem_cons,List.not_mem_nil,or_false] at hu;rcases hu with rfl|rfl|rfl|rfl|rfl <;> first|rfl|exact a1.oneCell) (by repeat (assumption)) a6 oT c2 fun k1 g8 g9 k2 d4=>(?_))))))))
 have a1:=a1.mv g9
 refine AA (AF (vI 0) rfl (AH (AD (AQ (AX rfl (EF rfl (EE (vs:=[vI 0,vI threshold,vI wait,a0,nS]) rfl U28_ rfl BM rfl d4 rfl) (DX rfl rfl)) (?_))))))
 have h0:((LA l threshold wait).1)=(⟨(0:Int),threshold,wait,l,[]⟩:Circle):=by exact congrArg (fun p=>p.1) (SD aS)
 have h1:((LA l threshold wait).2)=(0:Int):=by exact congrArg (fun p=>p.2) (SD aS)
 exact ⟨_,rfl,g8.keep,by rw [h0,h1];exact ⟨[vI 0,vI threshold,vI wait,a0,nS],rfl,Enc.out (B:=a8) ⟨_, .slice none 0 0,rfl,a1,(AZ.nil _ _ _)⟩⟩⟩
set_option maxHeartbeats 4000000 in
set_option maxRecDepth 100000 in
theorem c_ask {O:List Nat} (c_cs:List Value) (c:Circle) (day:Int) (w:World) (n7:Enc.circle.rd w O c_cs c) (hO:∀ b∈O,b<w.heap.size):CD Try.prog 34 [.agg c_cs.toArray,vI day] w (fun v w'=>∃ (x0:List Value),v = .tuple #[.agg x0.toArray,vI ((BS c day).2.1),vI ((BS c day).2.2)]∧Enc.circle.rd w' (O) x0 ((BS c day).1)):= by
 have n7:Enc.circle.rd w ([]++O) c_cs c:=n7
 have s0:St w O w []:=St.start hO
 refine BK 55 Try.func34 rfl rfl oT (fun F0=>AI (AC kR (AA (DK (E:=Enc.circle) (vA c_cs.toArray) (c_cs) c rfl rfl n7 s0 fun E6 E7 q8 E8 E9 a5=>(AA (CU [vI 0,vI 0,vI 0,nS,nS] LC rfl q8 fun a0 q9 r0 j1 r4 F1 a4=>(?_)))))))
 clear r0
 have a5:=a5.mv r4
 refine AA (AF (vI 0) rfl (AA (AF (vI 0) rfl (AH (AD (AI (AI (AC kR (AA (CP U28_ rfl BM rfl a5 fun g0 n9=>(AA (BD (vs:=[vA g0.toArray]) ME (OQ (O:=(a0 :: [])++O) g0 c q9 n9 j1.lt) rfl j1 fun F2 F3 j2 r5 r6 r7=>(?_)))))))))))))
 obtain rfl:=r7
 have a5:=a5.mv r5
 have a4:=a4.keep r6 (by simp)
 refine AA (AF (vI (AS c)) rfl (AH (AD (AI (AC kR (AA (AG (vI (AS c)) rfl (AA (CS .i64 (AS c) (0:Int) rfl rfl (AH (AD (AN ((AS c) != (0:Int)) rfl rfl (fun d0=>?_) (fun d0=>?_)))))))))))))
 ·have B6:AS c≠(0:Int):=by simpa using d0
  refine AI (AC kR (AA (BP (vs:=[vI 0,vI 0,vI 0,nS,nS]) U28_ rfl BM rfl a4 rfl (AA (AG (vI (AS c)) rfl (BX (BG (vs:=[vI 0,vI 0,vI 0,nS,nS]) (.agg #[vI 0,vI 0,vI 0,nS,nS]) rfl rfl rfl BM (fun u hu=>by simp only [List.mem_cons,List.not_mem_nil,or_false] at hu;rcases hu with rfl|rfl|rfl|rfl|rfl <;> rfl) (by repeat (constructor)) a4 oT j2 fun F4 r8 F5 F6 o0=>(AA (AF (vI 0) rfl (AA (AF (vI (AS c)) rfl (AH (AD (AQ (AR (AX rfl (HK rfl (EE (vs:=[vI 0,vI 0,vI 0,nS,nS]) rfl U28_ rfl BM rfl o0 rfl) (DX rfl rfl) (DX rfl rfl)) (?_)))))))))))))))))
  have r9:((BS c day).1)=(⟨(0:Int),(0:Int),(0:Int),[],[]⟩:Circle):=by exact congrArg (fun p=>p.1) (QI aS)
  have s1:((BS c day).2.1)=(0:Int):=by exact congrArg (fun p=>p.2.1) (QI aS)
  have s2:((BS c day).2.2)=(AS c):=by exact congrArg (fun p=>p.2.2) (QI aS)
  exact ⟨_,rfl,r8.keep,by rw [r9,s1,s2];exact ⟨[vI 0,vI 0,vI 0,nS,nS],rfl,Enc.out (B:=(a0 :: [])) ⟨.slice none 0 0, .slice none 0 0,rfl,(AZ.nil _ _ _),(AZ.nil _ _ _)⟩⟩⟩
 have o1:AS c=(0:Int):=by simpa using d0
 have hrl:=SF o1
 refine AW (AD (AI (AC kR (AA (BI 4 DU (c.recs) rfl a5 (fun _ _ _ h=>CN h) fun F7 o2=>(AA (BW U26_ rfl rfl o2 fun F8 g1=>(?_))))))))
 have:=g1.len_le
 refine AA (CB U26_ rfl g1 (AA (AF (vI (c.recs.length:Int)) rfl (AH (AD (AI (AC kR (AA (EC (l:=[(2, .const (vI 1))]) pl_68 NM rfl [(2,vI 1,[vI 1])] [vI 0,vI 0,vI 1,nS,nS] rfl ⟨_,rfl,rfl,oT,rfl⟩ (AA (CU [vI 0,vI 0,vI 0,nS,nS] NM rfl j2 fun a3 F9 s3 s4 s5 s6 o3=>(?_))))))))))))
 have c4:FM a0 a3:=by show a0≠a3;have:=a4.lt;omega
 clear s3
 have a5:=a5.mv s5
 have a4:=a4.keep s6 (by simp)
 refine BX (BG (vs:=[vI 0,vI 0,vI 1,nS,nS]) (.agg #[vI 0,vI 0,vI 1,nS,nS]) rfl rfl rfl GP (fun u hu=>by simp only [List.mem_cons,List.not_mem_nil,or_false] at hu;rcases hu with rfl|rfl|rfl|rfl|rfl <;> rfl) (by repeat (constructor)) o3 oT s4 fun s7 f0 s8 s9 a6=>(?_))
 have a5:=a5.mv s8
 have a4:=a4.keep s9 (BF c4)
 refine AH (AD (AI (AI (AC kR (AA (AG (vI (c.recs.length:Int)) rfl (AA (HI .i64 (c.recs.length:Int) (0:Int) rfl rfl (AH (AD (AN (decide ((0:Int)<(c.recs.length:Int))) rfl rfl (fun d1=>?_) (fun d1=>?_))))))))))))
 ·have B7:(0:Int)<(c.recs.length:Int):=by simpa using d1
  have hlr:IU c=c.recs[c.recs.length - 1]!:=if_pos oM
  refine AC kR (AA (BI 4 DU (c.recs) rfl a5 (fun _ _ _ h=>CN h) fun G0 o4=>(AA (BW U26_ rfl rfl o4 fun G1 g2=>(?_)))))
  have:=g2.len_le
  refine AA (AG (vI (c.recs.length:Int)) rfl (AA (JM .i64 (c.recs.length:Int) (1:Int) (((c.recs.length - 1:Nat):Int)) rfl rfl (GR oM oM) (AA (DF U26_ GP .i64 ((c.recs.length - 1:Nat):Int) (c.recs.length - 1) rfl rfl rfl g2 oM fun G2 o5=>(AA (CP U68_ rfl GP rfl o5 fun B8 o6=>(?_))))))))
  obtain ⟨j3,j4,rfl,g3,g4⟩:=o6
  have:=g3.len_le
  have:=g4.len_le
  refine BX (BG (vs:=[vI ((c.recs[c.recs.length - 1]!).no),vI ((c.recs[c.recs.length - 1]!).asked),vI ((c.recs[c.recs.length - 1]!).state),j3,j4]) (.agg #[vI ((c.recs[c.recs.length - 1]!).no),vI ((c.recs[c.recs.length - 1]!).asked),vI ((c.recs[c.recs.length - 1]!).state),j3,j4]) rfl rfl rfl GP (fun u hu=>by simp only [List.mem_cons,List.not_mem_nil,or_false] at hu;rcases hu with rfl|rfl|rfl|rfl|rfl <;> first|rfl|exact g3.oneCell|exact g4.oneCell) (by repeat (constructor)) a6 oT f0 fun t0 j5 t2 t3 a7=>(?_))
  have a5:=a5.mv t2
  have a4:=a4.keep t3 (BF c4)
  refine AH (AD (AI (BO (AI (AC kR (AA (AG (vI day) rfl (AA (BC 1 PF rfl (AA (BH U3_ rfl (vI ((c.recs[c.recs.length - 1]!).asked)) rfl a7 rfl (AA (BD (vs:=[vI day,vI ((c.recs[c.recs.length - 1]!).asked)]) MD (ON (O:=(a3 :: (a0 :: []))++O) day ((c.recs[c.recs.length - 1]!).asked) t0 j5.lt) rfl j5 fun G3 G4 c9 t4 j6 t5=>(?_))))))))))))))
  obtain rfl:=t5
  have a5:=a5.mv t4
  have a4:=a4.keep j6 (by simp)
  have a7:=a7.keep j6 (by simp)
  refine AA (GZ (CO day ((c.recs[c.recs.length - 1]!).asked)) rfl (AA (AF (vO (!(CO day ((c.recs[c.recs.length - 1]!).asked)))) rfl (AH (AD (AN (!(CO day ((c.recs[c.recs.length - 1]!).asked))) rfl rfl (fun d2=>?_) (fun d2=>?_)))))))
  ·have B9:(CO day ((c.recs[c.recs.length - 1]!).asked))=false:=by simpa using d2
   refine AI (AC kR (AA (BP (vs:=[vI 0,vI 0,vI 0,nS,nS]) U28_ rfl BM rfl a4 rfl (BX (BG (vs:=[vI 0,vI 0,vI 0,nS,nS]) (.agg #[vI 0,vI 0,vI 0,nS,nS]) rfl rfl rfl BM (fun u hu=>by simp only [List.mem_cons,List.not_mem_nil,or_false] at hu;rcases hu with rfl|rfl|rfl|rfl|rfl <;> rfl) (by repeat (constructor)) a4 oT c9 fun G5 t6 G6 G7 o7=>(AA (AF (vI 0) rfl (AA (AF (vI 1) rfl (AH (AD (AQ (BY (AR (AX rfl (HK rfl (EE (vs:=[vI 0,vI 0,vI 0,nS,nS]) rfl U28_ rfl BM rfl o7 rfl) (DX rfl rfl) (DX rfl rfl)) (?_))))))))))))))))
   have t7:((BS c day).1)=(⟨(0:Int),(0:Int),(0:Int),[],[]⟩:Circle):=by exact congrArg (fun p=>p.1) (KN aS (by rw [hlr];assumption))
   have t8:((BS c day).2.1)=(0:Int):=by exact congrArg (fun p=>p.2.1) (KN aS (by rw [hlr];assumption))
   have t9:((BS c day).2.2)=(1:Int):=by exact congrArg (fun p=>p.2.2) (KN aS (by rw [hlr];assumption))
   exact ⟨_,rfl,t6.keep,by rw [t7,t8,t9];exact ⟨[vI 0,vI 0,vI 0,nS,nS],rfl,Enc.out (B:=(a3 :: (a0 :: []))) ⟨.slice none 0 0, .slice none 0 0,rfl,(AZ.nil _ _ _),(AZ.nil _ _ _)⟩⟩⟩
  have C0:(CO day ((c.recs[c.recs.length - 1]!).asked))=true:=by simpa using d2
  refine AI (AC kR (AA (BC 2 LR rfl (AA (BH U3_ rfl (vI ((c.recs[c.recs.length - 1]!).state)) rfl a7 rfl (AA (EV .i64 ((c.recs[c.recs.length - 1]!).state) (0:Int) rfl rfl (AA (AF (vO (((c.recs[c.recs.length - 1]!).state) == (0:Int))) rfl (AH (AD (AN (((c.recs[c.recs.length - 1]!).state) == (0:Int)) rfl rfl (fun d3=>?_) (fun d3=>?_)))))))))))))
  ·have C1:(c.recs[c.recs.length - 1]!).state=(0:Int):=by simpa using d3
   refine AI (AC kR (AA (BP (vs:=[vI 0,vI 0,vI 0,nS,nS]) U28_ rfl BM rfl a4 rfl (BX (BG (vs:=[vI 0,vI 0,vI 0,nS,nS]) (.agg #[vI 0,vI 0,vI 0,nS,nS]) rfl rfl rfl BM (fun u hu=>by simp only [List.mem_cons,List.not_mem_nil,or_false] at hu;rcases hu with rfl|rfl|rfl|rfl|rfl <;> rfl) (by repeat (constructor)) a4 oT c9 fun G8 u0 G9 H0 o8=>(AA (AF (vI 0) rfl (AA (AF (vI 451) rfl (AH (AD (AQ (BY (AR (AX rfl (HK rfl (EE (vs:=[vI 0,vI 0,vI 0,nS,nS]) rfl U28_ rfl BM rfl o8 rfl) (DX rfl rfl) (DX rfl rfl)) (?_))))))))))))))))
   have u1:((BS c day).1)=(⟨(0:Int),(0:Int),(0:Int),[],[]⟩:Circle):=by exact congrArg (fun p=>p.1) (OP aS (by rw [hlr];assumption) (by rw [hlr];assumption))
   have u2:((BS c day).2.1)=(0:Int):=by exact congrArg (fun p=>p.2.1) (OP aS (by rw [hlr];assumption) (by rw [hlr];assumption))
   have u3:((BS c day).2.2)=(451:Int):=by exact congrArg (fun p=>p.2.2) (OP aS (by rw [hlr];assumption) (by rw [hlr];assumption))
   exact ⟨_,rfl,u0.keep,by rw [u1,u2,u3];exact ⟨[vI 0,vI 0,vI 0,nS,nS],rfl,Enc.out (B:=(a3 :: (a0 :: []))) ⟨.slice none 0 0, .slice none 0 0,rfl,(AZ.nil _ _ _),(AZ.nil _ _ _)⟩⟩⟩
  have C2:(c.recs[c.recs.length - 1]!).state≠(0:Int):=by simpa using d3
  refine AI (AC kR (AA (AG (vI (c.recs.length:Int)) rfl (AA (EV .i64 (c.recs.length:Int) (1024:Int) rfl rfl (AA (AF (vO ((c.recs.length:Int) == (1024:Int))) rfl (AH (AD (AN ((c.recs.length:Int) == (1024:Int)) rfl rfl (fun d4=>?_) (fun d4=>?_)))))))))))
  ·have C3:(c.recs.length:Int)=(1024:Int):=by simpa using d4
   refine AI (AC kR (AA (BP (vs:=[vI 0,vI 0,vI 0,nS,nS]) U28_ rfl BM rfl a4 rfl (BX (BG (vs:=[vI 0,vI 0,vI 0,nS,nS]) (.agg #[vI 0,vI 0,vI 0,nS,nS]) rfl rfl rfl BM (fun u hu=>by simp only [List.mem_cons,List.not_mem_nil,or_false] at hu;rcases hu with rfl|rfl|rfl|rfl|rfl <;> rfl) (by repeat (constructor)) a4 oT c9 fun H1 u4 H2 H3 o9=>(AA (AF (vI 0) rfl (AA (AF (vI 2) rfl (AH (AD (AQ (BY (AR (AX rfl (HK rfl (EE (vs:=[vI 0,vI 0,vI 0,nS,nS]) rfl U28_ rfl BM rfl o9 rfl) (DX rfl rfl) (DX rfl rfl)) (?_))))))))))))))))
   have u5:((BS c day).1)=(⟨(0:Int),(0:Int),(0:Int),[],[]⟩:Circle):=by exact congrArg (fun p=>p.1) (JD aS (by rw [hlr];assumption) (by rw [hlr];assumption) aS)
   have u6:((BS c day).2.1)=(0:Int):=by exact congrArg (fun p=>p.2.1) (JD aS (by rw [hlr];assumption) (by rw [hlr];assumption) aS)
   have u7:((BS c day).2.2)=(2:Int):=by exact congrArg (fun p=>p.2.2) (JD aS (by rw [hlr];assumption) (by rw [hlr];assumption) aS)
   exact ⟨_,rfl,u4.keep,by rw [u5,u6,u7];exact ⟨[vI 0,vI 0,vI 0,nS,nS],rfl,Enc.out (B:=(a3 :: (a0 :: []))) ⟨.slice none 0 0, .slice none 0 0,rfl,(AZ.nil _ _ _),(AZ.nil _ _ _)⟩⟩⟩
  have C4:(c.recs.length:Int)≠(1024:Int):=by simpa using d4
  refine AW (CI (AD (AI (AC kR (AA (CP U28_ rfl BM rfl a5 fun C5 p0=>(?_)))))))
  obtain ⟨b0,j7,rfl,a1,g5⟩:=p0
  have:=a1.len_le
  have:=g5.len_le
  refine BX (BG (vs:=[vI c.epoch,vI c.threshold,vI c.wait,b0,j7]) (.agg #[vI c.epoch,vI c.threshold,vI c.wait,b0,j7]) rfl rfl rfl BM (fun u hu=>by simp only [List.mem_cons,List.not_mem_nil,or_false] at hu;rcases hu with rfl|rfl|rfl|rfl|rfl <;> first|rfl|exact a1.oneCell|exact g5.oneCell) (by repeat (constructor)) a4 oT c9 fun u9 j8 j9 v0 a8=>(?_))
  have a5:=a5.mv j9
  have a1:=a1.mv j9
  have a7:=a7.keep v0 (BF (Ne.symm c4))
  refine AH (AD (AI (AC kR (AA (BI 4 DU (c.recs) rfl a5 (fun _ _ _ h=>CN h) fun H4 p1=>(AA (BW U26_ rfl rfl p1 fun f1 c2=>(?_))))))))
  have:=c2.len_le
  refine AA (KW [f1] _ MH rfl (CE 8 Try.func67 rfl rfl oT (fun H5=>AI (AC kR (AA (AF (nS) rfl (AH (AD (AI (AI (AC kR (AA (AG (f1) rfl (AA (IX U26_ rfl rfl c2 fun d5 n5=>(AH (AD (AN (d5) rfl rfl (fun d6=>?_) (fun d6=>?_)))))))))))))))))) (fun _ _ h=>h))
  ·have C6:d5=true:=by simpa using d6
   refine AI (AC kR (AA (AF (nS) rfl (AH (AD (AQ (AR (AX rfl (CK rfl rfl rfl) (?_)))))))))
   have e2:c.recs=[]:=n5 aS
   have C7:AZ Enc.recovery u9 ((a3 :: (a0 :: []))++O) (.slice none 0 0) (c.recs):=by rw [e2];exact AZ.nil _ _ _
   refine Exists.intro _ (And.intro rfl (AA (AG (vI (c.recs.length:Int)) rfl (AA (AG (vI day) rfl (AA (EC (l:=[(0, .tmp 47),(1, .tmp 48),(2, .const (vI 0))]) pl_68 NM rfl [(0,vI (c.recs.length:Int),[vI (c.recs.length:Int)]),(1,vI day,[vI day]),(2,vI 0,[vI 0])] [vI (c.recs.length:Int),vI day,vI 0,nS,nS] rfl ⟨_,rfl,rfl,oT,⟨_,rfl,rfl,oT,⟨_,rfl,rfl,oT,rfl⟩⟩⟩ (AA (JI (E:=Enc.recovery) (xs:=[.tmp 49]) U26_ GP NM (by decide) [.agg #[vI (c.recs.length:Int),vI day,vI 0,nS,nS]] [[vI (c.recs.length:Int),vI day,vI 0,nS,nS]] [(⟨(c.recs.length:Int),day,(0:Int),[],[]⟩:Recovery)] rfl rfl rfl (Parts.cons rfl ⟨.slice none 0 0, .slice none 0 0,rfl,(AZ.nil _ _ _),(AZ.nil _ _ _)⟩ (Parts.nil _ _ _)) oT j8 fun H6 H7 v1 v2 k0 g6=>(?_))))))))))
   have a1:=a1.mv v2
   have a8:=a8.keep k0 (by simp)
   have a7:=a7.keep k0 (by simp)
   have:=g6.len_le
   refine AA (DG (v:=.slice none 0 0) (E:=Enc.recovery) (l:=c.recs) (m:=[(⟨(c.recs.length:Int),day,(0:Int),[],[]⟩:Recovery)]) U26_ UP rfl (by decide) rfl rfl (by rw [e2];exact EG.nil Enc.recovery 68 _ _ _) g6 (fun _ hb=>.inl hb) (by intro b hb;simp [Value.ownBlock] at hb) (by simp;omega) (by simp [maxLen];omega) v1 fun b8 H8 k1 C8 g7 e3 v3 v4 v5 b4=>(?_))
   have g8:∀ b,b8.ownBlock=some b→b≠a0:=fun b hb=>by rcases g7 with e1|e1 <;> rw [e1] at hb <;> first|(simp [Value.ownBlock] at hb;done)|(cases hb;have:=a8.lt;omega)
   have C9:∀ b,b8.ownBlock=some b→b≠a3:=fun b hb=>by rcases g7 with e1|e1 <;> rw [e1] at hb <;> first|(simp [Value.ownBlock] at hb;done)|(cases hb;have:=a7.lt;omega)
   have b2:a0∈k1:=e3 a0 (by repeat (constructor))
   have b3:a3∈k1:=e3 a3 (by repeat (constructor))
   have a1:=a1.mv v4
   have a8:=a8.keep v5 (by simp only [Option.mem_toList];(simp [Value.ownBlock];done))
   refine AA (BC 4 DU rfl (BX (CJ (b8) rfl rfl b4.oneCell s_26 (by repeat (assumption)) a8 oT v3 fun H9 v6 k2 v7 g9=>(?_))))
   have a1:=a1.mv k2
   have b4:=b4.mv k2 v7 (fun b hb=>BF (g8 b hb))
   refine AH (AD (AI (AC kR (AA (BP (vs:=[vI c.epoch,vI c.threshold,vI c.wait,b0,b8]) U28_ rfl BM rfl g9 rfl (AA (AG (vI (c.recs.length:Int)) rfl (BX (BG (vs:=[vI c.epoch,vI c.threshold,vI c.wait,b0,b8]) (.agg #[vI c.epoch,vI c.threshold,vI c.wait,b0,b8]) rfl rfl rfl BM (fun u hu=>by simp only [List.mem_cons,List.not_mem_nil,or_false] at hu;rcases hu with rfl|rfl|rfl|rfl|rfl <;> first|rfl|exact a1.oneCell|exact b4.oneCell) (by repeat (assumption)) g9 oT v6 fun I0 k3 k4 v8 p2=>(?_))))))))))
   have a1:=a1.mv k4
   have b4:=b4.mv k4 v8 (fun b hb=>BF (g8 b hb))
   refine AA (AF (vI (c.recs.length:Int)) rfl (AA (AF (vI 0) rfl (AH (AD (AQ (AX rfl (HK rfl (EE (vs:=[vI c.epoch,vI c.threshold,vI c.wait,b0,b8]) rfl U28_ rfl BM rfl p2 rfl) (DX rfl rfl) (DX rfl rfl)) (?_))))))))
   have v9:((BS c day).1)=(⟨c.epoch,c.threshold,c.wait,c.guardians,c.recs++([(⟨(c.recs.length:Int),day,(0:Int),[],[]⟩:Recovery)])⟩:Circle):=by exact congrArg (fun p=>p.1) (HD aS (by rw [hlr];assumption) (by rw [hlr];assumption) aS)
   have w0:((BS c day).2.1)=(c.recs.length:Int):=by exact congrArg (fun p=>p.2.1) (HD aS (by rw [hlr];assumption) (by rw [hlr];assumption) aS)
   have w1:((BS c day).2.2)=(0:Int):=by exact congrArg (fun p=>p.2.2) (HD aS (by rw [hlr];assumption) (by rw [hlr];assumption) aS)
   exact ⟨_,rfl,k3.keep,by rw [v9,w0,w1];exact ⟨[vI c.epoch,vI c.threshold,vI c.wait,b0,b8],rfl,⟨_,_,rfl,a1.out,(b4.pub k3)⟩⟩⟩
  have D0:d5=false:=by simpa using d6
  refine AW (AD (AI (AC kR (AA (II (E:=Enc.recovery) (xs:=[]) U26_ GP NM (by decide) [] [] [] rfl rfl rfl (Parts.nil _ _ _) oT j8 fun f2 w2 I1 w3 c5 w4 k5 k6 p3=>(?_))))))
  have h0:∀ b,f2.ownBlock=some b→b≠a0:=fun b hb=>by have:=a8.lt;rw [c5] at hb;cases hb;omega
  have h1:∀ b,f2.ownBlock=some b→b≠a3:=fun b hb=>by have:=a7.lt;rw [c5] at hb;cases hb;omega
  have p4:∀ b,f2.ownBlock=some b→b∈(w2 :: (a3 :: (a0 :: []))):=fun b hb=>by rw [c5] at hb;cases hb;simp
  clear w3 c5
  have c2:=c2.mv k5
  have a1:=a1.mv k5
  have a8:=a8.keep k6 (by simp)
  have a7:=a7.keep k6 (by simp)
  refine AA (AG (f1) rfl (AA (DG (E:=Enc.recovery) (l:=[]) (m:=c.recs) U26_ UP rfl (by decide) rfl rfl p3 c2 (fun _ hb=>.inl hb) p4 (by simp;omega) (by simp [maxLen];omega) w4 fun f3 I2 k7 p5 h2 e4 w5 w6 k8 c6=>(?_))))
  rw [List.nil_append] at c6
  have h3:∀ b,f3.ownBlock=some b→b≠a0:=fun b hb=>by rcases h2 with e1|e1 <;> rw [e1] at hb <;> first|(cases hb;have:=a8.lt;omega)|(exact h0 b hb)
  have p6:∀ b,f3.ownBlock=some b→b≠a3:=fun b hb=>by rcases h2 with e1|e1 <;> rw [e1] at hb <;> first|(cases hb;have:=a7.lt;omega)|(exact h1 b hb)
  have b2:a0∈k7:=e4 a0 (by repeat (constructor))
  have b3:a3∈k7:=e4 a3 (by repeat (constructor))
  have a1:=a1.mv w6
  have a8:=a8.keep k8 (by simp only [Option.mem_toList];exact fun e=>absurd rfl (h0 _ e))
  have a7:=a7.keep k8 (by simp only [Option.mem_toList];exact fun e=>absurd rfl (h1 _ e))
  refine AA (AF (f3) rfl (AH (AD (AQ (AX rfl (CK rfl rfl rfl) (Exists.intro _ (And.intro rfl (AA (AG (vI (c.recs.length:Int)) rfl (AA (AG (vI day) rfl (AA (EC (l:=[(0, .tmp 47),(1, .tmp 48),(2, .const (vI 0))]) pl_68 NM rfl [(0,vI (c.recs.length:Int),[vI (c.recs.length:Int)]),(1,vI day,[vI day]),(2,vI 0,[vI 0])] [vI (c.recs.length:Int),vI day,vI 0,nS,nS] rfl ⟨_,rfl,rfl,oT,⟨_,rfl,rfl,oT,⟨_,rfl,rfl,oT,rfl⟩⟩⟩ (AA (JI (E:=Enc.recovery) (xs:=[.tmp 49]) U26_ GP NM (by decide) [.agg #[vI (c.recs.length:Int),vI day,vI 0,nS,nS]] [[vI (c.recs.length:Int),vI day,vI 0,nS,nS]] [(⟨(c.recs.length:Int),day,(0:Int),[],[]⟩:Recovery)] rfl rfl rfl (Parts.cons rfl ⟨.slice none 0 0, .slice none 0 0,rfl,(AZ.nil _ _ _),(AZ.nil _ _ _)⟩ (Parts.nil _ _ _)) oT w5 fun I3 I4 w7 k9 f4 h4=>(?_))))))))))))))))
  have a1:=a1.mv k9
  have c6:=c6.mv k9 f4 (by simp)
  have a8:=a8.keep f4 (by simp)
  have a7:=a7.keep f4 (by simp)
  have:=h4.len_le
  refine AA (DG (E:=Enc.recovery) (l:=c.recs) (m:=[(⟨(c.recs.length:Int),day,(0:Int),[],[]⟩:Recovery)]) U26_ UP rfl (by decide) rfl rfl c6 h4 (fun _ hb=>.inl hb) p5 (by simp;omega) (by simp [maxLen];omega) w7 fun b9 I5 l0 D1 h5 e5 w8 w9 x1 b5=>(?_))
  have h6:∀ b,b9.ownBlock=some b→b≠a0:=fun b hb=>by rcases h5 with e1|e1 <;> rw [e1] at hb <;> first|(cases hb;have:=a8.lt;omega)|(exact h3 b hb)
  have D2:∀ b,b9.ownBlock=some b→b≠a3:=fun b hb=>by rcases h5 with e1|e1 <;> rw [e1] at hb <;> first|(cases hb;have:=a7.lt;omega)|(exact p6 b hb)
  have b2:a0∈l0:=e5 a0 (by repeat (assumption))
  have b3:a3∈l0:=e5 a3 (by repeat (assumption))
  have a1:=a1.mv w9
  have a8:=a8.keep x1 (by simp only [Option.mem_toList];exact fun e=>absurd rfl (h3 _ e))
  refine AA (BC 4 DU rfl (BX (CJ (b9) rfl rfl b5.oneCell s_26 (by repeat (assumption)) a8 oT w8 fun I6 x2 l1 x3 h7=>(?_))))
  have a1:=a1.mv l1
  have b5:=b5.mv l1 x3 (fun b hb=>BF (h6 b hb))
  refine AH (AD (AI (AC kR (AA (BP (vs:=[vI c.epoch,vI c.threshold,vI c.wait,b0,b9]) U28_ rfl BM rfl h7 rfl (AA (AG (vI (c.recs.length:Int)) rfl (BX (BG (vs:=[vI c.epoch,vI c.threshold,vI c.wait,b0,b9]) (.agg #[vI c.epoch,vI c.threshold,vI c.wait,b0,b9]) rfl rfl rfl BM (fun u hu=>by simp only [List.mem_cons,List.not_mem_nil,or_false] at hu;rcases hu with rfl|rfl|rfl|rfl|rfl <;> first|rfl|exact a1.oneCell|exact b5.oneCell) (by repeat (assumption)) h7 oT x2 fun I7 l2 l3 x4 p7=>(?_))))))))))
  have a1:=a1.mv l3
  have b5:=b5.mv l3 x4 (fun b hb=>BF (h6 b hb))
  refine AA (AF (vI (c.recs.length:Int)) rfl (AA (AF (vI 0) rfl (AH (AD (AQ (AX rfl (HK rfl (EE (vs:=[vI c.epoch,vI c.threshold,vI c.wait,b0,b9]) rfl U28_ rfl BM rfl p7 rfl) (DX rfl rfl) (DX rfl rfl)) (?_))))))))
  have x5:((BS c day).1)=(⟨c.epoch,c.threshold,c.wait,c.guardians,c.recs++([(⟨(c.recs.length:Int),day,(0:Int),[],[]⟩:Recovery)])⟩:Circle):=by exact congrArg (fun p=>p.1) (HD aS (by rw [hlr];assumption) (by rw [hlr];assumption) aS)
  have x6:((BS c day).2.1)=(c.recs.length:Int):=by exact congrArg (fun p=>p.2.1) (HD aS (by rw [hlr];assumption) (by rw [hlr];assumption) aS)
  have x7:((BS c day).2.2)=(0:Int):=by exact congrArg (fun p=>p.2.2) (HD aS (by rw [hlr];assumption) (by rw [hlr];assumption) aS)
  exact ⟨_,rfl,l2.keep,by rw [x5,x6,x7];exact ⟨[vI c.epoch,vI c.threshold,vI c.wait,b0,b9],rfl,⟨_,_,rfl,a1.out,(b5.pub l2)⟩⟩⟩
 have D3:(c.recs.length:Int)≤(0:Int):=by simpa using d1
 have hlr:IU c = ⟨0,0,1,[],[]⟩:=if_neg oM
 refine AW (AD (AI (BO (AI (AC kR (AA (AG (vI day) rfl (AA (BC 1 PF rfl (AA (BH U3_ rfl (vI 0) rfl a6 rfl (AA (BD (vs:=[vI day,vI 0]) MD (ON (O:=(a3 :: (a0 :: []))++O) day (0:Int) s7 f0.lt) rfl f0 fun I8 I9 f5 x8 l4 x9=>(?_))))))))))))))
 obtain rfl:=x9
 have a5:=a5.mv x8
 have a4:=a4.keep l4 (by simp)
 have a6:=a6.keep l4 (by simp)
 refine AA (GZ (CO day (0:Int)) rfl (AA (AF (vO (!(CO day (0:Int)))) rfl (AH (AD (AN (!(CO day (0:Int))) rfl rfl (fun d7=>?_) (fun d7=>?_)))))))
 ·have D4:(CO day (0:Int))=false:=by simpa using d7
  refine AI (AC kR (AA (BP (vs:=[vI 0,vI 0,vI 0,nS,nS]) U28_ rfl BM rfl a4 rfl (BX (BG (vs:=[vI 0,vI 0,vI 0,nS,nS]) (.agg #[vI 0,vI 0,vI 0,nS,nS]) rfl rfl rfl BM (fun u hu=>by simp only [List.mem_cons,List.not_mem_nil,or_false] at hu;rcases hu with rfl|rfl|rfl|rfl|rfl <;> rfl) (by repeat (constructor)) a4 oT f5 fun J0 y0 J1 J2 p8=>(AA (AF (vI 0) rfl (AA (AF (vI 1) rfl (AH (AD (AQ (BY (AR (AX rfl (HK rfl (EE (vs:=[vI 0,vI 0,vI 0,nS,nS]) rfl U28_ rfl BM rfl p8 rfl) (DX rfl rfl) (DX rfl rfl)) (?_))))))))))))))))
  have y1:((BS c day).1)=(⟨(0:Int),(0:Int),(0:Int),[],[]⟩:Circle):=by exact congrArg (fun p=>p.1) (KN aS (by rw [hlr];assumption))
  have y2:((BS c day).2.1)=(0:Int):=by exact congrArg (fun p=>p.2.1) (KN aS (by rw [hlr];assumption))
  have y3:((BS c day).2.2)=(1:Int):=by exact congrArg (fun p=>p.2.2) (KN aS (by rw [hlr];assumption))
  exact ⟨_,rfl,y0.keep,by rw [y1,y2,y3];exact ⟨[vI 0,vI 0,vI 0,nS,nS],rfl,Enc.out (B:=(a3 :: (a0 :: []))) ⟨.slice none 0 0, .slice none 0 0,rfl,(AZ.nil _ _ _),(AZ.nil _ _ _)⟩⟩⟩
 have D5:(CO day (0:Int))=true:=by simpa using d7
 refine AI (AC kR (AA (BC 2 LR rfl (AA (BH U3_ rfl (vI 1) rfl a6 rfl (AA (EV .i64 (1:Int) (0:Int) rfl rfl (AA (AF (vO false) rfl (AH (AD (AN false rfl rfl (fun h=>by cases h) (fun _=>AI (AC kR (AA (AG (vI (c.recs.length:Int)) rfl (AA (EV .i64 (c.recs.length:Int) (1024:Int) rfl rfl (AA (AF (vO ((c.recs.length:Int) == (1024:Int))) rfl (AH (AD (AN ((c.recs.length:Int) == (1024:Int)) rfl rfl (fun d8=>?_) (fun d8=>?_))))))))))))))))))))))))
 ·have D6:(c.recs.length:Int)=(1024:Int):=by simpa using d8
  refine AI (AC kR (AA (BP (vs:=[vI 0,vI 0,vI 0,nS,nS]) U28_ rfl BM rfl a4 rfl (BX (BG (vs:=[vI 0,vI 0,vI 0,nS,nS]) (.agg #[vI 0,vI 0,vI 0,nS,nS]) rfl rfl rfl BM (fun u hu=>by simp only [List.mem_cons,List.not_mem_nil,or_false] at hu;rcases hu with rfl|rfl|rfl|rfl|rfl <;> rfl) (by repeat (constructor)) a4 oT f5 fun J3 y4 J4 J5 p9=>(AA (AF (vI 0) rfl (AA (AF (vI 2) rfl (AH (AD (AQ (BY (AR (AX rfl (HK rfl (EE (vs:=[vI 0,vI 0,vI 0,nS,nS]) rfl U28_ rfl BM rfl p9 rfl) (DX rfl rfl) (DX rfl rfl)) (?_))))))))))))))))
  have y5:((BS c day).1)=(⟨(0:Int),(0:Int),(0:Int),[],[]⟩:Circle):=by exact congrArg (fun p=>p.1) (JD aS (by rw [hlr];assumption) (by rw [hlr];decide) aS)
  have y6:((BS c day).2.1)=(0:Int):=by exact congrArg (fun p=>p.2.1) (JD aS (by rw [hlr];assumption) (by rw [hlr];decide) aS)
  have y7:((BS c day).2.2)=(2:Int):=by exact congrArg (fun p=>p.2.2) (JD aS (by rw [hlr];assumption) (by rw [hlr];decide) aS)
  exact ⟨_,rfl,y4.keep,by rw [y5,y6,y7];exact ⟨[vI 0,vI 0,vI 0,nS,nS],rfl,Enc.out (B:=(a3 :: (a0 :: []))) ⟨.slice none 0 0, .slice none 0 0,rfl,(AZ.nil _ _ _),(AZ.nil _ _ _)⟩⟩⟩
 have D7:(c.recs.length:Int)≠(1024:Int):=by simpa using d8
 refine AW (CI (AD (AI (AC kR (AA (CP U28_ rfl BM rfl a5 fun D8 q0=>(?_)))))))
 obtain ⟨b1,l5,rfl,a2,h8⟩:=q0
 have:=a2.len_le
 have:=h8.len_le
 refine BX (BG (vs:=[vI c.epoch,vI c.threshold,vI c.wait,b1,l5]) (.agg #[vI c.epoch,vI c.threshold,vI c.wait,b1,l5]) rfl rfl rfl BM (fun u hu=>by simp only [List.mem_cons,List.not_mem_nil,or_false] at hu;rcases hu with rfl|rfl|rfl|rfl|rfl <;> first|rfl|exact a2.oneCell|exact h8.oneCell) (by repeat (constructor)) a4 oT f5 fun y8 l6 l7 y9 a9=>(?_))
 have a5:=a5.mv l7
 have a2:=a2.mv l7
 have a6:=a6.keep y9 (BF (Ne.symm c4))
 refine AH (AD (AI (AC kR (AA (BI 4 DU (c.recs) rfl a5 (fun _ _ _ h=>CN h) fun J6 q1=>(AA (BW U26_ rfl rfl q1 fun f6 c3=>(?_))))))))
 have:=c3.len_le
 refine AA (KW [f6] _ MH rfl (CE 8 Try.func67 rfl rfl oT (fun J7=>AI (AC kR (AA (AF (nS) rfl (AH (AD (AI (AI (AC kR (AA (AG (f6) rfl (AA (IX U26_ rfl rfl c3 fun d9 n6=>(AH (AD (AN (d9) rfl rfl (fun e0=>?_) (fun e0=>?_)))))))))))))))))) (fun _ _ h=>h))
 ·have D9:d9=true:=by simpa using e0
  refine AI (AC kR (AA (AF (nS) rfl (AH (AD (AQ (AR (AX rfl (CK rfl rfl rfl) (?_)))))))))
  have e6:c.recs=[]:=n6 aS
  have E0:AZ Enc.recovery y8 ((a3 :: (a0 :: []))++O) (.slice none 0 0) (c.recs):=by rw [e6];exact AZ.nil _ _ _
  refine Exists.intro _ (And.intro rfl (AA (AG (vI (c.recs.length:Int)) rfl (AA (AG (vI day) rfl (AA (EC (l:=[(0, .tmp 47),(1, .tmp 48),(2, .const (vI 0))]) pl_68 NM rfl [(0,vI (c.recs.length:Int),[vI (c.recs.length:Int)]),(1,vI day,[vI day]),(2,vI 0,[vI 0])] [vI (c.recs.length:Int),vI day,vI 0,nS,nS] rfl ⟨_,rfl,rfl,oT,⟨_,rfl,rfl,oT,⟨_,rfl,rfl,oT,rfl⟩⟩⟩ (AA (JI (E:=Enc.recovery) (xs:=[.tmp 49]) U26_ GP NM (by decide) [.agg #[vI (c.recs.length:Int),vI day,vI 0,nS,nS]] [[vI (c.recs.length:Int),vI day,vI 0,nS,nS]] [(⟨(c.recs.length:Int),day,(0:Int),[],[]⟩:Recovery)] rfl rfl rfl (Parts.cons rfl ⟨.slice none 0 0, .slice none 0 0,rfl,(AZ.nil _ _ _),(AZ.nil _ _ _)⟩ (Parts.nil _ _ _)) oT l6 fun J8 J9 z0 z1 l8 h9=>(?_))))))))))
  have a2:=a2.mv z1
  have a9:=a9.keep l8 (by simp)
  have a6:=a6.keep l8 (by simp)
  have:=h9.len_le
  refine AA (DG (v:=.slice none 0 0) (E:=Enc.recovery) (l:=c.recs) (m:=[(⟨(c.recs.length:Int),day,(0:Int),[],[]⟩:Recovery)]) U26_ UP rfl (by decide) rfl rfl (by rw [e6];exact EG.nil Enc.recovery 68 _ _ _) h9 (fun _ hb=>.inl hb) (by intro b hb;simp [Value.ownBlock] at hb) (by simp;omega) (by simp [maxLen];omega) z0 fun c0 K0 l9 E1 i0 e7 z2 z3 z4 b6=>(?_))
  have i1:∀ b,c0.ownBlock=some b→b≠a0:=fun b hb=>by rcases i0 with e1|e1 <;> rw [e1] at hb <;> first|(simp [Value.ownBlock] at hb;done)|(cases hb;have:=a9.lt;omega)
  have E2:∀ b,c0.ownBlock=some b→b≠a3:=fun b hb=>by rcases i0 with e1|e1 <;> rw [e1] at hb <;> first|(simp [Value.ownBlock] at hb;done)|(cases hb;have:=a6.lt;omega)
  have b2:a0∈l9:=e7 a0 (by repeat (constructor))
  have b3:a3∈l9:=e7 a3 (by repeat (constructor))
  have a2:=a2.mv z3
  have a9:=a9.keep z4 (by simp only [Option.mem_toList];(simp [Value.ownBlock];done))
  refine AA (BC 4 DU rfl (BX (CJ (c0) rfl rfl b6.oneCell s_26 (by repeat (assumption)) a9 oT z2 fun K1 z5 m0 z6 i2=>(?_))))
  have a2:=a2.mv m0
  have b6:=b6.mv m0 z6 (fun b hb=>BF (i1 b hb))
  refine AH (AD (AI (AC kR (AA (BP (vs:=[vI c.epoch,vI c.threshold,vI c.wait,b1,c0]) U28_ rfl BM rfl i2 rfl (AA (AG (vI (c.recs.length:Int)) rfl (BX (BG (vs:=[vI c.epoch,vI c.threshold,vI c.wait,b1,c0]) (.agg #[vI c.epoch,vI c.threshold,vI c.wait,b1,c0]) rfl rfl rfl BM (fun u hu=>by simp only [List.mem_cons,List.not_mem_nil,or_false] at hu;rcases hu with rfl|rfl|rfl|rfl|rfl <;> first|rfl|exact a2.oneCell|exact b6.oneCell) (by repeat (assumption)) i2 oT z5 fun K2 m1 m2 z7 q2=>(?_))))))))))
  have a2:=a2.mv m2
  have b6:=b6.mv m2 z7 (fun b hb=>BF (i1 b hb))
  refine AA (AF (vI (c.recs.length:Int)) rfl (AA (AF (vI 0) rfl (AH (AD (AQ (AX rfl (HK rfl (EE (vs:=[vI c.epoch,vI c.threshold,vI c.wait,b1,c0]) rfl U28_ rfl BM rfl q2 rfl) (DX rfl rfl) (DX rfl rfl)) (?_))))))))
  have z8:((BS c day).1)=(⟨c.epoch,c.threshold,c.wait,c.guardians,c.recs++([(⟨(c.recs.length:Int),day,(0:Int),[],[]⟩:Recovery)])⟩:Circle):=by exact congrArg (fun p=>p.1) (HD aS (by rw [hlr];assumption) (by rw [hlr];decide) aS)
  have z9:((BS c day).2.1)=(c.recs.length:Int):=by exact congrArg (fun p=>p.2.1) (HD aS (by rw [hlr];assumption) (by rw [hlr];decide) aS)
  have A0:((BS c day).2.2)=(0:Int):=by exact congrArg (fun p=>p.2.2) (HD aS (by rw [hlr];assumption) (by rw [hlr];decide) aS)
  exact ⟨_,rfl,m1.keep,by rw [z8,z9,A0];exact ⟨[vI c.epoch,vI c.threshold,vI c.wait,b1,c0],rfl,⟨_,_,rfl,a2.out,(b6.pub m1)⟩⟩⟩
 have E3:d9=false:=by simpa using e0
 refine AW (AD (AI (AC kR (AA (II (E:=Enc.recovery) (xs:=[]) U26_ GP NM (by decide) [] [] [] rfl rfl rfl (Parts.nil _ _ _) oT l6 fun f7 A1 K3 A2 c7 A3 m3 m4 q3=>(?_))))))
 have i3:∀ b,f7.ownBlock=some b→b≠a0:=fun b hb=>by have:=a9.lt;rw [c7] at hb;cases hb;omega
 have i4:∀ b,f7.ownBlock=some b→b≠a3:=fun b hb=>by have:=a6.lt;rw [c7] at hb;cases hb;omega
 have q4:∀ b,f7.ownBlock=some b→b∈(A1 :: (a3 :: (a0 :: []))):=fun b hb=>by rw [c7] at hb;cases hb;simp
 clear A2 c7
 have c3:=c3.mv m3
 have a2:=a2.mv m3
 have a9:=a9.keep m4 (by simp)
 have a6:=a6.keep m4 (by simp)
 refine AA (AG (f6) rfl (AA (DG (E:=Enc.recovery) (l:=[]) (m:=c.recs) U26_ UP rfl (by decide) rfl rfl q3 c3 (fun _ hb=>.inl hb) q4 (by simp;omega) (by simp [maxLen];omega) A3 fun f8 K4 m5 q5 i5 e8 A4 A5 m6 c8=>(?_))))
 rw [List.nil_append] at c8
 have i6:∀ b,f8.ownBlock=some b→b≠a0:=fun b hb=>by rcases i5 with e1|e1 <;> rw [e1] at hb <;> first|(cases hb;have:=a9.lt;omega)|(exact i3 b hb)
 have q6:∀ b,f8.ownBlock=some b→b≠a3:=fun b hb=>by rcases i5 with e1|e1 <;> rw [e1] at hb <;> first|(cases hb;have:=a6.lt;omega)|(exact i4 b hb)
 have b2:a0∈m5:=e8 a0 (by repeat (constructor))
 have b3:a3∈m5:=e8 a3 (by repeat (constructor))
 have a2:=a2.mv A5
 have a9:=a9.keep m6 (by simp only [Option.mem_toList];exact fun e=>absurd rfl (i3 _ e))
 have a6:=a6.keep m6 (by simp only [Option.mem_toList];exact fun e=>absurd rfl (i4 _ e))
 refine AA (AF (f8) rfl (AH (AD (AQ (AX rfl (CK rfl rfl rfl) (Exists.intro _ (And.intro rfl (AA (AG (vI (c.recs.length:Int)) rfl (AA (AG (vI day) rfl (AA (EC (l:=[(0, .tmp 47),(1, .tmp 48),(2, .const (vI 0))]) pl_68 NM rfl [(0,vI (c.recs.length:Int),[vI (c.recs.length:Int)]),(1,vI day,[vI day]),(2,vI 0,[vI 0])] [vI (c.recs.length:Int),vI day,vI 0,nS,nS] rfl ⟨_,rfl,rfl,oT,⟨_,rfl,rfl,oT,⟨_,rfl,rfl,oT,rfl⟩⟩⟩ (AA (JI (E:=Enc.recovery) (xs:=[.tmp 49]) U26_ GP NM (by decide) [.agg #[vI (c.recs.length:Int),vI day,vI 0,nS,nS]] [[vI (c.recs.length:Int),vI day,vI 0,nS,nS]] [(⟨(c.recs.length:Int),day,(0:Int),[],[]⟩:Recovery)] rfl rfl rfl (Parts.cons rfl ⟨.slice none 0 0, .slice none 0 0,rfl,(AZ.nil _ _ _),(AZ.nil _ _ _)⟩ (Parts.nil _ _ _)) oT A4 fun K5 K6 A6 m7 f9 i7=>(?_))))))))))))))))
 have a2:=a2.mv m7
 have c8:=c8.mv m7 f9 (by simp)
 have a9:=a9.keep f9 (by simp)
 have a6:=a6.keep f9 (by simp)
 have:=i7.len_le
 refine AA (DG (E:=Enc.recovery) (l:=c.recs) (m:=[(⟨(c.recs.length:Int),day,(0:Int),[],[]⟩:Recovery)]) U26_ UP rfl (by decide) rfl rfl c8 i7 (fun _ hb=>.inl hb) q5 (by simp;omega) (by simp [maxLen];omega) A6 fun c1 K7 m9 E4 i8 e9 A7 A8 A9 b7=>(?_))
 have i9:∀ b,c1.ownBlock=some b→b≠a0:=fun b hb=>by rcases i8 with e1|e1 <;> rw [e1] at hb <;> first|(cases hb;have:=a9.lt;omega)|(exact i6 b hb)
 have E5:∀ b,c1.ownBlock=some b→b≠a3:=fun b hb=>by rcases i8 with e1|e1 <;> rw [e1] at hb <;> first|(cases hb;have:=a6.lt;omega)|(exact q6 b hb)
 have b2:a0∈m9:=e9 a0 (by repeat (assumption))
 have b3:a3∈m9:=e9 a3 (by repeat (assumption))
 have a2:=a2.mv A8
 have a9:=a9.keep A9 (by simp only [Option.mem_toList];exact fun e=>absurd rfl (i6 _ e))
 refine AA (BC 4 DU rfl (BX (CJ (c1) rfl rfl b7.oneCell s_26 (by repeat (assumption)) a9 oT A7 fun K8 B0 n2 B1 j0=>(?_))))
 have a2:=a2.mv n2
 have b7:=b7.mv n2 B1 (fun b hb=>BF (i9 b hb))
 refine AH (AD (AI (AC kR (AA (BP (vs:=[vI c.epoch,vI c.threshold,vI c.wait,b1,c1]) U28_ rfl BM rfl j0 rfl (AA (AG (vI (c.recs.length:Int)) rfl (BX (BG (vs:=[vI c.epoch,vI c.threshold,vI c.wait,b1,c1]) (.agg #[vI c.epoch,vI c.threshold,vI c.wait,b1,c1]) rfl rfl rfl BM (fun u hu=>by simp only [List.mem_cons,List.not_mem_nil,or_false] at hu;rcases hu with rfl|rfl|rfl|rfl|rfl <;> first|rfl|exact a2.oneCell|exact b7.oneCell) (by repeat (assumption)) j0 oT B0 fun K9 n3 n4 B2 q7=>(?_))))))))))
 have a2:=a2.mv n4
 have b7:=b7.mv n4 B2 (fun b hb=>BF (i9 b hb))
 refine AA (AF (vI (c.recs.length:Int)) rfl (AA (AF (vI 0) rfl (AH (AD (AQ (AX rfl (HK rfl (EE (vs:=[vI c.epoch,vI c.threshold,vI c.wait,b1,c1]) rfl U28_ rfl BM rfl q7 rfl) (DX rfl rfl) (DX rfl rfl)) (?_))))))))
 have B3:((BS c day).1)=(⟨c.epoch,c.threshold,c.wait,c.guardians,c.recs++([(⟨(c.recs.length:Int),day,(0:Int),[],[]⟩:Recovery)])⟩:Circle):=by exact congrArg (fun p=>p.1) (HD aS (by rw [hlr];assumption) (by rw [hlr];decide) aS)
 have B4:((BS c day).2.1)=(c.recs.length:Int):=by exact congrArg (fun p=>p.2.1) (HD aS (by rw [hlr];assumption) (by rw [hlr];decide) aS)
 have B5:((BS c day).2.2)=(0:Int):=by exact congrArg (fun p=>p.2.2) (HD aS (by rw [hlr];assumption) (by rw [hlr];decide) aS)
 exact ⟨_,rfl,n3.keep,by rw [B3,B4,B5];exact ⟨[vI c.epoch,vI c.threshold,vI c.wait,b1,c1],rfl,⟨_,_,rfl,a2.out,(b7.pub n3)⟩⟩⟩
set_option maxHeartbeats 4000000 in
set_option maxRecDepth 100000 in
theorem c_approved {O:List Nat} (c_cs:List Value) (c:Circle) (r_a:Addr) (r:Recovery) (w:World) (b1:Enc.circle.rd w O c_cs c) (a2:PT Enc.recovery w O (.pointer (some r_a)) r) (hO:∀ b∈O,b<w.heap.size):CD Try.prog 85 [.agg c_cs.toArray, .pointer (some r_a)] w (fun v _=>v = .bool (LQ c r)):= by
 have b1:Enc.circle.rd w ([]++O) c_cs c:=b1
 have a2:PT Enc.recovery w ([]++O) (.pointer (some r_a)) r:=a2
 have s0:St w O w []:=St.start hO
 refine BK 29 Try.func85 rfl rfl oT (fun F0=>AI (AC kR (AA (DK (E:=Enc.circle) (vA c_cs.toArray) (c_cs) c rfl rfl b1 s0 fun a7 c6 b8 b9 c7 a1=>(?_)))))
 have a2:=a2.mv b9
 refine AA (AF (vO false) rfl (AH (AD (AI (AC kR (AA (AF (vI 0) rfl (AH (AD (AI (AI (AC kR (AA (BI 3 MZ (c.guardians) rfl a1 (fun _ _ _ h=>FO h) fun c8 b2=>(AA (BW U22_ rfl rfl b2 fun a8 a0=>(?_)))))))))))))))))
 have:=a0.len_le
 refine AA (CB U22_ rfl a0 (AA (AG (vI 0) rfl (AH (AD (BO (DJ (fun mI FI wI=>∃ (k:Nat) (B:List Nat),k≤c.guardians.length∧mI=c.guardians.length - k∧(∃ F1,FI=GO F1 [(1,vP (some r_a)),(2,vP (some a7)),(5,vI ((HT r.approved c.guardians k:Nat):Int)),(9,a8),(10,vI (c.guardians.length:Int)),(11,vI ((k:Nat):Int)),(29,undef)])∧St w O wI B∧PT Enc.recovery wI (B++O) (.pointer (some r_a)) (r)∧PT Enc.circle wI (B++O) (.pointer (some a7)) (c)∧AZ Enc.int wI (B++O) (a8) (c.guardians)) (c.guardians.length - (0)) ?_ ?_)))))))
 ·exact ⟨(0),[],oM,rfl,⟨_,BB _ ⟨rfl,rfl,(by rfl),rfl,rfl,(by rfl),rfl,trivial⟩⟩,b8,a2,a1,a0⟩
 intro d5 F c1 hI
 clear a2 a1 a0
 obtain ⟨k,b3,hr0_0,d6,⟨d7,rfl⟩,b4,a2,a1,a0⟩:=hI
 have hcm:=countM_le r.approved c.guardians k
 refine AI (AC kR (AA (DY .i64 ((k:Nat):Int) (c.guardians.length:Int) rfl rfl (AH (AD (AI (AN (decide (((k:Nat):Int)<(c.guardians.length:Int))) rfl rfl (fun a3=>?_) (fun a3=>?_))))))))
 ·have c2:((k:Nat):Int)<(c.guardians.length:Int):=by simpa using a3
  refine AW (AD (AI (BO (AI (AC kR (AA (DF U22_ NR .i64 ((k:Nat):Int) k rfl rfl rfl a0 oM fun c9 b5=>(AA (CA U3_ rfl rfl b5 (AA (AF (vI (c.guardians[k]!)) rfl (AH (AD (AI (AC kR (AA (AG (vP (some r_a)) rfl (AA (EK r_a rfl (AA (o_field0 HE rfl (AA (BI 3 PD (r.approved) rfl a2 (fun _ _ _ h=>JU h) fun d0 b6=>(AA (BW U22_ rfl rfl b6 fun a9 a6=>(?_))))))))))))))))))))))))))
  have:=a6.len_le
  refine AA (AG (vI (c.guardians[k]!)) rfl (AA (BD (vs:=[a9,vI (c.guardians[k]!)]) enter_75 (TS (O:=b3++O) a9 r.approved (c.guardians[k]!) c1 a6 b4.lt) rfl b4 fun d1 d2 b0 a5 d3 c0=>(?_))))
  obtain rfl:=c0
  have a2:=a2.mv a5
  have a1:=a1.mv a5
  have a0:=a0.mv a5
  refine AH (AD (AN (r.approved.contains (c.guardians[k]!)) rfl rfl (fun a4=>?_) (fun a4=>?_)))
  ·have c3:(r.approved.contains (c.guardians[k]!))=true:=by simpa using a4
   refine AC kR (AA (AG (vI ((HT r.approved c.guardians k:Nat):Int)) rfl (AA (DE .i64 ((HT r.approved c.guardians k:Nat):Int) (1:Int) (((HT r.approved c.guardians k+1:Nat):Int)) rfl rfl (GR oM oM) (AA (AF (vI ((HT r.approved c.guardians k+1:Nat):Int)) rfl (AH (CI (AD (AC kR (AA (DE .i64 ((k:Nat):Int) (1:Int) (((k+1:Nat):Int)) rfl rfl (GR oM oM) (AA (AG (vI ((k+1:Nat):Int)) rfl (AH (AD (?_)))))))))))))))))
   exact ⟨_,oM,(k+1),b3,oM,rfl,⟨_,BB _ ⟨rfl,rfl,(by exact congrArg (Value.int _) (by ((rw [RX oM,if_pos aS])))),rfl,rfl,(by rfl),rfl,trivial⟩⟩,b0,a2,a1,a0⟩
  have c4:(r.approved.contains (c.guardians[k]!))=false:=by simpa using a4
  refine AW (CI (AD (AC kR (AA (DE .i64 ((k:Nat):Int) (1:Int) (((k+1:Nat):Int)) rfl rfl (GR oM oM) (AA (AG (vI ((k+1:Nat):Int)) rfl (AH (AD (?_))))))))))
  exact ⟨_,oM,(k+1),b3,oM,rfl,⟨_,BB _ ⟨rfl,rfl,(by exact congrArg (Value.int _) (by ((rw [RX oM,if_neg (by rw [Bool.not_eq_true];assumption)];try rfl)))),rfl,rfl,(by rfl),rfl,trivial⟩⟩,b0,a2,a1,a0⟩
 have c5:(c.guardians.length:Int)≤((k:Nat):Int):=by simpa using a3
 obtain rfl:k=c.guardians.length:=by omega
 refine DI (CF (CF (CY (AD (AI (AC kR (AA (AG (vI ((HT r.approved c.guardians c.guardians.length:Nat):Int)) rfl (AA (BI 1 LV (c.threshold) rfl a1 (fun _ _ _ h=>FN h) fun d4 b7=>(AA (CA U3_ rfl rfl b7 (AA (JK .i64 ((HT r.approved c.guardians c.guardians.length:Nat):Int) c.threshold rfl rfl (AA (AF (vO (decide (c.threshold≤((HT r.approved c.guardians c.guardians.length:Nat):Int)))) rfl (AH (AD (AQ (AX rfl (CK rfl rfl rfl) (?_)))))))))))))))))))))
 have e:(LQ c r)=(decide (c.threshold≤((HT r.approved c.guardians c.guardians.length:Nat):Int))):=rfl
 exact ⟨_,rfl,b4.keep,(by exact congrArg vO e.symm)⟩
end Go.Proofs.Ytjgfokolnkhafaa
