/- What the laws of this part rest on: lemmas, and the walks of the functions. No conditions. -/
import Derived.WalkKit
import Derived.WalkSpells
import Derived.WalkLawsBesides
import Derived.RangeFuncLeaves
import Derived.Maps.AppendAt
import Derived.Deep.AppendLies
import Derived.Deep.Slices
import Derived.OpenShut
import Derived.ProofKit
import Derived.Below
import Derived.ChangeSame
import Derived.Carry
import Derived.RangeFuncRecord
import Derived.Laws.Tables
import Derived.Recover
import Derived.DefersIn
import Derived.Lib.AppendZerosOnto
import Derived.Lib.Overlaps
import Derived.Laws.CopyRow
import Derived.Laws.StructEq
import Derived.ChangeKeysEq
import Derived.OrdersIn
import Derived.Test.YtjpniibleelgiaaRows
import Derived.Test.YtjpniibleelgiaaPE13
set_option linter.unusedSimpArgs false
set_option linter.unusedVariables false
namespace Go.Proofs.Ytjpniibleelgiaa
open Go.Fw
@[ext] structure StateR where
  d:Device
  backups:List (List DeviceOp)
  done:List DeviceOp
def BL (d:Device) (a:Step):DeviceOp:=⟨d.id,d.counter+1,if a.show_ then 2 else 1,((a.copy % 4).toNat:Int),if a.show_ then 0 else ((a.to % 4).toNat:Int),1+((a.token % 4).toNat:Int)⟩
theorem own_show {d:Device} {a:Step} (h:a.show_=true):BL d a = ⟨d.id,d.counter+1,2,((a.copy % 4).toNat:Int),0,1+((a.token % 4).toNat:Int)⟩:=by unfold BL;rw [h];rfl
theorem own_give {d:Device} {a:Step} (h:a.show_=false):BL d a = ⟨d.id,d.counter+1,1,((a.copy % 4).toNat:Int),((a.to % 4).toNat:Int),1+((a.token % 4).toNat:Int)⟩:=by unfold BL;rw [h];rfl
def JJ (d:Device):Bool:=((AI d).2 == 0) || ((AI d).2 == 430)
abbrev FJ (a:Step):Int:=((a.kind % 7).toNat:Int)
def JD (s:StateR) (a:Step):StateR:=
  if a.kind % 7=3 then ⟨s.d,s.backups++[s.d.ops],s.done⟩
  else if a.kind % 7=4 then (if 0<s.backups.length then ⟨BY s.d s.backups[a.at_.toNat % s.backups.length]!,s.backups,s.done⟩ else s)
  else if a.kind % 7=5 then (if JJ s.d then ⟨(AI s.d).1,s.backups,s.done⟩ else s)
  else if a.kind % 7=6 then (if (CB s.d.ops (BQ s.d.id a)).2=0 then ⟨BY s.d (CB s.d.ops (BQ s.d.id a)).1,s.backups,s.done⟩ else s)
  else if (AK s.d (BL s.d a) (FJ a)).2=0 then ⟨(AK s.d (BL s.d a) (FJ a)).1,s.backups,if a.kind % 7=2 then s.done++[BL s.d a] else s.done⟩ else s
theorem pigeon {α:Type} [DecidableEq α]:∀ (a b:List α),a.Nodup→(∀ x∈a,x∈b)→b.length≤a.length→∀ x∈b,x∈a
  | [],b,_,_,hl,x,hx=>by have:b=[]:=List.eq_nil_of_length_eq_zero (by simpa using hl);subst this;simp at hx
  | y :: a,b,hn,hs,hl,x,hx=>by
    obtain ⟨hy,hn⟩:=List.nodup_cons.1 hn
    have hyb:=hs y List.mem_cons_self
    by_cases e:x=y
    · subst e;exact List.mem_cons_self
    · have h1:∀ z∈a,z∈b.erase y:=fun z hz=>(List.mem_erase_of_ne (fun e=>by subst e;exact hy hz)).2 (hs z (List.mem_cons_of_mem _ hz))
      have h2:=List.length_erase_of_mem hyb
      exact List.mem_cons_of_mem _ (pigeon a (b.erase y) hn h1 (by simp only [List.length_cons] at hl;omega) x ((List.mem_erase_of_ne e).2 hx))
theorem NK:∀ (l:List DeviceOp) (lo N:Int),l.Pairwise (fun a b=>a.no<b.no)→(∀ o∈l,lo<o.no∧o.no≤N)→lo≤N→(l.length:Int)≤N - lo
  | [],lo,N,_,_,h=>by simp;omega
  | x :: l,lo,N,hp,hb,h=>by
    obtain ⟨h1,h2⟩:=List.pairwise_cons.1 hp
    have hx:=hb x List.mem_cons_self
    have:=NK l x.no N h2 (fun o ho=>⟨h1 o ho,(hb o (List.mem_cons_of_mem _ ho)).2⟩) (by omega)
    simp only [List.length_cons];omega
structure InvR (id:Int) (s:StateR):Prop where
  id_:s.d.id=id
  c0:0≤s.d.counter
  c1:s.d.counter≤65536
  ops:∀ o∈s.d.ops,o.device=id→o∈s.done
  bks:∀ l∈s.backups,∀ o∈l,o.device=id→o∈s.done
  own:∀ o∈s.done,o.device=id∧1≤o.no∧o.no≤s.d.counter
  inc:s.done.Pairwise (fun a b=>a.no<b.no)
  once:s.done.Pairwise (fun a b=>¬ (a.kind=2∧a.copy=b.copy))
  len:s.d.ops.length≤256
  lens:∀ l∈s.backups,l.length≤256
section
variable {id:Int} {s:StateR} {a:Step}
theorem whole_done (h:InvR id s) (hw:CF s.d=true) (hf:BX s.d=true):∀ o∈s.done,o∈s.d.ops:=by
  have hok:=(MJ.1 hf).2
  have hc:=whole_cnt hw
  rw [cnt_all,h.id_] at hc
  have hn:(s.d.ops.filter (fun o=>o.device == id)).Nodup:=List.Nodup.sublist List.filter_sublist (JI hok.2.2.1)
  have hl:=NK s.done 0 s.d.counter h.inc (fun o ho=>by have:=h.own o ho;omega) h.c0
  intro o ho
  exact (List.mem_filter.1 (pigeon _ s.done hn (fun x hx=>by
    obtain ⟨h1,h2⟩:=List.mem_filter.1 hx
    exact h.ops x h1 (by simpa using h2)) (by omega) o ho)).1
theorem inv_do (h:InvR id s) (h0:0≤id) (h4:id<4) (a:Step):InvR id (JD s a):=by
  unfold JD
  split
  · refine ⟨h.id_,h.c0,h.c1,h.ops,fun l hl o ho hd=>?_,h.own,h.inc,h.once,h.len,fun l hl=>?_⟩
    · rcases List.mem_append.1 hl with hl|hl
      · exact h.bks l hl o ho hd
      · rw [List.mem_singleton.1 hl] at ho;exact h.ops o ho hd
    · rcases List.mem_append.1 hl with hl|hl
      · exact h.lens l hl
      · rw [List.mem_singleton.1 hl];exact h.len
  · split
    · split
      · rename_i hb
        have hm:s.backups[a.at_.toNat % s.backups.length]!∈s.backups:=by
          have:=Nat.mod_lt a.at_.toNat hb
          rw [getElem!_pos s.backups _ this];exact List.getElem_mem this
        exact ⟨h.id_,h.c0,h.c1,fun o ho hd=>h.bks _ hm o ho hd,h.bks,h.own,h.inc,h.once,h.lens _ hm,h.lens⟩
      · exact h
    · split
      · split
        · rename_i hs
          have e:∃ b,(AI s.d).1 = ⟨s.d.id,s.d.counter,s.d.ops,b⟩:=by
            unfold JJ at hs
            cases hf:BX s.d with
            | false=>rw [start_1 hf] at hs;exact absurd hs (by decide)
            | true=>
              cases hh:s.d.halted with
              | true=>rw [IJ hf (.inl hh)];exact ⟨_,rfl⟩
              | false=>
                cases hw:CF s.d with
                | false=>rw [IJ hf (.inr hw)];exact ⟨_,rfl⟩
                | true=>rw [start_3 hf hh hw];exact ⟨s.d.halted,rfl⟩
          obtain ⟨b,e⟩:=e
          rw [e]
          exact ⟨h.id_,h.c0,h.c1,h.ops,h.bks,h.own,h.inc,h.once,h.len,h.lens⟩
        · exact h
      · split
        · split
          · rename_i ha
            have hd:=other_dev (id:=s.d.id) (by rw [h.id_];exact h0) (by rw [h.id_];exact h4) a
            obtain ⟨_,_,h2,h3⟩:=add_ok ha
            refine ⟨h.id_,h.c0,h.c1,fun o ho hd2=>?_,h.bks,h.own,h.inc,h.once,h2.1,h.lens⟩
            rcases (h3 o).1 ho with e|ho
            · subst e;exact absurd (hd2.trans h.id_.symm) hd
            · exact h.ops o ho hd2
          · exact h
        · split
          · rename_i ha
            obtain ⟨a1,a2,a3,a4,a5,a6,a7,a8,a9⟩:=act_ok ha
            have hb:=(MJ.1 a3).1
            rw [act_fst ha]
            by_cases hk:a.kind % 7=2
            · have hc:FJ a=2:=by unfold FJ;rw [hk];rfl
              rw [hc,if_pos (by decide),if_pos rfl,if_pos hk]
              obtain ⟨_,_,g2,g3⟩:=add_ok a9
              have hall:=whole_done h a5 a3
              refine ⟨h.id_,?_,?_,fun o ho hd=>?_,fun l hl o ho hd=>List.mem_append_left _ (h.bks l hl o ho hd),fun o ho=>?_,?_,?_,g2.1,h.lens⟩
              · show 0≤s.d.counter+1;omega
              · show s.d.counter+1≤65536;omega
              · rcases (g3 o).1 ho with e|ho
                · rw [e];exact List.mem_append_right _ List.mem_cons_self
                · exact List.mem_append_left _ (h.ops o ho hd)
              · show o.device=id∧1≤o.no∧o.no≤s.d.counter+1
                rcases List.mem_append.1 ho with ho|ho
                · have:=h.own o ho;exact ⟨this.1,this.2.1,by omega⟩
                · rw [List.mem_singleton.1 ho];exact ⟨a6.trans h.id_,by rw [a7];omega,by rw [a7];omega⟩
              · rw [List.pairwise_append]
                refine ⟨h.inc,List.pairwise_singleton _ _,fun x hx y hy=>?_⟩
                rw [List.mem_singleton.1 hy,a7]
                have:=h.own x hx;omega
              · rw [List.pairwise_append]
                refine ⟨h.once,List.pairwise_singleton _ _,fun x hx y hy=>?_⟩
                rw [List.mem_singleton.1 hy]
                rintro ⟨e1,e2⟩
                have:=List.any_eq_false.1 a8 x (hall x hx)
                simp only [dbs] at this
                exact this ⟨e1,e2⟩
            · have hc:FJ a≠2:=fun e=>hk (by
                unfold FJ at e
                have:(a.kind % 7).toNat=2:=by omega
                exact UInt8.toNat_inj.1 this)
              rw [if_neg hc,if_neg hk]
              refine ⟨h.id_,?_,?_,h.ops,h.bks,fun o ho=>?_,h.inc,h.once,h.len,h.lens⟩
              · show 0≤(if 1≤FJ a then s.d.counter+1 else s.d.counter);split <;> omega
              · show (if 1≤FJ a then s.d.counter+1 else s.d.counter)≤65536;split <;> omega
              · have:=h.own o ho
                refine ⟨this.1,this.2.1,?_⟩
                show o.no≤(if 1≤FJ a then s.d.counter+1 else s.d.counter);split <;> omega
          · exact h
end
def AE (id:Int) (l:List Step):Nat→StateR
  | 0=>⟨(CA id).1,[],[]⟩
  | k+1=>JD (AE id l k) l[k]!
theorem run_inv {id:Int} (h0:0≤id) (h4:id<4) (l:List Step):∀ k,InvR id (AE id l k)
  | 0=>by
    unfold AE
    rw [new_3 h0 h4]
    exact ⟨rfl,by simp,by simp,by simp,by simp,by simp,List.Pairwise.nil,List.Pairwise.nil,by simp,by simp⟩
  | k+1=>inv_do (run_inv h0 h4 l k) h0 h4 _
theorem do_len (s:StateR) (a:Step):(JD s a).backups.length≤s.backups.length+1∧(JD s a).done.length≤s.done.length+1:=by
  unfold JD
  repeat' split
  all_goals simp
  all_goals (split <;> simp)
theorem run_len (id:Int) (l:List Step):∀ k,(AE id l k).backups.length≤k∧(AE id l k).done.length≤k
  | 0=>by simp [AE]
  | k+1=>by
    have:=run_len id l k
    have:=do_len (AE id l k) l[k]!
    show (JD (AE id l k) l[k]!).backups.length≤k+1∧(JD (AE id l k) l[k]!).done.length≤k+1
    omega
open Go.Fw
section
variable {s:StateR} {a:Step}
theorem do_3 (h:a.kind % 7=3):JD s a = ⟨s.d,s.backups++[s.d.ops],s.done⟩:=if_pos h
theorem do_4y (h:a.kind % 7=4) (h2:0<(s.backups.length:Int)):JD s a = ⟨BY s.d s.backups[a.at_.toNat % s.backups.length]!,s.backups,s.done⟩:=by
  unfold JD;rw [if_neg (by rw [h];decide),if_pos h,if_pos (by omega)]
theorem do_4n (h:a.kind % 7=4) (h2:(s.backups.length:Int)≤0):JD s a=s:=by
  unfold JD;rw [if_neg (by rw [h];decide),if_pos h,if_neg (by omega)]
theorem do_5a (h:a.kind % 7=5) (h2:(AI s.d).2=0):JD s a = ⟨(AI s.d).1,s.backups,s.done⟩:=by
  unfold JD;rw [if_neg (by rw [h];decide),if_neg (by rw [h];decide),if_pos h,if_pos (by unfold JJ;rw [h2];rfl)]
theorem do_5b (h:a.kind % 7=5) (h2:(AI s.d).2=430):JD s a = ⟨(AI s.d).1,s.backups,s.done⟩:=by
  unfold JD;rw [if_neg (by rw [h];decide),if_neg (by rw [h];decide),if_pos h,if_pos (by unfold JJ;rw [h2];rfl)]
theorem do_5n (h:a.kind % 7=5) (h2:(AI s.d).2≠0) (h3:(AI s.d).2≠430):JD s a=s:=by
  unfold JD;rw [if_neg (by rw [h];decide),if_neg (by rw [h];decide),if_pos h,if_neg (by unfold JJ;simp [h2,h3])]
theorem do_6y (h:a.kind % 7=6) (h2:(CB s.d.ops (BQ s.d.id a)).2=0):JD s a = ⟨BY s.d (CB s.d.ops (BQ s.d.id a)).1,s.backups,s.done⟩:=by
  unfold JD;rw [if_neg (by rw [h];decide),if_neg (by rw [h];decide),if_neg (by rw [h];decide),if_pos h,if_pos h2]
theorem do_6n (h:a.kind % 7=6) (h2:(CB s.d.ops (BQ s.d.id a)).2≠0):JD s a=s:=by
  unfold JD;rw [if_neg (by rw [h];decide),if_neg (by rw [h];decide),if_neg (by rw [h];decide),if_pos h,if_neg h2]
section
variable (h3:a.kind % 7≠3) (h4:a.kind % 7≠4) (h5:a.kind % 7≠5) (h6:a.kind % 7≠6)
include h3 h4 h5 h6
theorem do_d2 (h:(AK s.d (BL s.d a) (FJ a)).2=0) (h2:a.kind % 7=2):JD s a = ⟨(AK s.d (BL s.d a) (FJ a)).1,s.backups,s.done++[BL s.d a]⟩:=by
  unfold JD;rw [if_neg h3,if_neg h4,if_neg h5,if_neg h6,if_pos h,if_pos h2]
theorem do_d1 (h:(AK s.d (BL s.d a) (FJ a)).2=0) (h2:a.kind % 7≠2):JD s a = ⟨(AK s.d (BL s.d a) (FJ a)).1,s.backups,s.done⟩:=by
  unfold JD;rw [if_neg h3,if_neg h4,if_neg h5,if_neg h6,if_pos h,if_neg h2]
theorem do_dn (h:(AK s.d (BL s.d a) (FJ a)).2≠0):JD s a=s:=by
  unfold JD;rw [if_neg h3,if_neg h4,if_neg h5,if_neg h6,if_neg h]
end
theorem BN (id:Int) (l:List Step) (k:Nat):AE id l (k+1)=JD (AE id l k) l[k]!:=rfl
theorem inv_at {id:Int} (h:InvR id s) {i:Nat} (hi:i<s.done.length):1≤s.done[i]!.no∧s.done[i]!.no≤s.d.counter:=by
  have:=h.own s.done[i]! (by rw [getElem!_pos s.done i hi];exact List.getElem_mem hi)
  exact this.2
theorem LX {id:Int} (h:InvR id s) {k i:Nat} (hk:k<i) (hi:i<s.done.length):s.done[k]!.no<s.done[i]!.no∧¬ (s.done[k]!.kind=2∧s.done[k]!.copy=s.done[i]!.copy):=by
  have h1:=List.pairwise_iff_getElem.1 h.inc k i (by omega) hi hk
  have h2:=List.pairwise_iff_getElem.1 h.once k i (by omega) hi hk
  rw [getElem!_pos s.done i hi,getElem!_pos s.done k (by omega)]
  exact ⟨h1,h2⟩
theorem inv_bk {id:Int} (h:InvR id s) {k:Nat} (hk:k<s.backups.length):s.backups[k]!.length≤256:=by
  have:=h.lens s.backups[k]! (by rw [getElem!_pos s.backups k hk];exact List.getElem_mem hk)
  exact this
end
open Go.Fw Go.RowKit
set_option maxHeartbeats 4000000 in
set_option maxRecDepth 100000 in
theorem c_ownL {O:List Nat} (d_cs:List Value) (d:Device) (ac_cs:List Value) (ac:Step) (w:World) (b1:Enc.device.rd w O d_cs d) (a5:Enc.step.rd w O ac_cs ac) (hpre0:0≤d.counter) (hpre1:d.counter≤65536) (hO:∀ b∈O,b<w.heap.size):BV Try.prog 87 [.agg d_cs.toArray, .agg ac_cs.toArray] w (fun v w'=>∃ (x0:List Value),v = .agg x0.toArray∧Enc.devop.rd w' (O) x0 (BL d ac)):= by
 have b1:Enc.device.rd w ([]++O) d_cs d:=b1
 have a5:Enc.step.rd w ([]++O) ac_cs ac:=a5
 have s0:St w O w []:=St.start hO
 have h2_:=HP ac.to
 have h3_:=HP ac.copy
 have h4_:=HP ac.token
 refine BI 30 Try.func87 rfl rfl oT (fun F0=>AF (AC kR (AB (CQ (E:=Enc.device) (vA d_cs.toArray) (d_cs) d rfl rfl b1 s0 fun e6 c5 c6 c7 e7 a2=>(?_)))))
 have a5:Enc.step.rd c5 ([]++O) ac_cs (ac):=Enc.mv Enc.step (x:=ac) a5 c7
 refine AB (CQ (E:=Enc.step) (vA ac_cs.toArray) (ac_cs) ac rfl rfl a5 c6 fun e8 e9 c8 c9 f0 a1=>(?_))
 have a2:=a2.mv c9
 refine AB (BW [vI 0,vI 0,vI 0,vI 0,vI 0,vI 0] HV rfl c8 fun a3 f1 d0 d1 a9 f2 a0=>(?_))
 clear d0
 have a2:=a2.mv a9
 have a1:=a1.mv a9
 refine AD (AA (AF (AC kR (AB (AS 0 HN (d.id) rfl a2 (fun _ _ _ h=>DY h) fun f3 b2=>(AB (BB U3_ rfl rfl b2 (AB (AS 1 FT (d.counter) rfl a2 (fun _ _ _ h=>DN h) fun f4 b3=>(AB (BB U3_ rfl rfl b3 (AB (CJ .i64 d.counter (1:Int) (d.counter+(1:Int)) rfl rfl (EI oM oM) (AB (AS 1 f_79_1 (ac.copy) rfl a1 (fun _ _ _ h=>LD h) fun f5 b4=>(AB (FG U5_ rfl rfl b4 (AB (GP ac.copy (4:UInt8) (by decide) rfl rfl (AB (GH .u8 .i64 U5_ U3_ ((ac.copy % 4).toNat:Int) ((ac.copy % 4).toNat:Int) rfl (by have:=(ac.copy % 4).toNat_lt;exact EI oM rfl) (AB (AS 2 f_79_2 (ac.to) rfl a1 (fun _ _ _ h=>LG h) fun f6 b5=>(AB (FG U5_ rfl rfl b5 (AB (GP ac.to (4:UInt8) (by decide) rfl rfl (AB (GH .u8 .i64 U5_ U3_ ((ac.to % 4).toNat:Int) ((ac.to % 4).toNat:Int) rfl (by have:=(ac.to % 4).toNat_lt;exact EI oM rfl) (AB (AS 3 f_79_3 (ac.token) rfl a1 (fun _ _ _ h=>LC h) fun f7 b6=>(AB (FG U5_ rfl rfl b6 (AB (GP ac.token (4:UInt8) (by decide) rfl rfl (AB (GH .u8 .i64 U5_ U3_ ((ac.token % 4).toNat:Int) ((ac.token % 4).toNat:Int) rfl (by have:=(ac.token % 4).toNat_lt;exact EI oM rfl) (AB (CJ .i64 (1:Int) ((ac.token % 4).toNat:Int) ((1:Int)+((ac.token % 4).toNat:Int)) rfl rfl (EI oM oM) (AB (DP (l:=[(0, .tmp 7),(1, .tmp 10),(2, .const (vI 1)),(3, .tmp 14),(4, .tmp 18),(5, .tmp 23)]) pl_40 HV rfl [(0,vI d.id,[vI d.id]),(1,vI (d.counter+(1:Int)),[vI (d.counter+(1:Int))]),(2,vI 1,[vI 1]),(3,vI ((ac.copy % 4).toNat:Int),[vI ((ac.copy % 4).toNat:Int)]),(4,vI ((ac.to % 4).toNat:Int),[vI ((ac.to % 4).toNat:Int)]),(5,vI ((1:Int)+((ac.token % 4).toNat:Int)),[vI ((1:Int)+((ac.token % 4).toNat:Int))])] [vI d.id,vI (d.counter+(1:Int)),vI 1,vI ((ac.copy % 4).toNat:Int),vI ((ac.to % 4).toNat:Int),vI ((1:Int)+((ac.token % 4).toNat:Int))] rfl ⟨_,rfl,rfl,oT,⟨_,rfl,rfl,oT,⟨_,rfl,rfl,oT,⟨_,rfl,rfl,oT,⟨_,rfl,rfl,oT,⟨_,rfl,rfl,oT,rfl⟩⟩⟩⟩⟩⟩ (AB (BW [vI 0,vI 0,vI 0,vI 0,vI 0,vI 0] HV rfl d1 fun a4 f8 d2 d3 d4 d5 b7=>(?_))))))))))))))))))))))))))))))))))))))))))))
 have a6:CU a3 a4:=by show a3≠a4;have:=a0.lt;omega
 clear d2
 have a1:=a1.mv d4
 have a0:=a0.keep d5 (by simp)
 refine BU (AR (vs:=[vI d.id,vI (d.counter+(1:Int)),vI 1,vI ((ac.copy % 4).toNat:Int),vI ((ac.to % 4).toNat:Int),vI ((1:Int)+((ac.token % 4).toNat:Int))]) (.agg #[vI d.id,vI (d.counter+(1:Int)),vI 1,vI ((ac.copy % 4).toNat:Int),vI ((ac.to % 4).toNat:Int),vI ((1:Int)+((ac.token % 4).toNat:Int))]) rfl rfl rfl CH (fun u hu=>by simp only [List.mem_cons,List.not_mem_nil,or_false] at hu;rcases hu with rfl|rfl|rfl|rfl|rfl|rfl <;> rfl) (by repeat (constructor)) b7 oT d3 fun f9 b0 d6 d7 a8=>(?_))
 have a1:=a1.mv d6
 have a0:=a0.keep d7 (AT a6)
 refine AD (AA (AF (AF (AC kR (AB (AS 5 f_79_5 (ac.show_) rfl a1 (fun _ _ _ h=>Enc_step_f5 h) fun g0 b8=>(AB (LI U4_ rfl rfl b8 (AD (AA (AP (ac.show_) rfl rfl (fun a7=>?_) (fun a7=>?_))))))))))))
 ·have e4:ac.show_=true:=by simpa using a7
  refine AC kR (AB (AM 2 HM rfl (BU (CS (vI 2) rfl rfl rfl s_3 (by repeat (constructor)) a8 oT b0 fun g1 d8 g2 d9 b9=>(?_)))))
  have a0:=a0.keep d9 (AT a6)
  refine AB (AM 4 KM rfl (BU (CS (vI 0) rfl rfl rfl s_3 (by repeat (constructor)) b9 oT d8 fun g3 e0 g4 e1 c2=>(?_))))
  have a0:=a0.keep e1 (AT a6)
  refine AD (AA (AF (AC kR (AB (AU (vs:=[vI d.id,vI (d.counter+(1:Int)),vI 2,vI ((ac.copy % 4).toNat:Int),vI 0,vI ((1:Int)+((ac.token % 4).toNat:Int))]) U40_ rfl CH rfl c2 rfl (BU (AR (vs:=[vI d.id,vI (d.counter+(1:Int)),vI 2,vI ((ac.copy % 4).toNat:Int),vI 0,vI ((1:Int)+((ac.token % 4).toNat:Int))]) (.agg #[vI d.id,vI (d.counter+(1:Int)),vI 2,vI ((ac.copy % 4).toNat:Int),vI 0,vI ((1:Int)+((ac.token % 4).toNat:Int))]) rfl rfl rfl CH (fun u hu=>by simp only [List.mem_cons,List.not_mem_nil,or_false] at hu;rcases hu with rfl|rfl|rfl|rfl|rfl|rfl <;> rfl) (by repeat (constructor)) a0 oT e0 fun g5 e2 g6 g7 c3=>(AD (AA (AN (AY rfl (GF (vs:=[vI d.id,vI (d.counter+(1:Int)),vI 2,vI ((ac.copy % 4).toNat:Int),vI 0,vI ((1:Int)+((ac.token % 4).toNat:Int))]) rfl rfl U40_ rfl CH rfl c3 rfl) (?_))))))))))))
  have e:(BL d ac)=(⟨d.id,d.counter+(1:Int),(2:Int),((ac.copy % 4).toNat:Int),(0:Int),(1:Int)+((ac.token % 4).toNat:Int)⟩:DeviceOp):=by exact own_show aS
  exact ⟨_,rfl,e2.keep,by rw [e];exact ⟨[vI d.id,vI (d.counter+(1:Int)),vI 2,vI ((ac.copy % 4).toNat:Int),vI 0,vI ((1:Int)+((ac.token % 4).toNat:Int))],rfl,Enc.out (B:=(a4 :: (a3 :: []))) rfl⟩⟩
 have e5:ac.show_=false:=by simpa using a7
 refine AV (AA (AF (AC kR (AB (AU (vs:=[vI d.id,vI (d.counter+(1:Int)),vI 1,vI ((ac.copy % 4).toNat:Int),vI ((ac.to % 4).toNat:Int),vI ((1:Int)+((ac.token % 4).toNat:Int))]) U40_ rfl CH rfl a8 rfl (BU (AR (vs:=[vI d.id,vI (d.counter+(1:Int)),vI 1,vI ((ac.copy % 4).toNat:Int),vI ((ac.to % 4).toNat:Int),vI ((1:Int)+((ac.token % 4).toNat:Int))]) (.agg #[vI d.id,vI (d.counter+(1:Int)),vI 1,vI ((ac.copy % 4).toNat:Int),vI ((ac.to % 4).toNat:Int),vI ((1:Int)+((ac.token % 4).toNat:Int))]) rfl rfl rfl CH (fun u hu=>by simp only [List.mem_cons,List.not_mem_nil,or_false] at hu;rcases hu with rfl|rfl|rfl|rfl|rfl|rfl <;> rfl) (by repeat (constructor)) a0 oT b0 fun g8 e3 g9 h0 c4=>(AD (AA (AN (AY rfl (GF (vs:=[vI d.id,vI (d.counter+(1:Int)),vI 1,vI ((ac.copy % 4).toNat:Int),vI ((ac.to % 4).toNat:Int),vI ((1:Int)+((ac.token % 4).toNat:Int))]) rfl rfl U40_ rfl CH rfl c4 rfl) (?_))))))))))))
 have e:(BL d ac)=(⟨d.id,d.counter+(1:Int),(1:Int),((ac.copy % 4).toNat:Int),((ac.to % 4).toNat:Int),(1:Int)+((ac.token % 4).toNat:Int)⟩:DeviceOp):=by exact own_give aS
 exact ⟨_,rfl,e3.keep,by rw [e];exact ⟨[vI d.id,vI (d.counter+(1:Int)),vI 1,vI ((ac.copy % 4).toNat:Int),vI ((ac.to % 4).toNat:Int),vI ((1:Int)+((ac.token % 4).toNat:Int))],rfl,Enc.out (B:=(a4 :: (a3 :: []))) rfl⟩⟩
end Go.Proofs.Ytjpniibleelgiaa
namespace Go.Fw
open Go.RowKit
section
variable {P:Program} {n:Nat} {Q:Exit→Fr→World→Prop} {ro:Option Nat}
end
section
variable {P:Program} {ty:TypeId} {F:Fr} {w:World} {K:Value→World→Prop} {Z:List PanicEntry→World→Prop} {x y:Operand}
theorem o_loadOL {α:Type} {E:Enc α} {t T base b j:Nat} {D:TypeDesc} {O:List Nat} {v:Value} {l:List (List α)} (ht:P.underlying t=some D) (hD:EU D=true) (hx:CP F x = .pointer (some ⟨b,j*(Enc.slice E).size,none⟩)) (ho:EJ (Enc.slice E) T base O w v l) (hb:v.ownBlock=some b) (hj:j<l.length) (h:∀ u,CG E w O u l[j]!→K u w):CX P (.load t x) ty F w K Z:=by
  obtain ⟨u,hc,hr⟩:=ho.cell1 rfl hb hj
  obtain ⟨u',e,hr⟩:=hr
  cases e
  have:=KJ (P:=P) ht hD hc
  exact BM (v:=u) (by simp only [execOp,hx,Sem.run_bind,this,Result.andThen_ok,Sem.run_pure]) (h u (by rw [getElem!_pos l j hj];exact hr))
end
end Go.Fw
namespace Go.Proofs.Ytjpniibleelgiaa
open Go.Fw Go.RowKit
set_option maxHeartbeats 4000000 in
set_option maxRecDepth 100000 in
theorem MP {O:List Nat} (id:UInt8) (steps_v:Value) (steps:List Step) (w:World) (a4:CG Enc.step w O steps_v steps) (hO:∀ b∈O,b<w.heap.size):BV Try.prog 14 [vB id,steps_v] w (fun v _=>v = .bool (true)):= by
 have S9:=a4.len_le
 have a4:CG Enc.step w ([]++O) steps_v steps:=a4
 have s0:St w O w []:=St.start hO
 have hid4:=HP id
 refine BI 112 Try.func14 rfl rfl oT (fun F0=>AF (AC kR (AB (AG (vO false) rfl (AD (AA (AF (AF (AC kR (AB (BD (vs:=[]) enter_39 (c_sane43 (O:=[]++O) w s0.lt) rfl s0 fun Y3 J5 q2 J6 Y4 J7=>(?_))))))))))))
 obtain rfl:=J7
 have a4:=a4.mv J6
 refine AB (EF true rfl (AD (AA (AP false rfl rfl (fun h=>by cases h) (fun _=>AV (AA (AF (AF (AC kR (AB (AH (steps_v) rfl (AB (DI U74_ rfl a4 (AB (HC .i64 (steps.length:Int) (30:Int) rfl rfl (AD (AA (AP (decide ((30:Int)<(steps.length:Int))) rfl rfl (fun n7=>?_) (fun n7=>?_)))))))))))))))))))
 ·have T6:(30:Int)<(steps.length:Int):=by simpa using n7
  refine AF (AC kR (AB (AG (vO true) rfl (AD (AA (AN (AO (AY rfl (CM rfl rfl rfl) (?_)))))))))
  exact ⟨_,rfl,q2.keep,rfl⟩
 have T7:(steps.length:Int)≤(30:Int):=by simpa using n7
 refine AV (AA (AF (AC kR (AB (AH (vB id) rfl (AB (GP id (4:UInt8) (by decide) rfl rfl (AB (GH .u8 .i64 U5_ U3_ ((id % 4).toNat:Int) ((id % 4).toNat:Int) rfl (by have:=(id % 4).toNat_lt;exact EI oM rfl) (AB (BD (vs:=[vI ((id % 4).toNat:Int)]) MK (c_new43 (O:=[]++O) ((id % 4).toNat:Int) J5 q2.lt) rfl q2 fun Y5 Y6 J8 J9 Y7 K0=>(?_))))))))))))
 obtain ⟨n8,rfl,n9⟩:=K0
 have a4:=a4.mv J9
 refine AB (AH (vT #[vA n8.toArray,vI ((CA ((id % 4).toNat:Int)).2)]) rfl (AB (BJ (vA n8.toArray) rfl rfl (AB (BJ (vI ((CA ((id % 4).toNat:Int)).2)) rfl rfl (AB (BW [vI 0,vI 0,nS,vO false] HJ rfl J8 fun i9 K1 K2 K3 w0 Y8 z8=>(?_))))))))
 clear K2
 have a4:=a4.mv w0
 have n9:Enc.device.rd K1 ((i9 :: [])++O) n8 ((CA ((id % 4).toNat:Int)).1):=Enc.mv Enc.device (x:=(CA ((id % 4).toNat:Int)).1) n9 w0
 obtain ⟨e2,rfl,d6⟩:=n9
 have:=d6.len_le
 refine BU (AR (vs:=[vI (((CA ((id % 4).toNat:Int)).1).id),vI (((CA ((id % 4).toNat:Int)).1).counter),e2,vO (((CA ((id % 4).toNat:Int)).1).halted)]) (.agg #[vI (((CA ((id % 4).toNat:Int)).1).id),vI (((CA ((id % 4).toNat:Int)).1).counter),e2,vO (((CA ((id % 4).toNat:Int)).1).halted)]) rfl rfl rfl BS (fun u hu=>by simp only [List.mem_cons,List.not_mem_nil,or_false] at hu;rcases hu with rfl|rfl|rfl|rfl <;> first|rfl|exact d6.oneCell) (by repeat (constructor)) z8 oT K3 fun Y9 K4 w2 Z0 t0=>(?_))
 have a4:=a4.mv w2
 have d6:=d6.mv w2
 refine AB (AG (vI ((CA ((id % 4).toNat:Int)).2)) rfl (AD (AA (AF (AF (AC kR (AB (AH (vI ((CA ((id % 4).toNat:Int)).2)) rfl (AB (ER .i64 ((CA ((id % 4).toNat:Int)).2) (0:Int) rfl rfl (AD (AA (?_)))))))))))))
 have z9:(((CA ((id % 4).toNat:Int)).2) != (0:Int))=false:=(by rw [new_3 oM oM];rfl)
 rw [z9]
 refine AP false rfl rfl (fun h=>by cases h) (fun _=>AV (AA (AF (AC kR (AB (AU (vs:=[vI (((CA ((id % 4).toNat:Int)).1).id),vI (((CA ((id % 4).toNat:Int)).1).counter),e2,vO (((CA ((id % 4).toNat:Int)).1).halted)]) U31_ rfl BS rfl t0 rfl (AB (DP (l:=[(0, .tmp 25)]) pl_76 z_76 rfl [(0,vA #[vI (((CA ((id % 4).toNat:Int)).1).id),vI (((CA ((id % 4).toNat:Int)).1).counter),e2,vO (((CA ((id % 4).toNat:Int)).1).halted)],[vI (((CA ((id % 4).toNat:Int)).1).id),vI (((CA ((id % 4).toNat:Int)).1).counter),e2,vO (((CA ((id % 4).toNat:Int)).1).halted)])] [vI (((CA ((id % 4).toNat:Int)).1).id),vI (((CA ((id % 4).toNat:Int)).1).counter),e2,vO (((CA ((id % 4).toNat:Int)).1).halted),nS,nS] rfl ⟨_,rfl,rfl,oT,rfl⟩ (AB (BW [vI 0,vI 0,nS,vO false,nS,nS] z_76 rfl K4 fun b3 Z1 K5 K6 w3 Z2 A0=>(?_)))))))))))
 have T8:CU i9 b3:=by show i9≠b3;have:=t0.lt;omega
 clear K5
 have a4:=a4.mv w3
 have d6:=d6.mv w3
 refine BU (AR (vs:=[vI (((CA ((id % 4).toNat:Int)).1).id),vI (((CA ((id % 4).toNat:Int)).1).counter),e2,vO (((CA ((id % 4).toNat:Int)).1).halted),nS,nS]) (.agg #[vI (((CA ((id % 4).toNat:Int)).1).id),vI (((CA ((id % 4).toNat:Int)).1).counter),e2,vO (((CA ((id % 4).toNat:Int)).1).halted),nS,nS]) rfl rfl rfl DQ (fun u hu=>by simp only [List.mem_cons,List.not_mem_nil,or_false] at hu;rcases hu with rfl|rfl|rfl|rfl|rfl|rfl <;> first|rfl|exact d6.oneCell) (by repeat (constructor)) A0 oT K6 fun Z3 K7 w4 Z4 A1=>(?_))
 have a4:=a4.mv w4
 have d6:=d6.mv w4
 refine AD (AA (AF (AF (AC kR (AB (AG (vI 0) rfl (AD (AA (BP (DW (fun mI FI wI=>∃ (k:Nat) (a2:Value) (a0:Value) (a5:Value) (B:List Nat),k≤steps.length∧mI=steps.length - k∧(∃ F1,FI=FQ F1 [(1,steps_v),(7,vP (some ⟨b3,0,none⟩)),(8,vI ((k:Nat):Int)),(112,undef)])∧St w O wI B∧EJ (Enc.slice Enc.devop) 26 w.heap.size (B++O) wI a2 ((AE ((id % 4).toNat:Int) steps k).backups)∧(∀ b,a2.ownBlock=some b→b∈B)∧EJ Enc.devop 40 w.heap.size (B++O) wI a0 ((AE ((id % 4).toNat:Int) steps k).done)∧(∀ b,a0.ownBlock=some b→b∈B)∧CG Enc.devop wI (B++O) a5 ((AE ((id % 4).toNat:Int) steps k).d.ops)∧CG Enc.step wI (B++O) (steps_v) (steps)∧EA wI b3 76 [vI ((AE ((id % 4).toNat:Int) steps k).d.id),vI ((AE ((id % 4).toNat:Int) steps k).d.counter),a5,vO ((AE ((id % 4).toNat:Int) steps k).d.halted),a2,a0]∧b3∈B∧(∀ b,a2.ownBlock=some b→b≠b3)∧(∀ b,a0.ownBlock=some b→b≠b3)∧(∀ b,a2.ownBlock=some b→a0.ownBlock≠some b)∧(∀ b,a0.ownBlock=some b→a2.ownBlock≠some b)) (steps.length - (0)) ?_ ?_))))))))))
 ·exact ⟨(0),(.slice none 0 0),(.slice none 0 0),e2,(b3 :: (i9 :: [])),oM,rfl,⟨_,AQ _ ⟨rfl,rfl,(by rfl),rfl,trivial⟩⟩,K7,(by rw [show (AE ((id % 4).toNat:Int) steps (0)).backups=[] from rfl];exact (EJ.nil (Enc.slice Enc.devop) 26 _ _ _)),(by intro b hb;simp [Value.ownBlock] at hb),(by rw [show (AE ((id % 4).toNat:Int) steps (0)).done=[] from rfl];exact (EJ.nil Enc.devop 40 _ _ _)),(by intro b hb;simp [Value.ownBlock] at hb),(by rw [show (AE ((id % 4).toNat:Int) steps (0)).d.ops=((CA ((id % 4).toNat:Int)).1).ops from rfl];exact d6),a4,(by rw [show ([vI ((AE ((id % 4).toNat:Int) steps (0)).d.id),vI ((AE ((id % 4).toNat:Int) steps (0)).d.counter),e2,vO ((AE ((id % 4).toNat:Int) steps (0)).d.halted),nS,nS]:List Value)=[vI (((CA ((id % 4).toNat:Int)).1).id),vI (((CA ((id % 4).toNat:Int)).1).counter),e2,vO (((CA ((id % 4).toNat:Int)).1).halted),nS,nS] from by rfl];exact A1),(by (repeat (exact List.mem_cons_self))),(fun b hb=>by (simp [Value.ownBlock] at hb;done)),(fun b hb=>by (simp [Value.ownBlock] at hb;done)),(fun b hb=>by (simp [Value.ownBlock] at hb;done)),(fun b hb=>by (simp [Value.ownBlock] at hb;done))⟩
 intro bJ F T9 hI
 clear a4
 obtain ⟨k,a2,a0,a5,b4,hr0_0,bK,⟨bL,rfl⟩,T0,ho0_b8271_4,b1,ho0_b8271_5,b0,a3,a4,a1,d2,nb0_b8271_4_b8271,nb0_b8271_5_b8271,nn0_b8271_4_b8271_5,nn0_b8271_5_b8271_4⟩:=hI
 have:=a3.len_le
 have hI:=run_inv (id:=((id % 4).toNat:Int)) oM oM steps k
 have hc0:=hI.c0
 have hc1:=hI.c1
 have hid0:=hI.id_
 have hol:=hI.len
 have hrl1:=(run_len ((id % 4).toNat:Int) steps k).1
 have hrl2:=(run_len ((id % 4).toNat:Int) steps k).2
 refine AF (AF (AC kR (AB (AH (vI ((k:Nat):Int)) rfl (AB (AH (steps_v) rfl (AB (DI U74_ rfl a4 (AB (DG .i64 ((k:Nat):Int) (steps.length:Int) rfl rfl (AD (AA (AP (decide (((k:Nat):Int)<(steps.length:Int))) rfl rfl (fun o0=>?_) (fun o0=>?_))))))))))))))
 ·have U0:((k:Nat):Int)<(steps.length:Int):=by simpa using o0
  refine AV (AA (AF (BP (EZ 5 _ _ kR kR kR kR kR rfl rfl fun K8 g5=>?_))))
  have K9:=T0.call g5
  have j0:Mv b4 T9 b4 K8:=Mv.of_keep g5
  have a4:=a4.mv j0
  have a3:=a3.mv j0
  have ho0_b8271_4:=ho0_b8271_4.mv j0 g5 (by simp)
  have ho0_b8271_5:=ho0_b8271_5.mv j0 g5 (by simp)
  have a1:=a1.keep g5 (by simp)
  refine CI (AU (vs:=[vI ((AE ((id % 4).toNat:Int) steps k).d.id),vI ((AE ((id % 4).toNat:Int) steps k).d.counter),a5,vO ((AE ((id % 4).toNat:Int) steps k).d.halted),a2,a0]) U76_ rfl DQ rfl a1 rfl (CI (AH (steps_v) rfl (CI (AH (vI ((k:Nat):Int)) rfl (CI (DO U74_ s_79 .i64 ((k:Nat):Int) k rfl rfl rfl a4 oM fun Z5 A2=>(CI (BZ U79_ rfl s_79 rfl A2 fun g6 o1=>(GA (AB (o_call [vA #[vI ((AE ((id % 4).toNat:Int) steps k).d.id),vI ((AE ((id % 4).toNat:Int) steps k).d.counter),a5,vO ((AE ((id % 4).toNat:Int) steps k).d.halted),a2,a0],vA g6.toArray] _ enter_52 rfl (FD 111 Try.func52 rfl rfl oT (fun Z6=>AF (AC kR (AB (o_box (vA #[vI ((AE ((id % 4).toNat:Int) steps k).d.id),vI ((AE ((id % 4).toNat:Int) steps k).d.counter),a5,vO ((AE ((id % 4).toNat:Int) steps k).d.halted),a2,a0]) [vI ((AE ((id % 4).toNat:Int) steps k).d.id),vI ((AE ((id % 4).toNat:Int) steps k).d.counter),a5,vO ((AE ((id % 4).toNat:Int) steps k).d.halted),a2,a0] rfl rfl K9 fun a6 L0 L1 L2 g7 q3 a7=>(?_)))))) (fun _ _ h=>h)))))))))))))
  have e8:CU b3 a6:=by show b3≠a6;have:=a1.lt;omega
  have e4:∀ b,a2.ownBlock=some b→b≠a6:=fun b hb=>by have:=(ho0_b8271_4.lt b hb).2;omega
  have e5:∀ b,a0.ownBlock=some b→b≠a6:=fun b hb=>by have:=(ho0_b8271_5.lt b hb).2;omega
  have b1:∀ b,a2.ownBlock=some b→b∈(a6 :: b4):=fun b hb=>List.mem_cons_of_mem _ (b1 b hb)
  have b0:∀ b,a0.ownBlock=some b→b∈(a6 :: b4):=fun b hb=>List.mem_cons_of_mem _ (b0 b hb)
  clear L1
  have a3:=a3.mv g7
  have ho0_b8271_4:=ho0_b8271_4.mv g7 q3 (by simp)
  have ho0_b8271_5:=ho0_b8271_5.mv g7 q3 (by simp)
  have o1:Enc.step.rd L0 ((a6 :: b4)++O) g6 (steps[k]!):=Enc.mv Enc.step (x:=steps[k]!) o1 g7
  have a4:=a4.mv g7
  have a1:=a1.keep q3 (by simp)
  refine AB (CQ (E:=Enc.step) (vA g6.toArray) (g6) (steps[k]!) rfl rfl o1 L2 fun L3 Z7 L4 j1 j2 b6=>(?_))
  have a3:=a3.mv j1
  have ho0_b8271_4:=ho0_b8271_4.mv j1 j2 (by simp)
  have ho0_b8271_5:=ho0_b8271_5.mv j1 j2 (by simp)
  have a4:=a4.mv j1
  have a1:=a1.keep j2 (by simp)
  have a7:=a7.keep j2 (by simp)
  refine AB (BW [vI 0,vI 0,nS,vO false,nS,nS] z_76 rfl L4 fun a8 c5 L5 d9 g8 j3 a9=>(?_))
  have d3:CU b3 a8:=by show b3≠a8;have:=a1.lt;omega
  have e9:CU a6 a8:=by show a6≠a8;have:=a7.lt;omega
  have c8:∀ b,a2.ownBlock=some b→b≠a8:=fun b hb=>by have:=(ho0_b8271_4.lt b hb).2;omega
  have c9:∀ b,a0.ownBlock=some b→b≠a8:=fun b hb=>by have:=(ho0_b8271_5.lt b hb).2;omega
  have b1:∀ b,a2.ownBlock=some b→b∈(a8 :: (a6 :: b4)):=fun b hb=>List.mem_cons_of_mem _ (b1 b hb)
  have b0:∀ b,a0.ownBlock=some b→b∈(a8 :: (a6 :: b4)):=fun b hb=>List.mem_cons_of_mem _ (b0 b hb)
  clear L5
  have a3:=a3.mv g8
  have ho0_b8271_4:=ho0_b8271_4.mv g8 j3 (by simp)
  have ho0_b8271_5:=ho0_b8271_5.mv g8 j3 (by simp)
  have b6:=b6.mv g8
  have a4:=a4.mv g8
  have a1:=a1.keep j3 (by simp)
  have a7:=a7.keep j3 (by simp)
  refine AD (AA (AF (AF (AC kR (AB (AS 0 f_79_0 ((steps[k]!).kind) rfl b6 (fun _ _ _ h=>HU h) fun Z8 A3=>(AB (FG U5_ rfl rfl A3 (AB (GP ((steps[k]!).kind) (7:UInt8) (by decide) rfl rfl (AD (AA (BP (AF (AC kR (AB (LY (((steps[k]!).kind) % 7) (3:UInt8) rfl rfl (AB (AG (vO ((((steps[k]!).kind) % 7) == (3:UInt8))) rfl (AD (AA (AP ((((steps[k]!).kind) % 7) == (3:UInt8)) rfl rfl (fun o2=>?_) (fun o2=>?_)))))))))))))))))))))))
  ·have U1:((steps[k]!).kind) % 7=(3:UInt8):=by simpa using o2
   refine cw_draw' 6 _ _ [CT (vP (some ⟨a6,4,none⟩)),CT a2,CT (vP (some ⟨a6,0,none⟩)),CT (vA #[vI ((AE ((id % 4).toNat:Int) steps k).d.id),vI ((AE ((id % 4).toNat:Int) steps k).d.counter),a5,vO ((AE ((id % 4).toNat:Int) steps k).d.halted)]),fun (vT:Value) (wT:World)=>CG Enc.devop wT ((a8 :: (a6 :: b4))++O) vT (((AE ((id % 4).toNat:Int) steps k).d).ops),fun (vT:Value) (wT:World)=>CG (Enc.slice Enc.devop) wT ((a8 :: (a6 :: b4))++O) vT ([((AE ((id % 4).toNat:Int) steps k).d).ops])] kR kR kR kR rfl rfl ⟨kI,kI,kI,kI,fun _ _ _ h k=>h.mv (Mv.of_keep k),fun _ _ _ h k=>h.mv (Mv.of_keep k),trivial⟩ ⟨?_,?_,?_,?_,?_,?_,trivial⟩ ?_
   ·intro F1 w1 k1 hf hd
    obtain ⟨F2,rfl⟩:=AL (F:=F1) [(2,vP (some ⟨a6,0,none⟩))] ⟨hf 2 kR,trivial⟩
    exact AJ rfl ((AM 4 LV rfl (⟨(Keep.refl _ _),rfl⟩)))
   ·intro F1 w1 k1 hf hd
    have k0:=(Keep.drew [] c5).trans k1
    have a7:=a7.keep k0 (by simp)
    obtain ⟨F2,rfl⟩:=AL (F:=F1) [(46,vP (some ⟨a6,4,none⟩))] ⟨hd 0 46 kR,trivial⟩
    exact AJ rfl ((BA U58_ rfl (a2) rfl a7 rfl (⟨(Keep.refl _ _),rfl⟩)))
   ·intro F1 w1 k1 hf hd
    obtain ⟨F2,rfl⟩:=AL (F:=F1) [(2,vP (some ⟨a6,0,none⟩))] ⟨hf 2 kR,trivial⟩
    exact AJ rfl ((AM 0 FS rfl (⟨(Keep.refl _ _),rfl⟩)))
   ·intro F1 w1 k1 hf hd
    have k0:=(Keep.drew [] c5).trans k1
    have a7:=a7.keep k0 (by simp)
    obtain ⟨F2,rfl⟩:=AL (F:=F1) [(48,vP (some ⟨a6,0,none⟩))] ⟨hd 2 48 kR,trivial⟩
    exact AJ rfl ((AU (vs:=[vI ((AE ((id % 4).toNat:Int) steps k).d.id),vI ((AE ((id % 4).toNat:Int) steps k).d.counter),a5,vO ((AE ((id % 4).toNat:Int) steps k).d.halted)]) U31_ rfl BS rfl a7 rfl (⟨(Keep.refl _ _),rfl⟩)))
   ·intro F1 w1 k1 hf hd
    have k0:=(Keep.drew [] c5).trans k1
    have s1:=d9.call k0
    have m1:Mv (a8 :: (a6 :: b4)) c5 (a8 :: (a6 :: b4)) w1:=Mv.of_keep k0
    have a3:=a3.mv m1
    obtain ⟨F2,rfl⟩:=AL (F:=F1) [(49,vA #[vI ((AE ((id % 4).toNat:Int) steps k).d.id),vI ((AE ((id % 4).toNat:Int) steps k).d.counter),a5,vO ((AE ((id % 4).toNat:Int) steps k).d.halted)])] ⟨hd 3 49 kR,trivial⟩
    refine AJ rfl ((BD (vs:=[vA #[vI ((AE ((id % 4).toNat:Int) steps k).d.id),vI ((AE ((id % 4).toNat:Int) steps k).d.counter),a5,vO ((AE ((id % 4).toNat:Int) steps k).d.halted)]]) enter_46 (c_backup (O:=(a8 :: (a6 :: b4))++O) [vI ((AE ((id % 4).toNat:Int) steps k).d.id),vI ((AE ((id % 4).toNat:Int) steps k).d.counter),a5,vO ((AE ((id % 4).toNat:Int) steps k).d.halted)] ((AE ((id % 4).toNat:Int) steps k).d) w1 ⟨_,rfl,a3⟩ oM s1.lt) rfl s1 fun Z9 aa ab ac L6 L7=>(?_)))
    obtain ⟨_,rfl,t1⟩:=L7
    have:=t1.len_le
    exact ⟨L6,t1⟩
   ·intro F1 w1 k1 hf hd
    have k0:=(Keep.drew [] c5).trans k1
    have s1:=d9.call k0
    obtain ⟨q4,L8,o3⟩:∃ v,F1 50=v∧CG Enc.devop w1 ((a8 :: (a6 :: b4))++O) v (((AE ((id % 4).toNat:Int) steps k).d).ops):=⟨_,rfl,hd 4 50 kR⟩
    have:=o3.len_le
    obtain ⟨F2,rfl⟩:=AL (F:=F1) [(50,q4)] ⟨L8,trivial⟩
    refine AJ rfl ((MH (E:=(Enc.slice Enc.devop)) (xs:=[.tmp 50]) U58_ s_26 z_26 (by decide) [q4] [[q4]] [((AE ((id % 4).toNat:Int) steps k).d).ops] rfl rfl rfl (Parts.cons (NU o3.oneCell) ⟨_,rfl,o3⟩ (Parts.nil _ _ _)) oT s1 fun ad ae af ag L9 t2=>(?_)))
    have:=t2.len_le
    exact ⟨L9,t2⟩
   intro w5 w6 f2 o4 g9
   have M0:=d9.call f2
   have j4:Mv (a8 :: (a6 :: b4)) c5 (a8 :: (a6 :: b4)) w6:=Mv.of_keep f2
   have a3:=a3.mv j4
   have ho0_b8271_4:=ho0_b8271_4.mv j4 f2 (by simp)
   have ho0_b8271_5:=ho0_b8271_5.mv j4 f2 (by simp)
   have a4:=a4.mv j4
   have a1:=a1.keep f2 (by simp)
   have a7:=a7.keep f2 (by simp)
   have a9:=a9.keep f2 (by simp)
   obtain ⟨M1,M2,t3⟩:∃ v,w5 51=v∧CG (Enc.slice Enc.devop) w6 ((a8 :: (a6 :: b4))++O) v ([((AE ((id % 4).toNat:Int) steps k).d).ops]):=⟨_,rfl,o4 5 51 kR (by decide)⟩
   have:=t3.len_le
   obtain ⟨F2,rfl⟩:=AL (F:=w5) [(2,vP (some ⟨a6,0,none⟩)),(4,vP (some ⟨a8,0,none⟩)),(111,undef),(47,a2),(51,M1)] ⟨g9 2 kR,g9 4 kR,g9 111 kR,o4 1 47 kR (by decide),M2,trivial⟩
   clear o4 g9
   refine AB (HZ (E:=(Enc.slice Enc.devop)) (l:=(AE ((id % 4).toNat:Int) steps k).backups) (m:=[((AE ((id % 4).toNat:Int) steps k).d).ops]) U58_ i_26 rfl (by decide) rfl rfl ho0_b8271_4 t3 (fun _ hb=>.inl hb) b1 (by simp only [List.length_cons,List.length_nil];omega) (by simp only [List.length_cons,List.length_nil,maxLen];omega) M0 fun d0 ah h1 A4 h2 f8 M3 q5 j5 d7=>(?_))
   have t4:∀ b,a0.ownBlock=some b→d0.ownBlock≠some b:=fun b hb e=>by rcases h2 with e1|e1 <;> rw [e1] at e <;> first|(cases e;have:=(ho0_b8271_5.lt _ hb).2;omega)|(exact absurd e (nn0_b8271_5_b8271_4 b hb))
   have t5:∀ b,d0.ownBlock=some b→b≠b3:=fun b hb=>by rcases h2 with e1|e1 <;> rw [e1] at hb <;> first|(cases hb;have:=a1.lt;omega)|(exact nb0_b8271_4_b8271 b hb)
   have A5:∀ b,d0.ownBlock=some b→b≠a6:=fun b hb=>by rcases h2 with e1|e1 <;> rw [e1] at hb <;> first|(cases hb;have:=a7.lt;omega)|(exact e4 b hb)
   have A6:∀ b,d0.ownBlock=some b→b≠a8:=fun b hb=>by rcases h2 with e1|e1 <;> rw [e1] at hb <;> first|(cases hb;have:=a9.lt;omega)|(exact c8 b hb)
   have b0:∀ b,a0.ownBlock=some b→b∈h1:=fun b hb=>f8 b (b0 b hb)
   have d2:b3∈h1:=f8 b3 rC
   have t6:a6∈h1:=f8 a6 (by repeat (constructor))
   have t7:a8∈h1:=f8 a8 (by repeat (constructor))
   have a4:=a4.mv q5
   have a3:=a3.mv q5
   have ho0_b8271_5:=ho0_b8271_5.mv q5 j5 (fun b hb=>by simp only [Option.mem_toList];exact nn0_b8271_5_b8271_4 b hb)
   have a1:=a1.keep j5 (by simp only [Option.mem_toList];exact fun e=>absurd rfl (nb0_b8271_4_b8271 _ e))
   have a7:=a7.keep j5 (by simp only [Option.mem_toList];exact fun e=>absurd rfl (e4 _ e))
   have a9:=a9.keep j5 (by simp only [Option.mem_toList];exact fun e=>absurd rfl (c8 _ e))
   refine AB (AM 4 LV rfl (BU (CS (d0) rfl rfl d7.oneCell s_58 (by repeat (assumption)) a7 oT M3 fun ai M4 j6 j7 A7=>(?_))))
   have d7:=d7.mv j6 j7 (fun b hb=>AT (A5 b hb))
   have a4:=a4.mv j6
   have a3:=a3.mv j6
   have ho0_b8271_5:=ho0_b8271_5.mv j6 j7 (fun b hb=>AT (e5 b hb))
   have a1:=a1.keep j7 (AT e8)
   have a9:=a9.keep j7 (AT (Ne.symm e9))
   refine AD (BE (AA (AF (AC kR (AB (AU (vs:=[vI ((AE ((id % 4).toNat:Int) steps k).d.id),vI ((AE ((id % 4).toNat:Int) steps k).d.counter),a5,vO ((AE ((id % 4).toNat:Int) steps k).d.halted),d0,a0]) U76_ rfl DQ rfl A7 rfl (BU (AR (vs:=[vI ((AE ((id % 4).toNat:Int) steps k).d.id),vI ((AE ((id % 4).toNat:Int) steps k).d.counter),a5,vO ((AE ((id % 4).toNat:Int) steps k).d.halted),d0,a0]) (.agg #[vI ((AE ((id % 4).toNat:Int) steps k).d.id),vI ((AE ((id % 4).toNat:Int) steps k).d.counter),a5,vO ((AE ((id % 4).toNat:Int) steps k).d.halted),d0,a0]) rfl rfl rfl DQ (fun u hu=>by simp only [List.mem_cons,List.not_mem_nil,or_false] at hu;rcases hu with rfl|rfl|rfl|rfl|rfl|rfl <;> first|rfl|exact a3.oneCell|exact d7.oneCell|exact ho0_b8271_5.oneCell) (by repeat (assumption)) a9 oT M4 fun aj M5 j8 q6 A8=>(?_)))))))))
   have d7:=d7.mv j8 q6 (fun b hb=>AT (A6 b hb))
   have a3:=a3.mv j8
   have ho0_b8271_5:=ho0_b8271_5.mv j8 q6 (fun b hb=>AT (c9 b hb))
   have a4:=a4.mv j8
   have a1:=a1.keep q6 (AT d3)
   refine AD (AA (AN (AY rfl (GF (vs:=[vI ((AE ((id % 4).toNat:Int) steps k).d.id),vI ((AE ((id % 4).toNat:Int) steps k).d.counter),a5,vO ((AE ((id % 4).toNat:Int) steps k).d.halted),d0,a0]) rfl rfl U76_ rfl DQ rfl A8 rfl) (Exists.intro _ (And.intro rfl (BU (AR (vs:=[vI ((AE ((id % 4).toNat:Int) steps k).d.id),vI ((AE ((id % 4).toNat:Int) steps k).d.counter),a5,vO ((AE ((id % 4).toNat:Int) steps k).d.halted),d0,a0]) (.agg #[vI ((AE ((id % 4).toNat:Int) steps k).d.id),vI ((AE ((id % 4).toNat:Int) steps k).d.counter),a5,vO ((AE ((id % 4).toNat:Int) steps k).d.halted),d0,a0]) rfl rfl rfl DQ (fun u hu=>by simp only [List.mem_cons,List.not_mem_nil,or_false] at hu;rcases hu with rfl|rfl|rfl|rfl|rfl|rfl <;> first|rfl|exact a3.oneCell|exact d7.oneCell|exact ho0_b8271_5.oneCell) (by repeat (assumption)) a1 oT M5 fun ak M6 j9 w7 A9=>(?_))))))))
   have a4:=a4.mv j9
   have a3:=a3.mv j9
   have ho0_b8271_5:=ho0_b8271_5.mv j9 w7 (fun b hb=>AT (nb0_b8271_5_b8271 b hb))
   have d7:=d7.mv j9 w7 (fun b hb=>AT (t5 b hb))
   refine AD (BE (AA (AC kR (AB (AH (vI ((k:Nat):Int)) rfl (AB (CJ .i64 ((k:Nat):Int) (1:Int) (((k+1:Nat):Int)) rfl rfl (EI oM oM) (AB (AG (vI ((k+1:Nat):Int)) rfl (AD (AA (?_))))))))))))
   exact ⟨_,oM,(k+1),d0,a0,a5,h1,oM,rfl,⟨_,AQ _ ⟨rfl,rfl,(by rfl),rfl,trivial⟩⟩,M6,(by rw [show (AE ((id % 4).toNat:Int) steps (k+1)).backups=((AE ((id % 4).toNat:Int) steps k).backups)++([((AE ((id % 4).toNat:Int) steps k).d).ops]) from by (rw [BN,do_3 aS];done)];exact d7),A4,(by rw [show (AE ((id % 4).toNat:Int) steps (k+1)).done=(AE ((id % 4).toNat:Int) steps k).done from by (rw [BN,do_3 aS];done)];exact ho0_b8271_5),b0,(by rw [show (AE ((id % 4).toNat:Int) steps (k+1)).d.ops=(AE ((id % 4).toNat:Int) steps k).d.ops from by (rw [BN,do_3 aS];done)];exact a3),a4,(by rw [show ([vI ((AE ((id % 4).toNat:Int) steps (k+1)).d.id),vI ((AE ((id % 4).toNat:Int) steps (k+1)).d.counter),a5,vO ((AE ((id % 4).toNat:Int) steps (k+1)).d.halted),d0,a0]:List Value)=[vI ((AE ((id % 4).toNat:Int) steps k).d.id),vI ((AE ((id % 4).toNat:Int) steps k).d.counter),a5,vO ((AE ((id % 4).toNat:Int) steps k).d.halted),d0,a0] from by (rw [BN,do_3 aS];done)];exact A9),aS,t5,nb0_b8271_5_b8271,(fun b hb e=>t4 b e hb),t4⟩
  have U2:((steps[k]!).kind) % 7≠(3:UInt8):=by simpa using o2
  refine AF (AC kR (AB (LY (((steps[k]!).kind) % 7) (4:UInt8) rfl rfl (AB (AG (vO ((((steps[k]!).kind) % 7) == (4:UInt8))) rfl (AD (AA (AP ((((steps[k]!).kind) % 7) == (4:UInt8)) rfl rfl (fun o5=>?_) (fun o5=>?_)))))))))
  ·have U3:((steps[k]!).kind) % 7=(4:UInt8):=by simpa using o5
   refine AF (AC kR (AB (AM 4 LV rfl (AB (BA U58_ rfl (a2) rfl a7 rfl (AB (o_lenO U58_ rfl ho0_b8271_4 (AB (HC .i64 (((AE ((id % 4).toNat:Int) steps k).backups).length:Int) (0:Int) rfl rfl (AD (AA (AP (decide ((0:Int)<(((AE ((id % 4).toNat:Int) steps k).backups).length:Int))) rfl rfl (fun o6=>?_) (fun o6=>?_)))))))))))))
   ·have U4:(0:Int)<(((AE ((id % 4).toNat:Int) steps k).backups).length:Int):=by simpa using o6
    refine EZ 13 _ _ kR kR kR kR kR rfl rfl fun w8 f3=>?_
    have w9:=d9.call f3
    have h3:Mv (a8 :: (a6 :: b4)) c5 (a8 :: (a6 :: b4)) w8:=Mv.of_keep f3
    have a3:=a3.mv h3
    have ho0_b8271_4:=ho0_b8271_4.mv h3 f3 (by simp)
    have ho0_b8271_5:=ho0_b8271_5.mv h3 f3 (by simp)
    have b6:=b6.mv h3
    have a4:=a4.mv h3
    have a1:=a1.keep f3 (by simp)
    have a7:=a7.keep f3 (by simp)
    have a9:=a9.keep f3 (by simp)
    refine CI (AM 0 FS rfl (CI (AU (vs:=[vI ((AE ((id % 4).toNat:Int) steps k).d.id),vI ((AE ((id % 4).toNat:Int) steps k).d.counter),a5,vO ((AE ((id % 4).toNat:Int) steps k).d.halted)]) U31_ rfl BS rfl a7 rfl (CI (AM 4 LV rfl (CI (BA U58_ rfl (a2) rfl a7 rfl (CI (AS 4 f_79_4 ((steps[k]!).at_) rfl b6 (fun _ _ _ h=>LF h) fun al B0=>(CI (FG U5_ rfl rfl B0 (CI (GH .u8 .i64 U5_ U3_ (((steps[k]!).at_).toNat:Int) (((steps[k]!).at_).toNat:Int) rfl (by have:=((steps[k]!).at_).toNat_lt;exact EI oM rfl) (CI (AM 4 LV rfl (CI (BA U58_ rfl (a2) rfl a7 rfl (CI (o_lenO U58_ rfl ho0_b8271_4 (CI (o_remN (((steps[k]!).at_).toNat) (((AE ((id % 4).toNat:Int) steps k).backups).length) oM rfl rfl (CI (o_indexO U58_ s_26 .i64 (((((steps[k]!).at_).toNat) % (((AE ((id % 4).toNat:Int) steps k).backups).length):Nat):Int) ((((steps[k]!).at_).toNat) % (((AE ((id % 4).toNat:Int) steps k).backups).length)) rfl rfl rfl ho0_b8271_4 (by have:=Nat.mod_lt steps[k]!.at_.toNat (show 0<(AE ((id % 4).toNat:Int) steps k).backups.length by omega);omega) fun am B1=>(CI (o_loadOL U26_ rfl rfl ho0_b8271_4 B1 (by have:=Nat.mod_lt steps[k]!.at_.toNat (show 0<(AE ((id % 4).toNat:Int) steps k).backups.length by omega);omega) fun x0 t8=>(?_))))))))))))))))))))))))))
    have:=t8.len_le
    refine GA (AB (BD (vs:=[vA #[vI ((AE ((id % 4).toNat:Int) steps k).d.id),vI ((AE ((id % 4).toNat:Int) steps k).d.counter),a5,vO ((AE ((id % 4).toNat:Int) steps k).d.halted)],x0]) enter_47 (NE (O:=(a8 :: (a6 :: b4))++O) [vI ((AE ((id % 4).toNat:Int) steps k).d.id),vI ((AE ((id % 4).toNat:Int) steps k).d.counter),a5,vO ((AE ((id % 4).toNat:Int) steps k).d.halted)] ((AE ((id % 4).toNat:Int) steps k).d) x0 (((AE ((id % 4).toNat:Int) steps k).backups)[(((steps[k]!).at_).toNat) % (((AE ((id % 4).toNat:Int) steps k).backups).length)]!) w8 ⟨_,rfl,a3⟩ t8 (by have:=inv_bk hI (k:=steps[k]!.at_.toNat % (AE ((id % 4).toNat:Int) steps k).backups.length) (Nat.mod_lt _ oM);omega) w9.lt) rfl w9 fun an ao M7 q7 h4 M8=>(?_)))
    obtain ⟨U5,rfl,B2⟩:=M8
    have ho0_b8271_4:=ho0_b8271_4.mv q7 h4 (by simp)
    have ho0_b8271_5:=ho0_b8271_5.mv q7 h4 (by simp)
    have a4:=a4.mv q7
    have a1:=a1.keep h4 (by simp)
    have a7:=a7.keep h4 (by simp)
    have a9:=a9.keep h4 (by simp)
    refine AB (AM 0 FS rfl (?_))
    obtain ⟨e3,rfl,d4⟩:=B2
    have:=d4.len_le
    refine BU (AR (vs:=[vI ((BY ((AE ((id % 4).toNat:Int) steps k).d) (((AE ((id % 4).toNat:Int) steps k).backups)[(((steps[k]!).at_).toNat) % (((AE ((id % 4).toNat:Int) steps k).backups).length)]!)).id),vI ((BY ((AE ((id % 4).toNat:Int) steps k).d) (((AE ((id % 4).toNat:Int) steps k).backups)[(((steps[k]!).at_).toNat) % (((AE ((id % 4).toNat:Int) steps k).backups).length)]!)).counter),e3,vO ((BY ((AE ((id % 4).toNat:Int) steps k).d) (((AE ((id % 4).toNat:Int) steps k).backups)[(((steps[k]!).at_).toNat) % (((AE ((id % 4).toNat:Int) steps k).backups).length)]!)).halted)]) (.agg #[vI ((BY ((AE ((id % 4).toNat:Int) steps k).d) (((AE ((id % 4).toNat:Int) steps k).backups)[(((steps[k]!).at_).toNat) % (((AE ((id % 4).toNat:Int) steps k).backups).length)]!)).id),vI ((BY ((AE ((id % 4).toNat:Int) steps k).d) (((AE ((id % 4).toNat:Int) steps k).backups)[(((steps[k]!).at_).toNat) % (((AE ((id % 4).toNat:Int) steps k).backups).length)]!)).counter),e3,vO ((BY ((AE ((id % 4).toNat:Int) steps k).d) (((AE ((id % 4).toNat:Int) steps k).backups)[(((steps[k]!).at_).toNat) % (((AE ((id % 4).toNat:Int) steps k).backups).length)]!)).halted)]) rfl rfl rfl BS (fun u hu=>by simp only [List.mem_cons,List.not_mem_nil,or_false] at hu;rcases hu with rfl|rfl|rfl|rfl <;> first|rfl|exact d4.oneCell) (by repeat (constructor)) a7 oT M7 fun ap M9 k2 k3 B3=>(?_))
    have ho0_b8271_4:=ho0_b8271_4.mv k2 k3 (fun b hb=>AT (e4 b hb))
    have ho0_b8271_5:=ho0_b8271_5.mv k2 k3 (fun b hb=>AT (e5 b hb))
    have d4:=d4.mv k2
    have a4:=a4.mv k2
    have a1:=a1.keep k3 (AT e8)
    have a9:=a9.keep k3 (AT (Ne.symm e9))
    refine AD (BE (AA (AF (AC kR (AB (AU (vs:=[vI ((BY ((AE ((id % 4).toNat:Int) steps k).d) (((AE ((id % 4).toNat:Int) steps k).backups)[(((steps[k]!).at_).toNat) % (((AE ((id % 4).toNat:Int) steps k).backups).length)]!)).id),vI ((BY ((AE ((id % 4).toNat:Int) steps k).d) (((AE ((id % 4).toNat:Int) steps k).backups)[(((steps[k]!).at_).toNat) % (((AE ((id % 4).toNat:Int) steps k).backups).length)]!)).counter),e3,vO ((BY ((AE ((id % 4).toNat:Int) steps k).d) (((AE ((id % 4).toNat:Int) steps k).backups)[(((steps[k]!).at_).toNat) % (((AE ((id % 4).toNat:Int) steps k).backups).length)]!)).halted),a2,a0]) U76_ rfl DQ rfl B3 rfl (BU (AR (vs:=[vI ((BY ((AE ((id % 4).toNat:Int) steps k).d) (((AE ((id % 4).toNat:Int) steps k).backups)[(((steps[k]!).at_).toNat) % (((AE ((id % 4).toNat:Int) steps k).backups).length)]!)).id),vI ((BY ((AE ((id % 4).toNat:Int) steps k).d) (((AE ((id % 4).toNat:Int) steps k).backups)[(((steps[k]!).at_).toNat) % (((AE ((id % 4).toNat:Int) steps k).backups).length)]!)).counter),e3,vO ((BY ((AE ((id % 4).toNat:Int) steps k).d) (((AE ((id % 4).toNat:Int) steps k).backups)[(((steps[k]!).at_).toNat) % (((AE ((id % 4).toNat:Int) steps k).backups).length)]!)).halted),a2,a0]) (.agg #[vI ((BY ((AE ((id % 4).toNat:Int) steps k).d) (((AE ((id % 4).toNat:Int) steps k).backups)[(((steps[k]!).at_).toNat) % (((AE ((id % 4).toNat:Int) steps k).backups).length)]!)).id),vI ((BY ((AE ((id % 4).toNat:Int) steps k).d) (((AE ((id % 4).toNat:Int) steps k).backups)[(((steps[k]!).at_).toNat) % (((AE ((id % 4).toNat:Int) steps k).backups).length)]!)).counter),e3,vO ((BY ((AE ((id % 4).toNat:Int) steps k).d) (((AE ((id % 4).toNat:Int) steps k).backups)[(((steps[k]!).at_).toNat) % (((AE ((id % 4).toNat:Int) steps k).backups).length)]!)).halted),a2,a0]) rfl rfl rfl DQ (fun u hu=>by simp only [List.mem_cons,List.not_mem_nil,or_false] at hu;rcases hu with rfl|rfl|rfl|rfl|rfl|rfl <;> first|rfl|exact d4.oneCell|exact ho0_b8271_4.oneCell|exact ho0_b8271_5.oneCell) (by repeat (constructor)) a9 oT M9 fun aq N0 k4 q8 B4=>(?_)))))))))
    have ho0_b8271_4:=ho0_b8271_4.mv k4 q8 (fun b hb=>AT (c8 b hb))
    have ho0_b8271_5:=ho0_b8271_5.mv k4 q8 (fun b hb=>AT (c9 b hb))
    have d4:=d4.mv k4
    have a4:=a4.mv k4
    have a1:=a1.keep q8 (AT d3)
    refine AD (AA (AN (AY rfl (GF (vs:=[vI ((BY ((AE ((id % 4).toNat:Int) steps k).d) (((AE ((id % 4).toNat:Int) steps k).backups)[(((steps[k]!).at_).toNat) % (((AE ((id % 4).toNat:Int) steps k).backups).length)]!)).id),vI ((BY ((AE ((id % 4).toNat:Int) steps k).d) (((AE ((id % 4).toNat:Int) steps k).backups)[(((steps[k]!).at_).toNat) % (((AE ((id % 4).toNat:Int) steps k).backups).length)]!)).counter),e3,vO ((BY ((AE ((id % 4).toNat:Int) steps k).d) (((AE ((id % 4).toNat:Int) steps k).backups)[(((steps[k]!).at_).toNat) % (((AE ((id % 4).toNat:Int) steps k).backups).length)]!)).halted),a2,a0]) rfl rfl U76_ rfl DQ rfl B4 rfl) (Exists.intro _ (And.intro rfl (BU (AR (vs:=[vI ((BY ((AE ((id % 4).toNat:Int) steps k).d) (((AE ((id % 4).toNat:Int) steps k).backups)[(((steps[k]!).at_).toNat) % (((AE ((id % 4).toNat:Int) steps k).backups).length)]!)).id),vI ((BY ((AE ((id % 4).toNat:Int) steps k).d) (((AE ((id % 4).toNat:Int) steps k).backups)[(((steps[k]!).at_).toNat) % (((AE ((id % 4).toNat:Int) steps k).backups).length)]!)).counter),e3,vO ((BY ((AE ((id % 4).toNat:Int) steps k).d) (((AE ((id % 4).toNat:Int) steps k).backups)[(((steps[k]!).at_).toNat) % (((AE ((id % 4).toNat:Int) steps k).backups).length)]!)).halted),a2,a0]) (.agg #[vI ((BY ((AE ((id % 4).toNat:Int) steps k).d) (((AE ((id % 4).toNat:Int) steps k).backups)[(((steps[k]!).at_).toNat) % (((AE ((id % 4).toNat:Int) steps k).backups).length)]!)).id),vI ((BY ((AE ((id % 4).toNat:Int) steps k).d) (((AE ((id % 4).toNat:Int) steps k).backups)[(((steps[k]!).at_).toNat) % (((AE ((id % 4).toNat:Int) steps k).backups).length)]!)).counter),e3,vO ((BY ((AE ((id % 4).toNat:Int) steps k).d) (((AE ((id % 4).toNat:Int) steps k).backups)[(((steps[k]!).at_).toNat) % (((AE ((id % 4).toNat:Int) steps k).backups).length)]!)).halted),a2,a0]) rfl rfl rfl DQ (fun u hu=>by simp only [List.mem_cons,List.not_mem_nil,or_false] at hu;rcases hu with rfl|rfl|rfl|rfl|rfl|rfl <;> first|rfl|exact d4.oneCell|exact ho0_b8271_4.oneCell|exact ho0_b8271_5.oneCell) rC a1 oT N0 fun ar N1 k5 x1 B5=>(?_))))))))
    have a4:=a4.mv k5
    have ho0_b8271_4:=ho0_b8271_4.mv k5 x1 (fun b hb=>AT (nb0_b8271_4_b8271 b hb))
    have ho0_b8271_5:=ho0_b8271_5.mv k5 x1 (fun b hb=>AT (nb0_b8271_5_b8271 b hb))
    have d4:=d4.mv k5
    refine AD (BE (AA (AC kR (AB (AH (vI ((k:Nat):Int)) rfl (AB (CJ .i64 ((k:Nat):Int) (1:Int) (((k+1:Nat):Int)) rfl rfl (EI oM oM) (AB (AG (vI ((k+1:Nat):Int)) rfl (AD (AA (?_))))))))))))
    exact ⟨_,oM,(k+1),a2,a0,e3,(a8 :: (a6 :: b4)),oM,rfl,⟨_,AQ _ ⟨rfl,rfl,(by rfl),rfl,trivial⟩⟩,N1,(by rw [show (AE ((id % 4).toNat:Int) steps (k+1)).backups=(AE ((id % 4).toNat:Int) steps k).backups from by (rw [BN,do_4y aS aS];done)];exact ho0_b8271_4),b1,(by rw [show (AE ((id % 4).toNat:Int) steps (k+1)).done=(AE ((id % 4).toNat:Int) steps k).done from by (rw [BN,do_4y aS aS];done)];exact ho0_b8271_5),b0,(by rw [show (AE ((id % 4).toNat:Int) steps (k+1)).d.ops=(BY ((AE ((id % 4).toNat:Int) steps k).d) (((AE ((id % 4).toNat:Int) steps k).backups)[(((steps[k]!).at_).toNat) % (((AE ((id % 4).toNat:Int) steps k).backups).length)]!)).ops from by (rw [BN,do_4y aS aS];done)];exact d4),a4,(by rw [show ([vI ((AE ((id % 4).toNat:Int) steps (k+1)).d.id),vI ((AE ((id % 4).toNat:Int) steps (k+1)).d.counter),e3,vO ((AE ((id % 4).toNat:Int) steps (k+1)).d.halted),a2,a0]:List Value)=[vI ((BY ((AE ((id % 4).toNat:Int) steps k).d) (((AE ((id % 4).toNat:Int) steps k).backups)[(((steps[k]!).at_).toNat) % (((AE ((id % 4).toNat:Int) steps k).backups).length)]!)).id),vI ((BY ((AE ((id % 4).toNat:Int) steps k).d) (((AE ((id % 4).toNat:Int) steps k).backups)[(((steps[k]!).at_).toNat) % (((AE ((id % 4).toNat:Int) steps k).backups).length)]!)).counter),e3,vO ((BY ((AE ((id % 4).toNat:Int) steps k).d) (((AE ((id % 4).toNat:Int) steps k).backups)[(((steps[k]!).at_).toNat) % (((AE ((id % 4).toNat:Int) steps k).backups).length)]!)).halted),a2,a0] from by (rw [BN,do_4y aS aS];done)];exact B5),(by (repeat (first|assumption|apply List.mem_cons_of_mem))),nb0_b8271_4_b8271,nb0_b8271_5_b8271,nn0_b8271_4_b8271_5,nn0_b8271_5_b8271_4⟩
   have U6:(((AE ((id % 4).toNat:Int) steps k).backups).length:Int)≤(0:Int):=by simpa using o6
   refine AV (BE (AA (AF (AC kR (AB (AU (vs:=[vI ((AE ((id % 4).toNat:Int) steps k).d.id),vI ((AE ((id % 4).toNat:Int) steps k).d.counter),a5,vO ((AE ((id % 4).toNat:Int) steps k).d.halted),a2,a0]) U76_ rfl DQ rfl a7 rfl (BU (AR (vs:=[vI ((AE ((id % 4).toNat:Int) steps k).d.id),vI ((AE ((id % 4).toNat:Int) steps k).d.counter),a5,vO ((AE ((id % 4).toNat:Int) steps k).d.halted),a2,a0]) (.agg #[vI ((AE ((id % 4).toNat:Int) steps k).d.id),vI ((AE ((id % 4).toNat:Int) steps k).d.counter),a5,vO ((AE ((id % 4).toNat:Int) steps k).d.halted),a2,a0]) rfl rfl rfl DQ (fun u hu=>by simp only [List.mem_cons,List.not_mem_nil,or_false] at hu;rcases hu with rfl|rfl|rfl|rfl|rfl|rfl <;> first|rfl|exact a3.oneCell|exact ho0_b8271_4.oneCell|exact ho0_b8271_5.oneCell) (by repeat (constructor)) a9 oT d9 fun au N2 k6 q9 B6=>(?_)))))))))
   have a3:=a3.mv k6
   have ho0_b8271_4:=ho0_b8271_4.mv k6 q9 (fun b hb=>AT (c8 b hb))
   have ho0_b8271_5:=ho0_b8271_5.mv k6 q9 (fun b hb=>AT (c9 b hb))
   have a4:=a4.mv k6
   have a1:=a1.keep q9 (AT d3)
   refine AD (AA (AN (AY rfl (GF (vs:=[vI ((AE ((id % 4).toNat:Int) steps k).d.id),vI ((AE ((id % 4).toNat:Int) steps k).d.counter),a5,vO ((AE ((id % 4).toNat:Int) steps k).d.halted),a2,a0]) rfl rfl U76_ rfl DQ rfl B6 rfl) (Exists.intro _ (And.intro rfl (BU (AR (vs:=[vI ((AE ((id % 4).toNat:Int) steps k).d.id),vI ((AE ((id % 4).toNat:Int) steps k).d.counter),a5,vO ((AE ((id % 4).toNat:Int) steps k).d.halted),a2,a0]) (.agg #[vI ((AE ((id % 4).toNat:Int) steps k).d.id),vI ((AE ((id % 4).toNat:Int) steps k).d.counter),a5,vO ((AE ((id % 4).toNat:Int) steps k).d.halted),a2,a0]) rfl rfl rfl DQ (fun u hu=>by simp only [List.mem_cons,List.not_mem_nil,or_false] at hu;rcases hu with rfl|rfl|rfl|rfl|rfl|rfl <;> first|rfl|exact a3.oneCell|exact ho0_b8271_4.oneCell|exact ho0_b8271_5.oneCell) rC a1 oT N2 fun av N3 k7 x2 B7=>(?_))))))))
   have a4:=a4.mv k7
   have a3:=a3.mv k7
   have ho0_b8271_4:=ho0_b8271_4.mv k7 x2 (fun b hb=>AT (nb0_b8271_4_b8271 b hb))
   have ho0_b8271_5:=ho0_b8271_5.mv k7 x2 (fun b hb=>AT (nb0_b8271_5_b8271 b hb))
   refine AD (BE (AA (AC kR (AB (AH (vI ((k:Nat):Int)) rfl (AB (CJ .i64 ((k:Nat):Int) (1:Int) (((k+1:Nat):Int)) rfl rfl (EI oM oM) (AB (AG (vI ((k+1:Nat):Int)) rfl (AD (AA (?_))))))))))))
   exact ⟨_,oM,(k+1),a2,a0,a5,(a8 :: (a6 :: b4)),oM,rfl,⟨_,AQ _ ⟨rfl,rfl,(by rfl),rfl,trivial⟩⟩,N3,(by rw [show (AE ((id % 4).toNat:Int) steps (k+1)).backups=(AE ((id % 4).toNat:Int) steps k).backups from by (rw [BN,do_4n aS aS];done)];exact ho0_b8271_4),b1,(by rw [show (AE ((id % 4).toNat:Int) steps (k+1)).done=(AE ((id % 4).toNat:Int) steps k).done from by (rw [BN,do_4n aS aS];done)];exact ho0_b8271_5),b0,(by rw [show (AE ((id % 4).toNat:Int) steps (k+1)).d.ops=(AE ((id % 4).toNat:Int) steps k).d.ops from by (rw [BN,do_4n aS aS];done)];exact a3),a4,(by rw [show ([vI ((AE ((id % 4).toNat:Int) steps (k+1)).d.id),vI ((AE ((id % 4).toNat:Int) steps (k+1)).d.counter),a5,vO ((AE ((id % 4).toNat:Int) steps (k+1)).d.halted),a2,a0]:List Value)=[vI ((AE ((id % 4).toNat:Int) steps k).d.id),vI ((AE ((id % 4).toNat:Int) steps k).d.counter),a5,vO ((AE ((id % 4).toNat:Int) steps k).d.halted),a2,a0] from by (rw [BN,do_4n aS aS];done)];exact B7),(by (repeat (first|assumption|apply List.mem_cons_of_mem))),nb0_b8271_4_b8271,nb0_b8271_5_b8271,nn0_b8271_4_b8271_5,nn0_b8271_5_b8271_4⟩
  have U7:((steps[k]!).kind) % 7≠(4:UInt8):=by simpa using o5
  refine AF (AC kR (AB (LY (((steps[k]!).kind) % 7) (5:UInt8) rfl rfl (AB (AG (vO ((((steps[k]!).kind) % 7) == (5:UInt8))) rfl (AD (AA (AP ((((steps[k]!).kind) % 7) == (5:UInt8)) rfl rfl (fun o7=>?_) (fun o7=>?_)))))))))
  ·have U8:((steps[k]!).kind) % 7=(5:UInt8):=by simpa using o7
   refine AF (AC kR (AB (AM 0 FS rfl (AB (AU (vs:=[vI ((AE ((id % 4).toNat:Int) steps k).d.id),vI ((AE ((id % 4).toNat:Int) steps k).d.counter),a5,vO ((AE ((id % 4).toNat:Int) steps k).d.halted)]) U31_ rfl BS rfl a7 rfl (AB (BD (vs:=[vA #[vI ((AE ((id % 4).toNat:Int) steps k).d.id),vI ((AE ((id % 4).toNat:Int) steps k).d.counter),a5,vO ((AE ((id % 4).toNat:Int) steps k).d.halted)]]) JQ (LJ (O:=(a8 :: (a6 :: b4))++O) [vI ((AE ((id % 4).toNat:Int) steps k).d.id),vI ((AE ((id % 4).toNat:Int) steps k).d.counter),a5,vO ((AE ((id % 4).toNat:Int) steps k).d.halted)] ((AE ((id % 4).toNat:Int) steps k).d) c5 ⟨_,rfl,a3⟩ d9.lt) rfl d9 fun aw ax N4 k8 h5 N5=>(?_))))))))
   obtain ⟨o8,rfl,o9⟩:=N5
   have a3:=a3.mv k8
   have ho0_b8271_4:=ho0_b8271_4.mv k8 h5 (by simp)
   have ho0_b8271_5:=ho0_b8271_5.mv k8 h5 (by simp)
   have a4:=a4.mv k8
   have a1:=a1.keep h5 (by simp)
   have a7:=a7.keep h5 (by simp)
   have a9:=a9.keep h5 (by simp)
   refine AB (AH (vT #[vA o8.toArray,vI ((AI ((AE ((id % 4).toNat:Int) steps k).d)).2)]) rfl (AB (BJ (vA o8.toArray) rfl rfl (AB (BJ (vI ((AI ((AE ((id % 4).toNat:Int) steps k).d)).2)) rfl rfl (AB (BW [vI 0,vI 0,nS,vO false] HJ rfl N4 fun d1 N6 N7 N8 h6 h7 B8=>(?_))))))))
   have B9:CU b3 d1:=by show b3≠d1;have:=a1.lt;omega
   have C0:CU a6 d1:=by show a6≠d1;have:=a7.lt;omega
   have C1:CU a8 d1:=by show a8≠d1;have:=a9.lt;omega
   have C2:∀ b,a2.ownBlock=some b→b≠d1:=fun b hb=>by have:=(ho0_b8271_4.lt b hb).2;omega
   have C3:∀ b,a0.ownBlock=some b→b≠d1:=fun b hb=>by have:=(ho0_b8271_5.lt b hb).2;omega
   have b1:∀ b,a2.ownBlock=some b→b∈(d1 :: (a8 :: (a6 :: b4))):=fun b hb=>List.mem_cons_of_mem _ (b1 b hb)
   have b0:∀ b,a0.ownBlock=some b→b∈(d1 :: (a8 :: (a6 :: b4))):=fun b hb=>List.mem_cons_of_mem _ (b0 b hb)
   clear N7
   have a3:=a3.mv h6
   have ho0_b8271_4:=ho0_b8271_4.mv h6 h7 (by simp)
   have ho0_b8271_5:=ho0_b8271_5.mv h6 h7 (by simp)
   have o9:Enc.device.rd N6 ((d1 :: (a8 :: (a6 :: b4)))++O) o8 ((AI ((AE ((id % 4).toNat:Int) steps k).d)).1):=Enc.mv Enc.device (x:=(AI ((AE ((id % 4).toNat:Int) steps k).d)).1) o9 h6
   have a4:=a4.mv h6
   have a1:=a1.keep h7 (by simp)
   have a7:=a7.keep h7 (by simp)
   have a9:=a9.keep h7 (by simp)
   obtain ⟨b9,rfl,b7⟩:=o9
   have:=b7.len_le
   refine BU (AR (vs:=[vI (((AI ((AE ((id % 4).toNat:Int) steps k).d)).1).id),vI (((AI ((AE ((id % 4).toNat:Int) steps k).d)).1).counter),b9,vO (((AI ((AE ((id % 4).toNat:Int) steps k).d)).1).halted)]) (.agg #[vI (((AI ((AE ((id % 4).toNat:Int) steps k).d)).1).id),vI (((AI ((AE ((id % 4).toNat:Int) steps k).d)).1).counter),b9,vO (((AI ((AE ((id % 4).toNat:Int) steps k).d)).1).halted)]) rfl rfl rfl BS (fun u hu=>by simp only [List.mem_cons,List.not_mem_nil,or_false] at hu;rcases hu with rfl|rfl|rfl|rfl <;> first|rfl|exact b7.oneCell) (by repeat (constructor)) B8 oT N8 fun ay r0 h8 h9 t9=>(?_))
   have a3:=a3.mv h8
   have ho0_b8271_4:=ho0_b8271_4.mv h8 h9 (fun b hb=>AT (C2 b hb))
   have ho0_b8271_5:=ho0_b8271_5.mv h8 h9 (fun b hb=>AT (C3 b hb))
   have b7:=b7.mv h8
   have a4:=a4.mv h8
   have a1:=a1.keep h9 (AT B9)
   have a7:=a7.keep h9 (AT C0)
   have a9:=a9.keep h9 (AT C1)
   refine AB (AG (vI ((AI ((AE ((id % 4).toNat:Int) steps k).d)).2)) rfl (AD (AA (AF (AC kR (AB (AH (vI ((AI ((AE ((id % 4).toNat:Int) steps k).d)).2)) rfl (AB (DB .i64 ((AI ((AE ((id % 4).toNat:Int) steps k).d)).2) (0:Int) rfl rfl (AB (AH (vO (((AI ((AE ((id % 4).toNat:Int) steps k).d)).2) == (0:Int))) rfl (?_))))))))))))
   cases u0:(((AI ((AE ((id % 4).toNat:Int) steps k).d)).2) == (0:Int))
   ·have U9:(AI ((AE ((id % 4).toNat:Int) steps k).d)).2≠(0:Int):=by simpa using u0
    refine BC rfl (AH (vI ((AI ((AE ((id % 4).toNat:Int) steps k).d)).2)) rfl (BC rfl (DB .i64 ((AI ((AE ((id % 4).toNat:Int) steps k).d)).2) (430:Int) rfl rfl (AB (BG (vO (((AI ((AE ((id % 4).toNat:Int) steps k).d)).2) == (430:Int))) rfl rfl (AD (AA (AP (((AI ((AE ((id % 4).toNat:Int) steps k).d)).2) == (430:Int)) rfl rfl (fun p0=>?_) (fun p0=>?_)))))))))
    ·have V0:(AI ((AE ((id % 4).toNat:Int) steps k).d)).2=(430:Int):=by simpa using p0
     refine AC kR (AB (AU (vs:=[vI (((AI ((AE ((id % 4).toNat:Int) steps k).d)).1).id),vI (((AI ((AE ((id % 4).toNat:Int) steps k).d)).1).counter),b9,vO (((AI ((AE ((id % 4).toNat:Int) steps k).d)).1).halted)]) U31_ rfl BS rfl t9 rfl (AB (AM 0 FS rfl (BU (AR (vs:=[vI (((AI ((AE ((id % 4).toNat:Int) steps k).d)).1).id),vI (((AI ((AE ((id % 4).toNat:Int) steps k).d)).1).counter),b9,vO (((AI ((AE ((id % 4).toNat:Int) steps k).d)).1).halted)]) (.agg #[vI (((AI ((AE ((id % 4).toNat:Int) steps k).d)).1).id),vI (((AI ((AE ((id % 4).toNat:Int) steps k).d)).1).counter),b9,vO (((AI ((AE ((id % 4).toNat:Int) steps k).d)).1).halted)]) rfl rfl rfl BS (fun u hu=>by simp only [List.mem_cons,List.not_mem_nil,or_false] at hu;rcases hu with rfl|rfl|rfl|rfl <;> first|rfl|exact b7.oneCell) (by repeat (constructor)) a7 oT r0 fun az N9 k9 l0 C4=>(?_)))))))
     have ho0_b8271_4:=ho0_b8271_4.mv k9 l0 (fun b hb=>AT (e4 b hb))
     have ho0_b8271_5:=ho0_b8271_5.mv k9 l0 (fun b hb=>AT (e5 b hb))
     have b7:=b7.mv k9
     have a4:=a4.mv k9
     have a1:=a1.keep l0 (AT e8)
     have a9:=a9.keep l0 (AT (Ne.symm e9))
     refine AD (BE (AA (AF (AC kR (AB (AU (vs:=[vI (((AI ((AE ((id % 4).toNat:Int) steps k).d)).1).id),vI (((AI ((AE ((id % 4).toNat:Int) steps k).d)).1).counter),b9,vO (((AI ((AE ((id % 4).toNat:Int) steps k).d)).1).halted),a2,a0]) U76_ rfl DQ rfl C4 rfl (BU (AR (vs:=[vI (((AI ((AE ((id % 4).toNat:Int) steps k).d)).1).id),vI (((AI ((AE ((id % 4).toNat:Int) steps k).d)).1).counter),b9,vO (((AI ((AE ((id % 4).toNat:Int) steps k).d)).1).halted),a2,a0]) (.agg #[vI (((AI ((AE ((id % 4).toNat:Int) steps k).d)).1).id),vI (((AI ((AE ((id % 4).toNat:Int) steps k).d)).1).counter),b9,vO (((AI ((AE ((id % 4).toNat:Int) steps k).d)).1).halted),a2,a0]) rfl rfl rfl DQ (fun u hu=>by simp only [List.mem_cons,List.not_mem_nil,or_false] at hu;rcases hu with rfl|rfl|rfl|rfl|rfl|rfl <;> first|rfl|exact b7.oneCell|exact ho0_b8271_4.oneCell|exact ho0_b8271_5.oneCell) (by repeat (constructor)) a9 oT N9 fun aA O0 l1 r1 C5=>(?_)))))))))
     have ho0_b8271_4:=ho0_b8271_4.mv l1 r1 (fun b hb=>AT (c8 b hb))
     have ho0_b8271_5:=ho0_b8271_5.mv l1 r1 (fun b hb=>AT (c9 b hb))
     have b7:=b7.mv l1
     have a4:=a4.mv l1
     have a1:=a1.keep r1 (AT d3)
     refine AD (AA (AN (AY rfl (GF (vs:=[vI (((AI ((AE ((id % 4).toNat:Int) steps k).d)).1).id),vI (((AI ((AE ((id % 4).toNat:Int) steps k).d)).1).counter),b9,vO (((AI ((AE ((id % 4).toNat:Int) steps k).d)).1).halted),a2,a0]) rfl rfl U76_ rfl DQ rfl C5 rfl) (Exists.intro _ (And.intro rfl (BU (AR (vs:=[vI (((AI ((AE ((id % 4).toNat:Int) steps k).d)).1).id),vI (((AI ((AE ((id % 4).toNat:Int) steps k).d)).1).counter),b9,vO (((AI ((AE ((id % 4).toNat:Int) steps k).d)).1).halted),a2,a0]) (.agg #[vI (((AI ((AE ((id % 4).toNat:Int) steps k).d)).1).id),vI (((AI ((AE ((id % 4).toNat:Int) steps k).d)).1).counter),b9,vO (((AI ((AE ((id % 4).toNat:Int) steps k).d)).1).halted),a2,a0]) rfl rfl rfl DQ (fun u hu=>by simp only [List.mem_cons,List.not_mem_nil,or_false] at hu;rcases hu with rfl|rfl|rfl|rfl|rfl|rfl <;> first|rfl|exact b7.oneCell|exact ho0_b8271_4.oneCell|exact ho0_b8271_5.oneCell) rC a1 oT O0 fun aB O1 l2 x3 C6=>(?_))))))))
     have a4:=a4.mv l2
     have ho0_b8271_4:=ho0_b8271_4.mv l2 x3 (fun b hb=>AT (nb0_b8271_4_b8271 b hb))
     have ho0_b8271_5:=ho0_b8271_5.mv l2 x3 (fun b hb=>AT (nb0_b8271_5_b8271 b hb))
     have b7:=b7.mv l2
     refine AD (BE (AA (AC kR (AB (AH (vI ((k:Nat):Int)) rfl (AB (CJ .i64 ((k:Nat):Int) (1:Int) (((k+1:Nat):Int)) rfl rfl (EI oM oM) (AB (AG (vI ((k+1:Nat):Int)) rfl (AD (AA (?_))))))))))))
     exact ⟨_,oM,(k+1),a2,a0,b9,(d1 :: (a8 :: (a6 :: b4))),oM,rfl,⟨_,AQ _ ⟨rfl,rfl,(by rfl),rfl,trivial⟩⟩,O1,(by rw [show (AE ((id % 4).toNat:Int) steps (k+1)).backups=(AE ((id % 4).toNat:Int) steps k).backups from by (rw [BN,do_5b aS aS];done)];exact ho0_b8271_4),b1,(by rw [show (AE ((id % 4).toNat:Int) steps (k+1)).done=(AE ((id % 4).toNat:Int) steps k).done from by (rw [BN,do_5b aS aS];done)];exact ho0_b8271_5),b0,(by rw [show (AE ((id % 4).toNat:Int) steps (k+1)).d.ops=((AI ((AE ((id % 4).toNat:Int) steps k).d)).1).ops from by (rw [BN,do_5b aS aS];done)];exact b7),a4,(by rw [show ([vI ((AE ((id % 4).toNat:Int) steps (k+1)).d.id),vI ((AE ((id % 4).toNat:Int) steps (k+1)).d.counter),b9,vO ((AE ((id % 4).toNat:Int) steps (k+1)).d.halted),a2,a0]:List Value)=[vI (((AI ((AE ((id % 4).toNat:Int) steps k).d)).1).id),vI (((AI ((AE ((id % 4).toNat:Int) steps k).d)).1).counter),b9,vO (((AI ((AE ((id % 4).toNat:Int) steps k).d)).1).halted),a2,a0] from by (rw [BN,do_5b aS aS];done)];exact C6),(by (repeat (first|assumption|apply List.mem_cons_of_mem))),nb0_b8271_4_b8271,nb0_b8271_5_b8271,nn0_b8271_4_b8271_5,nn0_b8271_5_b8271_4⟩
    have V1:(AI ((AE ((id % 4).toNat:Int) steps k).d)).2≠(430:Int):=by simpa using p0
    refine AV (BE (AA (AF (AC kR (AB (AU (vs:=[vI ((AE ((id % 4).toNat:Int) steps k).d.id),vI ((AE ((id % 4).toNat:Int) steps k).d.counter),a5,vO ((AE ((id % 4).toNat:Int) steps k).d.halted),a2,a0]) U76_ rfl DQ rfl a7 rfl (BU (AR (vs:=[vI ((AE ((id % 4).toNat:Int) steps k).d.id),vI ((AE ((id % 4).toNat:Int) steps k).d.counter),a5,vO ((AE ((id % 4).toNat:Int) steps k).d.halted),a2,a0]) (.agg #[vI ((AE ((id % 4).toNat:Int) steps k).d.id),vI ((AE ((id % 4).toNat:Int) steps k).d.counter),a5,vO ((AE ((id % 4).toNat:Int) steps k).d.halted),a2,a0]) rfl rfl rfl DQ (fun u hu=>by simp only [List.mem_cons,List.not_mem_nil,or_false] at hu;rcases hu with rfl|rfl|rfl|rfl|rfl|rfl <;> first|rfl|exact a3.oneCell|exact ho0_b8271_4.oneCell|exact ho0_b8271_5.oneCell) (by repeat (constructor)) a9 oT r0 fun aC O2 l3 r2 C7=>(?_)))))))))
    have a3:=a3.mv l3
    have ho0_b8271_4:=ho0_b8271_4.mv l3 r2 (fun b hb=>AT (c8 b hb))
    have ho0_b8271_5:=ho0_b8271_5.mv l3 r2 (fun b hb=>AT (c9 b hb))
    have a4:=a4.mv l3
    have a1:=a1.keep r2 (AT d3)
    refine AD (AA (AN (AY rfl (GF (vs:=[vI ((AE ((id % 4).toNat:Int) steps k).d.id),vI ((AE ((id % 4).toNat:Int) steps k).d.counter),a5,vO ((AE ((id % 4).toNat:Int) steps k).d.halted),a2,a0]) rfl rfl U76_ rfl DQ rfl C7 rfl) (Exists.intro _ (And.intro rfl (BU (AR (vs:=[vI ((AE ((id % 4).toNat:Int) steps k).d.id),vI ((AE ((id % 4).toNat:Int) steps k).d.counter),a5,vO ((AE ((id % 4).toNat:Int) steps k).d.halted),a2,a0]) (.agg #[vI ((AE ((id % 4).toNat:Int) steps k).d.id),vI ((AE ((id % 4).toNat:Int) steps k).d.counter),a5,vO ((AE ((id % 4).toNat:Int) steps k).d.halted),a2,a0]) rfl rfl rfl DQ (fun u hu=>by simp only [List.mem_cons,List.not_mem_nil,or_false] at hu;rcases hu with rfl|rfl|rfl|rfl|rfl|rfl <;> first|rfl|exact a3.oneCell|exact ho0_b8271_4.oneCell|exact ho0_b8271_5.oneCell) rC a1 oT O2 fun aD O3 l4 x4 C8=>(?_))))))))
    have a4:=a4.mv l4
    have a3:=a3.mv l4
    have ho0_b8271_4:=ho0_b8271_4.mv l4 x4 (fun b hb=>AT (nb0_b8271_4_b8271 b hb))
    have ho0_b8271_5:=ho0_b8271_5.mv l4 x4 (fun b hb=>AT (nb0_b8271_5_b8271 b hb))
    refine AD (BE (AA (AC kR (AB (AH (vI ((k:Nat):Int)) rfl (AB (CJ .i64 ((k:Nat):Int) (1:Int) (((k+1:Nat):Int)) rfl rfl (EI oM oM) (AB (AG (vI ((k+1:Nat):Int)) rfl (AD (AA (?_))))))))))))
    exact ⟨_,oM,(k+1),a2,a0,a5,(d1 :: (a8 :: (a6 :: b4))),oM,rfl,⟨_,AQ _ ⟨rfl,rfl,(by rfl),rfl,trivial⟩⟩,O3,(by rw [show (AE ((id % 4).toNat:Int) steps (k+1)).backups=(AE ((id % 4).toNat:Int) steps k).backups from by (rw [BN,do_5n aS aS aS];done)];exact ho0_b8271_4),b1,(by rw [show (AE ((id % 4).toNat:Int) steps (k+1)).done=(AE ((id % 4).toNat:Int) steps k).done from by (rw [BN,do_5n aS aS aS];done)];exact ho0_b8271_5),b0,(by rw [show (AE ((id % 4).toNat:Int) steps (k+1)).d.ops=(AE ((id % 4).toNat:Int) steps k).d.ops from by (rw [BN,do_5n aS aS aS];done)];exact a3),a4,(by rw [show ([vI ((AE ((id % 4).toNat:Int) steps (k+1)).d.id),vI ((AE ((id % 4).toNat:Int) steps (k+1)).d.counter),a5,vO ((AE ((id % 4).toNat:Int) steps (k+1)).d.halted),a2,a0]:List Value)=[vI ((AE ((id % 4).toNat:Int) steps k).d.id),vI ((AE ((id % 4).toNat:Int) steps k).d.counter),a5,vO ((AE ((id % 4).toNat:Int) steps k).d.halted),a2,a0] from by (rw [BN,do_5n aS aS aS];done)];exact C8),(by (repeat (first|assumption|apply List.mem_cons_of_mem))),nb0_b8271_4_b8271,nb0_b8271_5_b8271,nn0_b8271_4_b8271_5,nn0_b8271_5_b8271_4⟩
   have V2:(AI ((AE ((id % 4).toNat:Int) steps k).d)).2=(0:Int):=by simpa using u0
   refine AW rfl (AW rfl (AB (BF (vO true) rfl rfl (AD (AA (AP true rfl rfl (fun _=>AC kR (AB (AU (vs:=[vI (((AI ((AE ((id % 4).toNat:Int) steps k).d)).1).id),vI (((AI ((AE ((id % 4).toNat:Int) steps k).d)).1).counter),b9,vO (((AI ((AE ((id % 4).toNat:Int) steps k).d)).1).halted)]) U31_ rfl BS rfl t9 rfl (AB (AM 0 FS rfl (BU (AR (vs:=[vI (((AI ((AE ((id % 4).toNat:Int) steps k).d)).1).id),vI (((AI ((AE ((id % 4).toNat:Int) steps k).d)).1).counter),b9,vO (((AI ((AE ((id % 4).toNat:Int) steps k).d)).1).halted)]) (.agg #[vI (((AI ((AE ((id % 4).toNat:Int) steps k).d)).1).id),vI (((AI ((AE ((id % 4).toNat:Int) steps k).d)).1).counter),b9,vO (((AI ((AE ((id % 4).toNat:Int) steps k).d)).1).halted)]) rfl rfl rfl BS (fun u hu=>by simp only [List.mem_cons,List.not_mem_nil,or_false] at hu;rcases hu with rfl|rfl|rfl|rfl <;> first|rfl|exact b7.oneCell) (by repeat (constructor)) a7 oT r0 fun aE O4 l5 l6 C9=>(?_)))))))) (fun h=>by cases h)))))))
   have ho0_b8271_4:=ho0_b8271_4.mv l5 l6 (fun b hb=>AT (e4 b hb))
   have ho0_b8271_5:=ho0_b8271_5.mv l5 l6 (fun b hb=>AT (e5 b hb))
   have b7:=b7.mv l5
   have a4:=a4.mv l5
   have a1:=a1.keep l6 (AT e8)
   have a9:=a9.keep l6 (AT (Ne.symm e9))
   refine AD (BE (AA (AF (AC kR (AB (AU (vs:=[vI (((AI ((AE ((id % 4).toNat:Int) steps k).d)).1).id),vI (((AI ((AE ((id % 4).toNat:Int) steps k).d)).1).counter),b9,vO (((AI ((AE ((id % 4).toNat:Int) steps k).d)).1).halted),a2,a0]) U76_ rfl DQ rfl C9 rfl (BU (AR (vs:=[vI (((AI ((AE ((id % 4).toNat:Int) steps k).d)).1).id),vI (((AI ((AE ((id % 4).toNat:Int) steps k).d)).1).counter),b9,vO (((AI ((AE ((id % 4).toNat:Int) steps k).d)).1).halted),a2,a0]) (.agg #[vI (((AI ((AE ((id % 4).toNat:Int) steps k).d)).1).id),vI (((AI ((AE ((id % 4).toNat:Int) steps k).d)).1).counter),b9,vO (((AI ((AE ((id % 4).toNat:Int) steps k).d)).1).halted),a2,a0]) rfl rfl rfl DQ (fun u hu=>by simp only [List.mem_cons,List.not_mem_nil,or_false] at hu;rcases hu with rfl|rfl|rfl|rfl|rfl|rfl <;> first|rfl|exact b7.oneCell|exact ho0_b8271_4.oneCell|exact ho0_b8271_5.oneCell) (by repeat (constructor)) a9 oT O4 fun aF O5 l7 r3 D0=>(?_)))))))))
   have ho0_b8271_4:=ho0_b8271_4.mv l7 r3 (fun b hb=>AT (c8 b hb))
   have ho0_b8271_5:=ho0_b8271_5.mv l7 r3 (fun b hb=>AT (c9 b hb))
   have b7:=b7.mv l7
   have a4:=a4.mv l7
   have a1:=a1.keep r3 (AT d3)
   refine AD (AA (AN (AY rfl (GF (vs:=[vI (((AI ((AE ((id % 4).toNat:Int) steps k).d)).1).id),vI (((AI ((AE ((id % 4).toNat:Int) steps k).d)).1).counter),b9,vO (((AI ((AE ((id % 4).toNat:Int) steps k).d)).1).halted),a2,a0]) rfl rfl U76_ rfl DQ rfl D0 rfl) (Exists.intro _ (And.intro rfl (BU (AR (vs:=[vI (((AI ((AE ((id % 4).toNat:Int) steps k).d)).1).id),vI (((AI ((AE ((id % 4).toNat:Int) steps k).d)).1).counter),b9,vO (((AI ((AE ((id % 4).toNat:Int) steps k).d)).1).halted),a2,a0]) (.agg #[vI (((AI ((AE ((id % 4).toNat:Int) steps k).d)).1).id),vI (((AI ((AE ((id % 4).toNat:Int) steps k).d)).1).counter),b9,vO (((AI ((AE ((id % 4).toNat:Int) steps k).d)).1).halted),a2,a0]) rfl rfl rfl DQ (fun u hu=>by simp only [List.mem_cons,List.not_mem_nil,or_false] at hu;rcases hu with rfl|rfl|rfl|rfl|rfl|rfl <;> first|rfl|exact b7.oneCell|exact ho0_b8271_4.oneCell|exact ho0_b8271_5.oneCell) rC a1 oT O5 fun aG O6 l8 x5 D1=>(?_))))))))
   have a4:=a4.mv l8
   have ho0_b8271_4:=ho0_b8271_4.mv l8 x5 (fun b hb=>AT (nb0_b8271_4_b8271 b hb))
   have ho0_b8271_5:=ho0_b8271_5.mv l8 x5 (fun b hb=>AT (nb0_b8271_5_b8271 b hb))
   have b7:=b7.mv l8
   refine AD (BE (AA (AC kR (AB (AH (vI ((k:Nat):Int)) rfl (AB (CJ .i64 ((k:Nat):Int) (1:Int) (((k+1:Nat):Int)) rfl rfl (EI oM oM) (AB (AG (vI ((k+1:Nat):Int)) rfl (AD (AA (?_))))))))))))
   exact ⟨_,oM,(k+1),a2,a0,b9,(d1 :: (a8 :: (a6 :: b4))),oM,rfl,⟨_,AQ _ ⟨rfl,rfl,(by rfl),rfl,trivial⟩⟩,O6,(by rw [show (AE ((id % 4).toNat:Int) steps (k+1)).backups=(AE ((id % 4).toNat:Int) steps k).backups from by (rw [BN,do_5a aS aS];done)];exact ho0_b8271_4),b1,(by rw [show (AE ((id % 4).toNat:Int) steps (k+1)).done=(AE ((id % 4).toNat:Int) steps k).done from by (rw [BN,do_5a aS aS];done)];exact ho0_b8271_5),b0,(by rw [show (AE ((id % 4).toNat:Int) steps (k+1)).d.ops=((AI ((AE ((id % 4).toNat:Int) steps k).d)).1).ops from by (rw [BN,do_5a aS aS];done)];exact b7),a4,(by rw [show ([vI ((AE ((id % 4).toNat:Int) steps (k+1)).d.id),vI ((AE ((id % 4).toNat:Int) steps (k+1)).d.counter),b9,vO ((AE ((id % 4).toNat:Int) steps (k+1)).d.halted),a2,a0]:List Value)=[vI (((AI ((AE ((id % 4).toNat:Int) steps k).d)).1).id),vI (((AI ((AE ((id % 4).toNat:Int) steps k).d)).1).counter),b9,vO (((AI ((AE ((id % 4).toNat:Int) steps k).d)).1).halted),a2,a0] from by (rw [BN,do_5a aS aS];done)];exact D1),(by (repeat (first|assumption|apply List.mem_cons_of_mem))),nb0_b8271_4_b8271,nb0_b8271_5_b8271,nn0_b8271_4_b8271_5,nn0_b8271_5_b8271_4⟩
  have V3:((steps[k]!).kind) % 7≠(5:UInt8):=by simpa using o7
  refine AF (AC kR (AB (LY (((steps[k]!).kind) % 7) (6:UInt8) rfl rfl (AB (AG (vO ((((steps[k]!).kind) % 7) == (6:UInt8))) rfl (AD (AA (AP ((((steps[k]!).kind) % 7) == (6:UInt8)) rfl rfl (fun p1=>?_) (fun p1=>?_)))))))))
  ·have V4:((steps[k]!).kind) % 7=(6:UInt8):=by simpa using p1
   refine AF (cw_draw' 13 _ _ [CT (vP (some ⟨a6,0,none⟩)),CT (vP (some ⟨a6,2,none⟩)),fun (vT:Value) (wT:World)=>CG Enc.devop wT ((a8 :: (a6 :: b4))++O) vT ((AE ((id % 4).toNat:Int) steps k).d.ops),CT (vP (some ⟨a6,0,none⟩)),CT (vP (some ⟨a6,0,none⟩)),CT (vI ((AE ((id % 4).toNat:Int) steps k).d.id)),fun (vT:Value) (wT:World)=>∃ csT:List Value,vT = .agg csT.toArray∧Enc.step.rd wT ((a8 :: (a6 :: b4))++O) csT (steps[k]!),CT (vA #[vI ((BQ ((AE ((id % 4).toNat:Int) steps k).d.id) (steps[k]!)).device),vI ((BQ ((AE ((id % 4).toNat:Int) steps k).d.id) (steps[k]!)).no),vI ((BQ ((AE ((id % 4).toNat:Int) steps k).d.id) (steps[k]!)).kind),vI ((BQ ((AE ((id % 4).toNat:Int) steps k).d.id) (steps[k]!)).copy),vI ((BQ ((AE ((id % 4).toNat:Int) steps k).d.id) (steps[k]!)).to),vI ((BQ ((AE ((id % 4).toNat:Int) steps k).d.id) (steps[k]!)).token)]),fun (vT:Value) (wT:World)=>∃ (xT0:Value),vT = .tuple #[xT0,vI ((CB ((AE ((id % 4).toNat:Int) steps k).d.ops) (BQ ((AE ((id % 4).toNat:Int) steps k).d.id) (steps[k]!))).2)]∧CG Enc.devop wT ((a8 :: (a6 :: b4))++O) xT0 ((CB ((AE ((id % 4).toNat:Int) steps k).d.ops) (BQ ((AE ((id % 4).toNat:Int) steps k).d.id) (steps[k]!))).1),fun (vT:Value) (wT:World)=>∃ (xT0:Value),vT = .tuple #[xT0,vI ((CB ((AE ((id % 4).toNat:Int) steps k).d.ops) (BQ ((AE ((id % 4).toNat:Int) steps k).d.id) (steps[k]!))).2)]∧CG Enc.devop wT ((a8 :: (a6 :: b4))++O) xT0 ((CB ((AE ((id % 4).toNat:Int) steps k).d.ops) (BQ ((AE ((id % 4).toNat:Int) steps k).d.id) (steps[k]!))).1),fun (vT:Value) (wT:World)=>CG Enc.devop wT ((a8 :: (a6 :: b4))++O) vT ((CB ((AE ((id % 4).toNat:Int) steps k).d.ops) (BQ ((AE ((id % 4).toNat:Int) steps k).d.id) (steps[k]!))).1),CT (vI ((CB ((AE ((id % 4).toNat:Int) steps k).d.ops) (BQ ((AE ((id % 4).toNat:Int) steps k).d.id) (steps[k]!))).2)),fun (vT:Value) (wT:World)=>CG Enc.devop wT ((a8 :: (a6 :: b4))++O) vT ((CB ((AE ((id % 4).toNat:Int) steps k).d.ops) (BQ ((AE ((id % 4).toNat:Int) steps k).d.id) (steps[k]!))).1)] kR kR kR kR rfl rfl ⟨kI,kI,fun _ _ _ h k=>h.mv (Mv.of_keep k),kI,kI,kI,fun _ _ _ ⟨a,e,h⟩ k=>⟨a,e,Enc.mv _ h (Mv.of_keep k)⟩,kI,fun _ _ _ ⟨y0,e,h0⟩ k=>⟨y0,e,h0.mv (Mv.of_keep k)⟩,fun _ _ _ ⟨y0,e,h0⟩ k=>⟨y0,e,h0.mv (Mv.of_keep k)⟩,fun _ _ _ h k=>h.mv (Mv.of_keep k),kI,fun _ _ _ h k=>h.mv (Mv.of_keep k),trivial⟩ ⟨?_,?_,?_,?_,?_,?_,?_,?_,?_,?_,?_,?_,?_,trivial⟩ ?_)
   ·intro F1 w1 k1 hf hd
    obtain ⟨F2,rfl⟩:=AL (F:=F1) [(2,vP (some ⟨a6,0,none⟩))] ⟨hf 2 kR,trivial⟩
    exact AJ rfl ((AM 0 FS rfl (⟨(Keep.refl _ _),rfl⟩)))
   ·intro F1 w1 k1 hf hd
    obtain ⟨F2,rfl⟩:=AL (F:=F1) [(94,vP (some ⟨a6,0,none⟩))] ⟨hd 0 94 kR,trivial⟩
    exact AJ rfl ((AM 2 FC rfl (⟨(Keep.refl _ _),rfl⟩)))
   ·intro F1 w1 k1 hf hd
    have k0:=(Keep.drew [] c5).trans k1
    have m1:Mv (a8 :: (a6 :: b4)) c5 (a8 :: (a6 :: b4)) w1:=Mv.of_keep k0
    have a7:=a7.keep k0 (by simp)
    have a3:=a3.mv m1
    obtain ⟨F2,rfl⟩:=AL (F:=F1) [(95,vP (some ⟨a6,2,none⟩))] ⟨hd 1 95 kR,trivial⟩
    exact AJ rfl ((BA U26_ rfl (a5) rfl a7 rfl (⟨(Keep.refl _ _),a3⟩)))
   ·intro F1 w1 k1 hf hd
    obtain ⟨F2,rfl⟩:=AL (F:=F1) [(2,vP (some ⟨a6,0,none⟩))] ⟨hf 2 kR,trivial⟩
    exact AJ rfl ((AM 0 FS rfl (⟨(Keep.refl _ _),rfl⟩)))
   ·intro F1 w1 k1 hf hd
    obtain ⟨F2,rfl⟩:=AL (F:=F1) [(97,vP (some ⟨a6,0,none⟩))] ⟨hd 3 97 kR,trivial⟩
    exact AJ rfl ((AM 0 HN rfl (⟨(Keep.refl _ _),rfl⟩)))
   ·intro F1 w1 k1 hf hd
    have k0:=(Keep.drew [] c5).trans k1
    have a7:=a7.keep k0 (by simp)
    obtain ⟨F2,rfl⟩:=AL (F:=F1) [(98,vP (some ⟨a6,0,none⟩))] ⟨hd 4 98 kR,trivial⟩
    exact AJ rfl ((BA U3_ rfl (vI ((AE ((id % 4).toNat:Int) steps k).d.id)) rfl a7 rfl (⟨(Keep.refl _ _),rfl⟩)))
   ·intro F1 w1 k1 hf hd
    have k0:=(Keep.drew [] c5).trans k1
    have m1:Mv (a8 :: (a6 :: b4)) c5 (a8 :: (a6 :: b4)) w1:=Mv.of_keep k0
    have b6:=b6.mv m1
    obtain ⟨F2,rfl⟩:=AL (F:=F1) [(3,vP (some L3))] ⟨hf 3 kR,trivial⟩
    exact AJ rfl ((BZ U79_ rfl s_79 rfl b6 fun D2 D3=>(⟨(Keep.refl _ _),⟨D2,rfl,D3⟩⟩)))
   ·intro F1 w1 k1 hf hd
    have k0:=(Keep.drew [] c5).trans k1
    have s1:=d9.call k0
    obtain ⟨p2,O7,D4⟩:∃ cs:List Value,F1 100 = .agg cs.toArray∧Enc.step.rd w1 ((a8 :: (a6 :: b4))++O) cs (steps[k]!):=hd 6 100 kR
    obtain ⟨F2,rfl⟩:=AL (F:=F1) [(99,vI ((AE ((id % 4).toNat:Int) steps k).d.id)),(100,vA p2.toArray)] ⟨hd 5 99 kR,O7,trivial⟩
    refine AJ rfl ((BD (vs:=[vI ((AE ((id % 4).toNat:Int) steps k).d.id),vA p2.toArray]) enter_53 (c_other (O:=(a8 :: (a6 :: b4))++O) ((AE ((id % 4).toNat:Int) steps k).d.id) p2 (steps[k]!) w1 D4 oM oM s1.lt) rfl s1 fun aH aI aJ aK O8 O9=>(?_)))
    obtain ⟨V5,rfl,D5⟩:=O9
    obtain rfl:=D5
    exact ⟨O8,rfl⟩
   ·intro F1 w1 k1 hf hd
    have k0:=(Keep.drew [] c5).trans k1
    have s1:=d9.call k0
    obtain ⟨r4,P0,u1⟩:∃ v,F1 96=v∧CG Enc.devop w1 ((a8 :: (a6 :: b4))++O) v ((AE ((id % 4).toNat:Int) steps k).d.ops):=⟨_,rfl,hd 2 96 kR⟩
    have:=u1.len_le
    obtain ⟨F2,rfl⟩:=AL (F:=F1) [(96,r4),(101,vA #[vI ((BQ ((AE ((id % 4).toNat:Int) steps k).d.id) (steps[k]!)).device),vI ((BQ ((AE ((id % 4).toNat:Int) steps k).d.id) (steps[k]!)).no),vI ((BQ ((AE ((id % 4).toNat:Int) steps k).d.id) (steps[k]!)).kind),vI ((BQ ((AE ((id % 4).toNat:Int) steps k).d.id) (steps[k]!)).copy),vI ((BQ ((AE ((id % 4).toNat:Int) steps k).d.id) (steps[k]!)).to),vI ((BQ ((AE ((id % 4).toNat:Int) steps k).d.id) (steps[k]!)).token)])] ⟨P0,hd 7 101 kR,trivial⟩
    refine AJ rfl ((BD (vs:=[r4,vA #[vI ((BQ ((AE ((id % 4).toNat:Int) steps k).d.id) (steps[k]!)).device),vI ((BQ ((AE ((id % 4).toNat:Int) steps k).d.id) (steps[k]!)).no),vI ((BQ ((AE ((id % 4).toNat:Int) steps k).d.id) (steps[k]!)).kind),vI ((BQ ((AE ((id % 4).toNat:Int) steps k).d.id) (steps[k]!)).copy),vI ((BQ ((AE ((id % 4).toNat:Int) steps k).d.id) (steps[k]!)).to),vI ((BQ ((AE ((id % 4).toNat:Int) steps k).d.id) (steps[k]!)).token)]]) enter_23 (c_add (O:=(a8 :: (a6 :: b4))++O) r4 ((AE ((id % 4).toNat:Int) steps k).d.ops) [vI ((BQ ((AE ((id % 4).toNat:Int) steps k).d.id) (steps[k]!)).device),vI ((BQ ((AE ((id % 4).toNat:Int) steps k).d.id) (steps[k]!)).no),vI ((BQ ((AE ((id % 4).toNat:Int) steps k).d.id) (steps[k]!)).kind),vI ((BQ ((AE ((id % 4).toNat:Int) steps k).d.id) (steps[k]!)).copy),vI ((BQ ((AE ((id % 4).toNat:Int) steps k).d.id) (steps[k]!)).to),vI ((BQ ((AE ((id % 4).toNat:Int) steps k).d.id) (steps[k]!)).token)] (BQ ((AE ((id % 4).toNat:Int) steps k).d.id) (steps[k]!)) w1 u1 rfl s1.lt) rfl s1 fun aL aM aN aO P1 P2=>(?_)))
    obtain ⟨P3,rfl,u2⟩:=P2
    have:=u2.len_le
    exact ⟨P1,⟨P3,rfl,u2⟩⟩
   ·intro F1 w1 k1 hf hd
    obtain ⟨r5,P4,u3⟩:(fun (vT:Value) (wT:World)=>∃ (xT0:Value),vT = .tuple #[xT0,vI ((CB ((AE ((id % 4).toNat:Int) steps k).d.ops) (BQ ((AE ((id % 4).toNat:Int) steps k).d.id) (steps[k]!))).2)]∧CG Enc.devop wT ((a8 :: (a6 :: b4))++O) xT0 ((CB ((AE ((id % 4).toNat:Int) steps k).d.ops) (BQ ((AE ((id % 4).toNat:Int) steps k).d.id) (steps[k]!))).1)) (F1 102) w1:=hd 8 102 kR
    have:=u3.len_le
    obtain ⟨F2,rfl⟩:=AL (F:=F1) [(102,vT #[r5,vI ((CB ((AE ((id % 4).toNat:Int) steps k).d.ops) (BQ ((AE ((id % 4).toNat:Int) steps k).d.id) (steps[k]!))).2)])] ⟨P4,trivial⟩
    exact AJ rfl ((AH (vT #[r5,vI ((CB ((AE ((id % 4).toNat:Int) steps k).d.ops) (BQ ((AE ((id % 4).toNat:Int) steps k).d.id) (steps[k]!))).2)]) rfl (⟨(Keep.refl _ _),⟨r5,rfl,u3⟩⟩)))
   ·intro F1 w1 k1 hf hd
    obtain ⟨x6,P5,u4⟩:(fun (vT:Value) (wT:World)=>∃ (xT0:Value),vT = .tuple #[xT0,vI ((CB ((AE ((id % 4).toNat:Int) steps k).d.ops) (BQ ((AE ((id % 4).toNat:Int) steps k).d.id) (steps[k]!))).2)]∧CG Enc.devop wT ((a8 :: (a6 :: b4))++O) xT0 ((CB ((AE ((id % 4).toNat:Int) steps k).d.ops) (BQ ((AE ((id % 4).toNat:Int) steps k).d.id) (steps[k]!))).1)) (F1 93) w1:=hd 9 93 kR
    have:=u4.len_le
    obtain ⟨F2,rfl⟩:=AL (F:=F1) [(93,vT #[x6,vI ((CB ((AE ((id % 4).toNat:Int) steps k).d.ops) (BQ ((AE ((id % 4).toNat:Int) steps k).d.id) (steps[k]!))).2)])] ⟨P5,trivial⟩
    exact AJ rfl ((BJ (x6) rfl rfl (⟨(Keep.refl _ _),u4⟩)))
   ·intro F1 w1 k1 hf hd
    obtain ⟨P6,P7,D6⟩:(fun (vT:Value) (wT:World)=>∃ (xT0:Value),vT = .tuple #[xT0,vI ((CB ((AE ((id % 4).toNat:Int) steps k).d.ops) (BQ ((AE ((id % 4).toNat:Int) steps k).d.id) (steps[k]!))).2)]∧CG Enc.devop wT ((a8 :: (a6 :: b4))++O) xT0 ((CB ((AE ((id % 4).toNat:Int) steps k).d.ops) (BQ ((AE ((id % 4).toNat:Int) steps k).d.id) (steps[k]!))).1)) (F1 93) w1:=hd 9 93 kR
    have:=D6.len_le
    obtain ⟨F2,rfl⟩:=AL (F:=F1) [(93,vT #[P6,vI ((CB ((AE ((id % 4).toNat:Int) steps k).d.ops) (BQ ((AE ((id % 4).toNat:Int) steps k).d.id) (steps[k]!))).2)])] ⟨P7,trivial⟩
    exact AJ rfl ((BJ (vI ((CB ((AE ((id % 4).toNat:Int) steps k).d.ops) (BQ ((AE ((id % 4).toNat:Int) steps k).d.id) (steps[k]!))).2)) rfl rfl (⟨(Keep.refl _ _),rfl⟩)))
   ·intro F1 w1 k1 hf hd
    obtain ⟨x7,P8,u5⟩:∃ v,F1 103=v∧CG Enc.devop w1 ((a8 :: (a6 :: b4))++O) v ((CB ((AE ((id % 4).toNat:Int) steps k).d.ops) (BQ ((AE ((id % 4).toNat:Int) steps k).d.id) (steps[k]!))).1):=⟨_,rfl,hd 10 103 kR⟩
    have:=u5.len_le
    obtain ⟨F2,rfl⟩:=AL (F:=F1) [(103,x7)] ⟨P8,trivial⟩
    exact AJ rfl ((AG (x7) rfl (⟨(Keep.refl _ _),u5⟩)))
   intro x8 x9 f4 p3 i0
   have y1:=d9.call f4
   have l9:Mv (a8 :: (a6 :: b4)) c5 (a8 :: (a6 :: b4)) x9:=Mv.of_keep f4
   have a3:=a3.mv l9
   have ho0_b8271_4:=ho0_b8271_4.mv l9 f4 (by simp)
   have ho0_b8271_5:=ho0_b8271_5.mv l9 f4 (by simp)
   have a4:=a4.mv l9
   have a1:=a1.keep f4 (by simp)
   have a7:=a7.keep f4 (by simp)
   have a9:=a9.keep f4 (by simp)
   obtain ⟨e0,P9,d5⟩:∃ v,x8 7=v∧CG Enc.devop x9 ((a8 :: (a6 :: b4))++O) v ((CB ((AE ((id % 4).toNat:Int) steps k).d.ops) (BQ ((AE ((id % 4).toNat:Int) steps k).d.id) (steps[k]!))).1):=⟨_,rfl,p3 12 7 kR (by decide)⟩
   have:=d5.len_le
   obtain ⟨F2,rfl⟩:=AL (F:=x8) [(2,vP (some ⟨a6,0,none⟩)),(4,vP (some ⟨a8,0,none⟩)),(111,undef),(7,e0),(104,vI ((CB ((AE ((id % 4).toNat:Int) steps k).d.ops) (BQ ((AE ((id % 4).toNat:Int) steps k).d.id) (steps[k]!))).2))] ⟨i0 2 kR,i0 4 kR,i0 111 kR,P9,p3 11 104 kR (by decide),trivial⟩
   clear p3 i0
   refine AB (AG (vI ((CB ((AE ((id % 4).toNat:Int) steps k).d.ops) (BQ ((AE ((id % 4).toNat:Int) steps k).d.id) (steps[k]!))).2)) rfl (AD (AA (AF (AC kR (AB (AH (vI ((CB ((AE ((id % 4).toNat:Int) steps k).d.ops) (BQ ((AE ((id % 4).toNat:Int) steps k).d.id) (steps[k]!))).2)) rfl (AB (DB .i64 ((CB ((AE ((id % 4).toNat:Int) steps k).d.ops) (BQ ((AE ((id % 4).toNat:Int) steps k).d.id) (steps[k]!))).2) (0:Int) rfl rfl (AD (AA (AP (((CB ((AE ((id % 4).toNat:Int) steps k).d.ops) (BQ ((AE ((id % 4).toNat:Int) steps k).d.id) (steps[k]!))).2) == (0:Int)) rfl rfl (fun p4=>?_) (fun p4=>?_)))))))))))))
   ·have V6:(CB ((AE ((id % 4).toNat:Int) steps k).d.ops) (BQ ((AE ((id % 4).toNat:Int) steps k).d.id) (steps[k]!))).2=(0:Int):=by simpa using p4
    refine AC kR (AB (AH (e0) rfl (AB (AM 0 FS rfl (AB (AM 2 FC rfl (BU (CS (e0) rfl rfl d5.oneCell s_26 (by repeat (constructor)) a7 oT y1 fun aP Q0 m0 m2 D7=>(?_)))))))))
    have d5:=d5.mv m0
    have a4:=a4.mv m0
    have ho0_b8271_4:=ho0_b8271_4.mv m0 m2 (fun b hb=>AT (e4 b hb))
    have ho0_b8271_5:=ho0_b8271_5.mv m0 m2 (fun b hb=>AT (e5 b hb))
    have a1:=a1.keep m2 (AT e8)
    have a9:=a9.keep m2 (AT (Ne.symm e9))
    refine AD (BE (AA (AF (AC kR (AB (AU (vs:=[vI ((AE ((id % 4).toNat:Int) steps k).d.id),vI ((AE ((id % 4).toNat:Int) steps k).d.counter),e0,vO ((AE ((id % 4).toNat:Int) steps k).d.halted),a2,a0]) U76_ rfl DQ rfl D7 rfl (BU (AR (vs:=[vI ((AE ((id % 4).toNat:Int) steps k).d.id),vI ((AE ((id % 4).toNat:Int) steps k).d.counter),e0,vO ((AE ((id % 4).toNat:Int) steps k).d.halted),a2,a0]) (.agg #[vI ((AE ((id % 4).toNat:Int) steps k).d.id),vI ((AE ((id % 4).toNat:Int) steps k).d.counter),e0,vO ((AE ((id % 4).toNat:Int) steps k).d.halted),a2,a0]) rfl rfl rfl DQ (fun u hu=>by simp only [List.mem_cons,List.not_mem_nil,or_false] at hu;rcases hu with rfl|rfl|rfl|rfl|rfl|rfl <;> first|rfl|exact d5.oneCell|exact ho0_b8271_4.oneCell|exact ho0_b8271_5.oneCell) (by repeat (constructor)) a9 oT Q0 fun aQ Q1 m3 r6 D8=>(?_)))))))))
    have d5:=d5.mv m3
    have ho0_b8271_4:=ho0_b8271_4.mv m3 r6 (fun b hb=>AT (c8 b hb))
    have ho0_b8271_5:=ho0_b8271_5.mv m3 r6 (fun b hb=>AT (c9 b hb))
    have a4:=a4.mv m3
    have a1:=a1.keep r6 (AT d3)
    refine AD (AA (AN (AY rfl (GF (vs:=[vI ((AE ((id % 4).toNat:Int) steps k).d.id),vI ((AE ((id % 4).toNat:Int) steps k).d.counter),e0,vO ((AE ((id % 4).toNat:Int) steps k).d.halted),a2,a0]) rfl rfl U76_ rfl DQ rfl D8 rfl) (Exists.intro _ (And.intro rfl (BU (AR (vs:=[vI ((AE ((id % 4).toNat:Int) steps k).d.id),vI ((AE ((id % 4).toNat:Int) steps k).d.counter),e0,vO ((AE ((id % 4).toNat:Int) steps k).d.halted),a2,a0]) (.agg #[vI ((AE ((id % 4).toNat:Int) steps k).d.id),vI ((AE ((id % 4).toNat:Int) steps k).d.counter),e0,vO ((AE ((id % 4).toNat:Int) steps k).d.halted),a2,a0]) rfl rfl rfl DQ (fun u hu=>by simp only [List.mem_cons,List.not_mem_nil,or_false] at hu;rcases hu with rfl|rfl|rfl|rfl|rfl|rfl <;> first|rfl|exact d5.oneCell|exact ho0_b8271_4.oneCell|exact ho0_b8271_5.oneCell) rC a1 oT Q1 fun aR Q2 m4 y2 D9=>(?_))))))))
    have a4:=a4.mv m4
    have ho0_b8271_4:=ho0_b8271_4.mv m4 y2 (fun b hb=>AT (nb0_b8271_4_b8271 b hb))
    have ho0_b8271_5:=ho0_b8271_5.mv m4 y2 (fun b hb=>AT (nb0_b8271_5_b8271 b hb))
    have d5:=d5.mv m4
    refine AD (BE (AA (AC kR (AB (AH (vI ((k:Nat):Int)) rfl (AB (CJ .i64 ((k:Nat):Int) (1:Int) (((k+1:Nat):Int)) rfl rfl (EI oM oM) (AB (AG (vI ((k+1:Nat):Int)) rfl (AD (AA (?_))))))))))))
    exact ⟨_,oM,(k+1),a2,a0,e0,(a8 :: (a6 :: b4)),oM,rfl,⟨_,AQ _ ⟨rfl,rfl,(by rfl),rfl,trivial⟩⟩,Q2,(by rw [show (AE ((id % 4).toNat:Int) steps (k+1)).backups=(AE ((id % 4).toNat:Int) steps k).backups from by (rw [BN,do_6y aS aS];done)];exact ho0_b8271_4),b1,(by rw [show (AE ((id % 4).toNat:Int) steps (k+1)).done=(AE ((id % 4).toNat:Int) steps k).done from by (rw [BN,do_6y aS aS];done)];exact ho0_b8271_5),b0,(by rw [show (AE ((id % 4).toNat:Int) steps (k+1)).d.ops=(CB ((AE ((id % 4).toNat:Int) steps k).d.ops) (BQ ((AE ((id % 4).toNat:Int) steps k).d.id) (steps[k]!))).1 from by (rw [BN,do_6y aS aS];rfl)];exact d5),a4,(by rw [show ([vI ((AE ((id % 4).toNat:Int) steps (k+1)).d.id),vI ((AE ((id % 4).toNat:Int) steps (k+1)).d.counter),e0,vO ((AE ((id % 4).toNat:Int) steps (k+1)).d.halted),a2,a0]:List Value)=[vI ((AE ((id % 4).toNat:Int) steps k).d.id),vI ((AE ((id % 4).toNat:Int) steps k).d.counter),e0,vO ((AE ((id % 4).toNat:Int) steps k).d.halted),a2,a0] from by (rw [BN,do_6y aS aS];rfl)];exact D9),(by (repeat (first|assumption|apply List.mem_cons_of_mem))),nb0_b8271_4_b8271,nb0_b8271_5_b8271,nn0_b8271_4_b8271_5,nn0_b8271_5_b8271_4⟩
   have V7:(CB ((AE ((id % 4).toNat:Int) steps k).d.ops) (BQ ((AE ((id % 4).toNat:Int) steps k).d.id) (steps[k]!))).2≠(0:Int):=by simpa using p4
   refine AV (BE (AA (AF (AC kR (AB (AU (vs:=[vI ((AE ((id % 4).toNat:Int) steps k).d.id),vI ((AE ((id % 4).toNat:Int) steps k).d.counter),a5,vO ((AE ((id % 4).toNat:Int) steps k).d.halted),a2,a0]) U76_ rfl DQ rfl a7 rfl (BU (AR (vs:=[vI ((AE ((id % 4).toNat:Int) steps k).d.id),vI ((AE ((id % 4).toNat:Int) steps k).d.counter),a5,vO ((AE ((id % 4).toNat:Int) steps k).d.halted),a2,a0]) (.agg #[vI ((AE ((id % 4).toNat:Int) steps k).d.id),vI ((AE ((id % 4).toNat:Int) steps k).d.counter),a5,vO ((AE ((id % 4).toNat:Int) steps k).d.halted),a2,a0]) rfl rfl rfl DQ (fun u hu=>by simp only [List.mem_cons,List.not_mem_nil,or_false] at hu;rcases hu with rfl|rfl|rfl|rfl|rfl|rfl <;> first|rfl|exact a3.oneCell|exact ho0_b8271_4.oneCell|exact ho0_b8271_5.oneCell) (by repeat (constructor)) a9 oT y1 fun aT Q3 m5 r7 E0=>(?_)))))))))
   have a3:=a3.mv m5
   have ho0_b8271_4:=ho0_b8271_4.mv m5 r7 (fun b hb=>AT (c8 b hb))
   have ho0_b8271_5:=ho0_b8271_5.mv m5 r7 (fun b hb=>AT (c9 b hb))
   have a4:=a4.mv m5
   have a1:=a1.keep r7 (AT d3)
   refine AD (AA (AN (AY rfl (GF (vs:=[vI ((AE ((id % 4).toNat:Int) steps k).d.id),vI ((AE ((id % 4).toNat:Int) steps k).d.counter),a5,vO ((AE ((id % 4).toNat:Int) steps k).d.halted),a2,a0]) rfl rfl U76_ rfl DQ rfl E0 rfl) (Exists.intro _ (And.intro rfl (BU (AR (vs:=[vI ((AE ((id % 4).toNat:Int) steps k).d.id),vI ((AE ((id % 4).toNat:Int) steps k).d.counter),a5,vO ((AE ((id % 4).toNat:Int) steps k).d.halted),a2,a0]) (.agg #[vI ((AE ((id % 4).toNat:Int) steps k).d.id),vI ((AE ((id % 4).toNat:Int) steps k).d.counter),a5,vO ((AE ((id % 4).toNat:Int) steps k).d.halted),a2,a0]) rfl rfl rfl DQ (fun u hu=>by simp only [List.mem_cons,List.not_mem_nil,or_false] at hu;rcases hu with rfl|rfl|rfl|rfl|rfl|rfl <;> first|rfl|exact a3.oneCell|exact ho0_b8271_4.oneCell|exact ho0_b8271_5.oneCell) rC a1 oT Q3 fun aU Q4 m6 y3 E1=>(?_))))))))
   have a4:=a4.mv m6
   have a3:=a3.mv m6
   have ho0_b8271_4:=ho0_b8271_4.mv m6 y3 (fun b hb=>AT (nb0_b8271_4_b8271 b hb))
   have ho0_b8271_5:=ho0_b8271_5.mv m6 y3 (fun b hb=>AT (nb0_b8271_5_b8271 b hb))
   refine AD (BE (AA (AC kR (AB (AH (vI ((k:Nat):Int)) rfl (AB (CJ .i64 ((k:Nat):Int) (1:Int) (((k+1:Nat):Int)) rfl rfl (EI oM oM) (AB (AG (vI ((k+1:Nat):Int)) rfl (AD (AA (?_))))))))))))
   exact ⟨_,oM,(k+1),a2,a0,a5,(a8 :: (a6 :: b4)),oM,rfl,⟨_,AQ _ ⟨rfl,rfl,(by rfl),rfl,trivial⟩⟩,Q4,(by rw [show (AE ((id % 4).toNat:Int) steps (k+1)).backups=(AE ((id % 4).toNat:Int) steps k).backups from by (rw [BN,do_6n aS aS];done)];exact ho0_b8271_4),b1,(by rw [show (AE ((id % 4).toNat:Int) steps (k+1)).done=(AE ((id % 4).toNat:Int) steps k).done from by (rw [BN,do_6n aS aS];done)];exact ho0_b8271_5),b0,(by rw [show (AE ((id % 4).toNat:Int) steps (k+1)).d.ops=(AE ((id % 4).toNat:Int) steps k).d.ops from by (rw [BN,do_6n aS aS];done)];exact a3),a4,(by rw [show ([vI ((AE ((id % 4).toNat:Int) steps (k+1)).d.id),vI ((AE ((id % 4).toNat:Int) steps (k+1)).d.counter),a5,vO ((AE ((id % 4).toNat:Int) steps (k+1)).d.halted),a2,a0]:List Value)=[vI ((AE ((id % 4).toNat:Int) steps k).d.id),vI ((AE ((id % 4).toNat:Int) steps k).d.counter),a5,vO ((AE ((id % 4).toNat:Int) steps k).d.halted),a2,a0] from by (rw [BN,do_6n aS aS];done)];exact E1),(by (repeat (first|assumption|apply List.mem_cons_of_mem))),nb0_b8271_4_b8271,nb0_b8271_5_b8271,nn0_b8271_4_b8271_5,nn0_b8271_5_b8271_4⟩
  have V8:((steps[k]!).kind) % 7≠(6:UInt8):=by simpa using p1
  refine AF (AC kR (AB (AM 0 FS rfl (AB (AU (vs:=[vI ((AE ((id % 4).toNat:Int) steps k).d.id),vI ((AE ((id % 4).toNat:Int) steps k).d.counter),a5,vO ((AE ((id % 4).toNat:Int) steps k).d.halted)]) U31_ rfl BS rfl a7 rfl (AB (BZ U79_ rfl s_79 rfl b6 fun u6 E2=>(AB (BD (vs:=[vA #[vI ((AE ((id % 4).toNat:Int) steps k).d.id),vI ((AE ((id % 4).toNat:Int) steps k).d.counter),a5,vO ((AE ((id % 4).toNat:Int) steps k).d.halted)],vA u6.toArray]) enter_87 (c_ownL (O:=(a8 :: (a6 :: b4))++O) [vI ((AE ((id % 4).toNat:Int) steps k).d.id),vI ((AE ((id % 4).toNat:Int) steps k).d.counter),a5,vO ((AE ((id % 4).toNat:Int) steps k).d.halted)] ((AE ((id % 4).toNat:Int) steps k).d) u6 (steps[k]!) c5 ⟨_,rfl,a3⟩ E2 oM oM d9.lt) rfl d9 fun aV aW Q5 i1 i2 Q6=>(?_))))))))))
  obtain ⟨V9,rfl,E3⟩:=Q6
  obtain rfl:=E3
  have a3:=a3.mv i1
  have ho0_b8271_4:=ho0_b8271_4.mv i1 i2 (by simp)
  have ho0_b8271_5:=ho0_b8271_5.mv i1 i2 (by simp)
  have b6:=b6.mv i1
  have a4:=a4.mv i1
  have a1:=a1.keep i2 (by simp)
  have a7:=a7.keep i2 (by simp)
  have a9:=a9.keep i2 (by simp)
  refine AB (BW [vI 0,vI 0,vI 0,vI 0,vI 0,vI 0] HV rfl Q5 fun c3 aX Q7 Q8 i3 i4 E4=>(?_))
  have E5:CU b3 c3:=by show b3≠c3;have:=a1.lt;omega
  have u7:CU a6 c3:=by show a6≠c3;have:=a7.lt;omega
  have E6:CU a8 c3:=by show a8≠c3;have:=a9.lt;omega
  have E7:∀ b,a2.ownBlock=some b→b≠c3:=fun b hb=>by have:=(ho0_b8271_4.lt b hb).2;omega
  have u9:∀ b,a0.ownBlock=some b→b≠c3:=fun b hb=>by have:=(ho0_b8271_5.lt b hb).2;omega
  have b1:∀ b,a2.ownBlock=some b→b∈(c3 :: (a8 :: (a6 :: b4))):=fun b hb=>List.mem_cons_of_mem _ (b1 b hb)
  have b0:∀ b,a0.ownBlock=some b→b∈(c3 :: (a8 :: (a6 :: b4))):=fun b hb=>List.mem_cons_of_mem _ (b0 b hb)
  clear Q7
  have a3:=a3.mv i3
  have ho0_b8271_4:=ho0_b8271_4.mv i3 i4 (by simp)
  have ho0_b8271_5:=ho0_b8271_5.mv i3 i4 (by simp)
  have b6:=b6.mv i3
  have a4:=a4.mv i3
  have a1:=a1.keep i4 (by simp)
  have a7:=a7.keep i4 (by simp)
  have a9:=a9.keep i4 (by simp)
  refine BU (AR (vs:=[vI ((BL ((AE ((id % 4).toNat:Int) steps k).d) (steps[k]!)).device),vI ((BL ((AE ((id % 4).toNat:Int) steps k).d) (steps[k]!)).no),vI ((BL ((AE ((id % 4).toNat:Int) steps k).d) (steps[k]!)).kind),vI ((BL ((AE ((id % 4).toNat:Int) steps k).d) (steps[k]!)).copy),vI ((BL ((AE ((id % 4).toNat:Int) steps k).d) (steps[k]!)).to),vI ((BL ((AE ((id % 4).toNat:Int) steps k).d) (steps[k]!)).token)]) (.agg #[vI ((BL ((AE ((id % 4).toNat:Int) steps k).d) (steps[k]!)).device),vI ((BL ((AE ((id % 4).toNat:Int) steps k).d) (steps[k]!)).no),vI ((BL ((AE ((id % 4).toNat:Int) steps k).d) (steps[k]!)).kind),vI ((BL ((AE ((id % 4).toNat:Int) steps k).d) (steps[k]!)).copy),vI ((BL ((AE ((id % 4).toNat:Int) steps k).d) (steps[k]!)).to),vI ((BL ((AE ((id % 4).toNat:Int) steps k).d) (steps[k]!)).token)]) rfl rfl rfl CH (fun u hu=>by simp only [List.mem_cons,List.not_mem_nil,or_false] at hu;rcases hu with rfl|rfl|rfl|rfl|rfl|rfl <;> rfl) (by repeat (constructor)) E4 oT Q8 fun Q9 y4 i5 i6 c6=>(?_))
  have a3:=a3.mv i5
  have ho0_b8271_4:=ho0_b8271_4.mv i5 i6 (fun b hb=>AT (E7 b hb))
  have ho0_b8271_5:=ho0_b8271_5.mv i5 i6 (fun b hb=>AT (u9 b hb))
  have b6:=b6.mv i5
  have a4:=a4.mv i5
  have a1:=a1.keep i6 (AT E5)
  have a7:=a7.keep i6 (AT u7)
  have a9:=a9.keep i6 (AT E6)
  refine AD (AA (AF (AC kR (AB (AM 0 FS rfl (AB (AU (vs:=[vI ((AE ((id % 4).toNat:Int) steps k).d.id),vI ((AE ((id % 4).toNat:Int) steps k).d.counter),a5,vO ((AE ((id % 4).toNat:Int) steps k).d.halted)]) U31_ rfl BS rfl a7 rfl (AB (AU (vs:=[vI ((BL ((AE ((id % 4).toNat:Int) steps k).d) (steps[k]!)).device),vI ((BL ((AE ((id % 4).toNat:Int) steps k).d) (steps[k]!)).no),vI ((BL ((AE ((id % 4).toNat:Int) steps k).d) (steps[k]!)).kind),vI ((BL ((AE ((id % 4).toNat:Int) steps k).d) (steps[k]!)).copy),vI ((BL ((AE ((id % 4).toNat:Int) steps k).d) (steps[k]!)).to),vI ((BL ((AE ((id % 4).toNat:Int) steps k).d) (steps[k]!)).token)]) U40_ rfl CH rfl c6 rfl (AB (AS 0 f_79_0 ((steps[k]!).kind) rfl b6 (fun _ _ _ h=>HU h) fun aY E8=>(AB (FG U5_ rfl rfl E8 (AB (GP ((steps[k]!).kind) (7:UInt8) (by decide) rfl rfl (AB (GH .u8 .i64 U5_ U3_ ((((steps[k]!).kind) % 7).toNat:Int) ((((steps[k]!).kind) % 7).toNat:Int) rfl (by have:=(((steps[k]!).kind) % 7).toNat_lt;exact EI oM rfl) (AB (BD (vs:=[vA #[vI ((AE ((id % 4).toNat:Int) steps k).d.id),vI ((AE ((id % 4).toNat:Int) steps k).d.counter),a5,vO ((AE ((id % 4).toNat:Int) steps k).d.halted)],vA #[vI ((BL ((AE ((id % 4).toNat:Int) steps k).d) (steps[k]!)).device),vI ((BL ((AE ((id % 4).toNat:Int) steps k).d) (steps[k]!)).no),vI ((BL ((AE ((id % 4).toNat:Int) steps k).d) (steps[k]!)).kind),vI ((BL ((AE ((id % 4).toNat:Int) steps k).d) (steps[k]!)).copy),vI ((BL ((AE ((id % 4).toNat:Int) steps k).d) (steps[k]!)).to),vI ((BL ((AE ((id % 4).toNat:Int) steps k).d) (steps[k]!)).token)],vI ((((steps[k]!).kind) % 7).toNat:Int)]) HF (NN (O:=(c3 :: (a8 :: (a6 :: b4)))++O) [vI ((AE ((id % 4).toNat:Int) steps k).d.id),vI ((AE ((id % 4).toNat:Int) steps k).d.counter),a5,vO ((AE ((id % 4).toNat:Int) steps k).d.halted)] ((AE ((id % 4).toNat:Int) steps k).d) [vI ((BL ((AE ((id % 4).toNat:Int) steps k).d) (steps[k]!)).device),vI ((BL ((AE ((id % 4).toNat:Int) steps k).d) (steps[k]!)).no),vI ((BL ((AE ((id % 4).toNat:Int) steps k).d) (steps[k]!)).kind),vI ((BL ((AE ((id % 4).toNat:Int) steps k).d) (steps[k]!)).copy),vI ((BL ((AE ((id % 4).toNat:Int) steps k).d) (steps[k]!)).to),vI ((BL ((AE ((id % 4).toNat:Int) steps k).d) (steps[k]!)).token)] (BL ((AE ((id % 4).toNat:Int) steps k).d) (steps[k]!)) ((((steps[k]!).kind) % 7).toNat:Int) Q9 ⟨_,rfl,a3⟩ rfl y4.lt) rfl y4 fun aZ ba R0 i7 f9 R1=>(?_))))))))))))))))))))
  obtain ⟨p5,rfl,p6⟩:=R1
  have a3:=a3.mv i7
  have ho0_b8271_4:=ho0_b8271_4.mv i7 f9 (by simp)
  have ho0_b8271_5:=ho0_b8271_5.mv i7 f9 (by simp)
  have b6:=b6.mv i7
  have a4:=a4.mv i7
  have a1:=a1.keep f9 (by simp)
  have a7:=a7.keep f9 (by simp)
  have a9:=a9.keep f9 (by simp)
  have c6:=c6.keep f9 (by simp)
  refine AB (AH (vT #[vA p5.toArray,vI ((AK ((AE ((id % 4).toNat:Int) steps k).d) (BL ((AE ((id % 4).toNat:Int) steps k).d) (steps[k]!)) ((((steps[k]!).kind) % 7).toNat:Int)).2)]) rfl (AB (BJ (vA p5.toArray) rfl rfl (AB (BJ (vI ((AK ((AE ((id % 4).toNat:Int) steps k).d) (BL ((AE ((id % 4).toNat:Int) steps k).d) (steps[k]!)) ((((steps[k]!).kind) % 7).toNat:Int)).2)) rfl rfl (AB (BW [vI 0,vI 0,nS,vO false] HJ rfl R0 fun c4 R2 R3 R4 g0 g1 E9=>(?_))))))))
  have F3:CU b3 c4:=by show b3≠c4;have:=a1.lt;omega
  have v0:CU a6 c4:=by show a6≠c4;have:=a7.lt;omega
  have F4:CU a8 c4:=by show a8≠c4;have:=a9.lt;omega
  have F5:CU c3 c4:=by show c3≠c4;have:=c6.lt;omega
  have F6:∀ b,a2.ownBlock=some b→b≠c4:=fun b hb=>by have:=(ho0_b8271_4.lt b hb).2;omega
  have v1:∀ b,a0.ownBlock=some b→b≠c4:=fun b hb=>by have:=(ho0_b8271_5.lt b hb).2;omega
  have b1:∀ b,a2.ownBlock=some b→b∈(c4 :: (c3 :: (a8 :: (a6 :: b4)))):=fun b hb=>List.mem_cons_of_mem _ (b1 b hb)
  have b0:∀ b,a0.ownBlock=some b→b∈(c4 :: (c3 :: (a8 :: (a6 :: b4)))):=fun b hb=>List.mem_cons_of_mem _ (b0 b hb)
  clear R3
  have a3:=a3.mv g0
  have ho0_b8271_4:=ho0_b8271_4.mv g0 g1 (by simp)
  have ho0_b8271_5:=ho0_b8271_5.mv g0 g1 (by simp)
  have b6:=b6.mv g0
  have p6:Enc.device.rd R2 ((c4 :: (c3 :: (a8 :: (a6 :: b4))))++O) p5 ((AK ((AE ((id % 4).toNat:Int) steps k).d) (BL ((AE ((id % 4).toNat:Int) steps k).d) (steps[k]!)) ((((steps[k]!).kind) % 7).toNat:Int)).1):=Enc.mv Enc.device (x:=(AK ((AE ((id % 4).toNat:Int) steps k).d) (BL ((AE ((id % 4).toNat:Int) steps k).d) (steps[k]!)) ((((steps[k]!).kind) % 7).toNat:Int)).1) p6 g0
  have a4:=a4.mv g0
  have a1:=a1.keep g1 (by simp)
  have a7:=a7.keep g1 (by simp)
  have a9:=a9.keep g1 (by simp)
  have c6:=c6.keep g1 (by simp)
  obtain ⟨c2,rfl,b5⟩:=p6
  have:=b5.len_le
  refine BU (AR (vs:=[vI (((AK ((AE ((id % 4).toNat:Int) steps k).d) (BL ((AE ((id % 4).toNat:Int) steps k).d) (steps[k]!)) ((((steps[k]!).kind) % 7).toNat:Int)).1).id),vI (((AK ((AE ((id % 4).toNat:Int) steps k).d) (BL ((AE ((id % 4).toNat:Int) steps k).d) (steps[k]!)) ((((steps[k]!).kind) % 7).toNat:Int)).1).counter),c2,vO (((AK ((AE ((id % 4).toNat:Int) steps k).d) (BL ((AE ((id % 4).toNat:Int) steps k).d) (steps[k]!)) ((((steps[k]!).kind) % 7).toNat:Int)).1).halted)]) (.agg #[vI (((AK ((AE ((id % 4).toNat:Int) steps k).d) (BL ((AE ((id % 4).toNat:Int) steps k).d) (steps[k]!)) ((((steps[k]!).kind) % 7).toNat:Int)).1).id),vI (((AK ((AE ((id % 4).toNat:Int) steps k).d) (BL ((AE ((id % 4).toNat:Int) steps k).d) (steps[k]!)) ((((steps[k]!).kind) % 7).toNat:Int)).1).counter),c2,vO (((AK ((AE ((id % 4).toNat:Int) steps k).d) (BL ((AE ((id % 4).toNat:Int) steps k).d) (steps[k]!)) ((((steps[k]!).kind) % 7).toNat:Int)).1).halted)]) rfl rfl rfl BS (fun u hu=>by simp only [List.mem_cons,List.not_mem_nil,or_false] at hu;rcases hu with rfl|rfl|rfl|rfl <;> first|rfl|exact b5.oneCell) (by repeat (constructor)) E9 oT R4 fun bb y5 g2 g3 f0=>(?_))
  have a3:=a3.mv g2
  have ho0_b8271_4:=ho0_b8271_4.mv g2 g3 (fun b hb=>AT (F6 b hb))
  have ho0_b8271_5:=ho0_b8271_5.mv g2 g3 (fun b hb=>AT (v1 b hb))
  have b6:=b6.mv g2
  have b5:=b5.mv g2
  have a4:=a4.mv g2
  have a1:=a1.keep g3 (AT F3)
  have a7:=a7.keep g3 (AT v0)
  have a9:=a9.keep g3 (AT F4)
  have c6:=c6.keep g3 (AT F5)
  refine AB (AG (vI ((AK ((AE ((id % 4).toNat:Int) steps k).d) (BL ((AE ((id % 4).toNat:Int) steps k).d) (steps[k]!)) ((((steps[k]!).kind) % 7).toNat:Int)).2)) rfl (AD (AA (AF (AC kR (AB (AH (vI ((AK ((AE ((id % 4).toNat:Int) steps k).d) (BL ((AE ((id % 4).toNat:Int) steps k).d) (steps[k]!)) ((((steps[k]!).kind) % 7).toNat:Int)).2)) rfl (AB (DB .i64 ((AK ((AE ((id % 4).toNat:Int) steps k).d) (BL ((AE ((id % 4).toNat:Int) steps k).d) (steps[k]!)) ((((steps[k]!).kind) % 7).toNat:Int)).2) (0:Int) rfl rfl (AD (AA (AP (((AK ((AE ((id % 4).toNat:Int) steps k).d) (BL ((AE ((id % 4).toNat:Int) steps k).d) (steps[k]!)) ((((steps[k]!).kind) % 7).toNat:Int)).2) == (0:Int)) rfl rfl (fun p7=>?_) (fun p7=>?_)))))))))))))
  ·have W0:(AK ((AE ((id % 4).toNat:Int) steps k).d) (BL ((AE ((id % 4).toNat:Int) steps k).d) (steps[k]!)) ((((steps[k]!).kind) % 7).toNat:Int)).2=(0:Int):=by simpa using p7
   refine AF (AC kR (AB (AU (vs:=[vI (((AK ((AE ((id % 4).toNat:Int) steps k).d) (BL ((AE ((id % 4).toNat:Int) steps k).d) (steps[k]!)) ((((steps[k]!).kind) % 7).toNat:Int)).1).id),vI (((AK ((AE ((id % 4).toNat:Int) steps k).d) (BL ((AE ((id % 4).toNat:Int) steps k).d) (steps[k]!)) ((((steps[k]!).kind) % 7).toNat:Int)).1).counter),c2,vO (((AK ((AE ((id % 4).toNat:Int) steps k).d) (BL ((AE ((id % 4).toNat:Int) steps k).d) (steps[k]!)) ((((steps[k]!).kind) % 7).toNat:Int)).1).halted)]) U31_ rfl BS rfl f0 rfl (AB (AM 0 FS rfl (BU (AR (vs:=[vI (((AK ((AE ((id % 4).toNat:Int) steps k).d) (BL ((AE ((id % 4).toNat:Int) steps k).d) (steps[k]!)) ((((steps[k]!).kind) % 7).toNat:Int)).1).id),vI (((AK ((AE ((id % 4).toNat:Int) steps k).d) (BL ((AE ((id % 4).toNat:Int) steps k).d) (steps[k]!)) ((((steps[k]!).kind) % 7).toNat:Int)).1).counter),c2,vO (((AK ((AE ((id % 4).toNat:Int) steps k).d) (BL ((AE ((id % 4).toNat:Int) steps k).d) (steps[k]!)) ((((steps[k]!).kind) % 7).toNat:Int)).1).halted)]) (.agg #[vI (((AK ((AE ((id % 4).toNat:Int) steps k).d) (BL ((AE ((id % 4).toNat:Int) steps k).d) (steps[k]!)) ((((steps[k]!).kind) % 7).toNat:Int)).1).id),vI (((AK ((AE ((id % 4).toNat:Int) steps k).d) (BL ((AE ((id % 4).toNat:Int) steps k).d) (steps[k]!)) ((((steps[k]!).kind) % 7).toNat:Int)).1).counter),c2,vO (((AK ((AE ((id % 4).toNat:Int) steps k).d) (BL ((AE ((id % 4).toNat:Int) steps k).d) (steps[k]!)) ((((steps[k]!).kind) % 7).toNat:Int)).1).halted)]) rfl rfl rfl BS (fun u hu=>by simp only [List.mem_cons,List.not_mem_nil,or_false] at hu;rcases hu with rfl|rfl|rfl|rfl <;> first|rfl|exact b5.oneCell) (by repeat (constructor)) a7 oT y5 fun bc y6 i8 g4 e6=>(?_))))))))
   have ho0_b8271_4:=ho0_b8271_4.mv i8 g4 (fun b hb=>AT (e4 b hb))
   have ho0_b8271_5:=ho0_b8271_5.mv i8 g4 (fun b hb=>AT (e5 b hb))
   have b6:=b6.mv i8
   have b5:=b5.mv i8
   have a4:=a4.mv i8
   have a1:=a1.keep g4 (AT e8)
   have a9:=a9.keep g4 (AT (Ne.symm e9))
   have c6:=c6.keep g4 (AT (Ne.symm u7))
   have f0:=f0.keep g4 (AT (Ne.symm v0))
   refine AD (AA (AF (AC kR (AB (AS 0 f_79_0 ((steps[k]!).kind) rfl b6 (fun _ _ _ h=>HU h) fun bd F7=>(AB (FG U5_ rfl rfl F7 (AB (GP ((steps[k]!).kind) (7:UInt8) (by decide) rfl rfl (AB (LY (((steps[k]!).kind) % 7) (2:UInt8) rfl rfl (AD (AA (AP ((((steps[k]!).kind) % 7) == (2:UInt8)) rfl rfl (fun p8=>?_) (fun p8=>?_)))))))))))))))
   ·have W1:((steps[k]!).kind) % 7=(2:UInt8):=by simpa using p8
    refine AC kR (AB (AM 5 FZ rfl (AB (BA U26_ rfl (a0) rfl e6 rfl (AB (AU (vs:=[vI ((BL ((AE ((id % 4).toNat:Int) steps k).d) (steps[k]!)).device),vI ((BL ((AE ((id % 4).toNat:Int) steps k).d) (steps[k]!)).no),vI ((BL ((AE ((id % 4).toNat:Int) steps k).d) (steps[k]!)).kind),vI ((BL ((AE ((id % 4).toNat:Int) steps k).d) (steps[k]!)).copy),vI ((BL ((AE ((id % 4).toNat:Int) steps k).d) (steps[k]!)).to),vI ((BL ((AE ((id % 4).toNat:Int) steps k).d) (steps[k]!)).token)]) U40_ rfl CH rfl c6 rfl (AB (MH (E:=Enc.devop) (xs:=[.tmp 40]) U26_ CH HV (by decide) [.agg #[vI ((BL ((AE ((id % 4).toNat:Int) steps k).d) (steps[k]!)).device),vI ((BL ((AE ((id % 4).toNat:Int) steps k).d) (steps[k]!)).no),vI ((BL ((AE ((id % 4).toNat:Int) steps k).d) (steps[k]!)).kind),vI ((BL ((AE ((id % 4).toNat:Int) steps k).d) (steps[k]!)).copy),vI ((BL ((AE ((id % 4).toNat:Int) steps k).d) (steps[k]!)).to),vI ((BL ((AE ((id % 4).toNat:Int) steps k).d) (steps[k]!)).token)]] [[vI ((BL ((AE ((id % 4).toNat:Int) steps k).d) (steps[k]!)).device),vI ((BL ((AE ((id % 4).toNat:Int) steps k).d) (steps[k]!)).no),vI ((BL ((AE ((id % 4).toNat:Int) steps k).d) (steps[k]!)).kind),vI ((BL ((AE ((id % 4).toNat:Int) steps k).d) (steps[k]!)).copy),vI ((BL ((AE ((id % 4).toNat:Int) steps k).d) (steps[k]!)).to),vI ((BL ((AE ((id % 4).toNat:Int) steps k).d) (steps[k]!)).token)]] [(BL ((AE ((id % 4).toNat:Int) steps k).d) (steps[k]!))] rfl rfl rfl (Parts.cons rfl rfl (Parts.nil _ _ _)) oT y6 fun be bf R5 m7 f5 v2=>(?_)))))))))
    have ho0_b8271_4:=ho0_b8271_4.mv m7 f5 (by simp)
    have ho0_b8271_5:=ho0_b8271_5.mv m7 f5 (by simp)
    have b5:=b5.mv m7
    have a4:=a4.mv m7
    have a1:=a1.keep f5 (by simp)
    have e6:=e6.keep f5 (by simp)
    have a9:=a9.keep f5 (by simp)
    have c6:=c6.keep f5 (by simp)
    have f0:=f0.keep f5 (by simp)
    have:=v2.len_le
    refine AB (HZ (E:=Enc.devop) (l:=(AE ((id % 4).toNat:Int) steps k).done) (m:=[(BL ((AE ((id % 4).toNat:Int) steps k).d) (steps[k]!))]) U26_ i_40 rfl (by decide) rfl rfl ho0_b8271_5 v2 (fun _ hb=>.inl hb) b0 (by simp only [List.length_cons,List.length_nil];omega) (by simp only [List.length_cons,List.length_nil,maxLen];omega) R5 fun c7 bg f6 F8 f1 e7 R6 r8 m8 d8=>(?_))
    have v3:∀ b,a2.ownBlock=some b→c7.ownBlock≠some b:=fun b hb e=>by rcases f1 with e1|e1 <;> rw [e1] at e <;> first|(cases e;have:=(ho0_b8271_4.lt _ hb).2;omega)|(exact absurd e (nn0_b8271_4_b8271_5 b hb))
    have v4:∀ b,c7.ownBlock=some b→b≠b3:=fun b hb=>by rcases f1 with e1|e1 <;> rw [e1] at hb <;> first|(cases hb;have:=a1.lt;omega)|(exact nb0_b8271_5_b8271 b hb)
    have F9:∀ b,c7.ownBlock=some b→b≠a6:=fun b hb=>by rcases f1 with e1|e1 <;> rw [e1] at hb <;> first|(cases hb;have:=e6.lt;omega)|(exact e5 b hb)
    have G0:∀ b,c7.ownBlock=some b→b≠a8:=fun b hb=>by rcases f1 with e1|e1 <;> rw [e1] at hb <;> first|(cases hb;have:=a9.lt;omega)|(exact c9 b hb)
    have W2:∀ b,c7.ownBlock=some b→b≠c3:=fun b hb=>by rcases f1 with e1|e1 <;> rw [e1] at hb <;> first|(cases hb;have:=c6.lt;omega)|(exact u9 b hb)
    have W3:∀ b,c7.ownBlock=some b→b≠c4:=fun b hb=>by rcases f1 with e1|e1 <;> rw [e1] at hb <;> first|(cases hb;have:=f0.lt;omega)|(exact v1 b hb)
    have b1:∀ b,a2.ownBlock=some b→b∈f6:=fun b hb=>e7 b (b1 b hb)
    have d2:b3∈f6:=e7 b3 rC
    have t6:a6∈f6:=e7 a6 (by repeat (constructor))
    have t7:a8∈f6:=e7 a8 (by repeat (constructor))
    have T1:c3∈f6:=e7 c3 (by repeat (constructor))
    have T2:c4∈f6:=e7 c4 (by repeat (constructor))
    have ho0_b8271_4:=ho0_b8271_4.mv r8 m8 (fun b hb=>by simp only [Option.mem_toList];exact nn0_b8271_4_b8271_5 b hb)
    have b5:=b5.mv r8
    have a4:=a4.mv r8
    have a1:=a1.keep m8 (by simp only [Option.mem_toList];exact fun e=>absurd rfl (nb0_b8271_5_b8271 _ e))
    have e6:=e6.keep m8 (by simp only [Option.mem_toList];exact fun e=>absurd rfl (e5 _ e))
    have a9:=a9.keep m8 (by simp only [Option.mem_toList];exact fun e=>absurd rfl (c9 _ e))
    refine AB (AM 5 FZ rfl (BU (CS (c7) rfl rfl d8.oneCell s_26 (by repeat (assumption)) e6 oT R6 fun bh R7 m9 n0 G1=>(?_))))
    have ho0_b8271_4:=ho0_b8271_4.mv m9 n0 (fun b hb=>AT (e4 b hb))
    have b5:=b5.mv m9
    have d8:=d8.mv m9 n0 (fun b hb=>AT (F9 b hb))
    have a4:=a4.mv m9
    have a1:=a1.keep n0 (AT e8)
    have a9:=a9.keep n0 (AT (Ne.symm e9))
    refine AD (BE (AA (AF (AC kR (AB (AU (vs:=[vI (((AK ((AE ((id % 4).toNat:Int) steps k).d) (BL ((AE ((id % 4).toNat:Int) steps k).d) (steps[k]!)) ((((steps[k]!).kind) % 7).toNat:Int)).1).id),vI (((AK ((AE ((id % 4).toNat:Int) steps k).d) (BL ((AE ((id % 4).toNat:Int) steps k).d) (steps[k]!)) ((((steps[k]!).kind) % 7).toNat:Int)).1).counter),c2,vO (((AK ((AE ((id % 4).toNat:Int) steps k).d) (BL ((AE ((id % 4).toNat:Int) steps k).d) (steps[k]!)) ((((steps[k]!).kind) % 7).toNat:Int)).1).halted),a2,c7]) U76_ rfl DQ rfl G1 rfl (BU (AR (vs:=[vI (((AK ((AE ((id % 4).toNat:Int) steps k).d) (BL ((AE ((id % 4).toNat:Int) steps k).d) (steps[k]!)) ((((steps[k]!).kind) % 7).toNat:Int)).1).id),vI (((AK ((AE ((id % 4).toNat:Int) steps k).d) (BL ((AE ((id % 4).toNat:Int) steps k).d) (steps[k]!)) ((((steps[k]!).kind) % 7).toNat:Int)).1).counter),c2,vO (((AK ((AE ((id % 4).toNat:Int) steps k).d) (BL ((AE ((id % 4).toNat:Int) steps k).d) (steps[k]!)) ((((steps[k]!).kind) % 7).toNat:Int)).1).halted),a2,c7]) (.agg #[vI (((AK ((AE ((id % 4).toNat:Int) steps k).d) (BL ((AE ((id % 4).toNat:Int) steps k).d) (steps[k]!)) ((((steps[k]!).kind) % 7).toNat:Int)).1).id),vI (((AK ((AE ((id % 4).toNat:Int) steps k).d) (BL ((AE ((id % 4).toNat:Int) steps k).d) (steps[k]!)) ((((steps[k]!).kind) % 7).toNat:Int)).1).counter),c2,vO (((AK ((AE ((id % 4).toNat:Int) steps k).d) (BL ((AE ((id % 4).toNat:Int) steps k).d) (steps[k]!)) ((((steps[k]!).kind) % 7).toNat:Int)).1).halted),a2,c7]) rfl rfl rfl DQ (fun u hu=>by simp only [List.mem_cons,List.not_mem_nil,or_false] at hu;rcases hu with rfl|rfl|rfl|rfl|rfl|rfl <;> first|rfl|exact b5.oneCell|exact ho0_b8271_4.oneCell|exact d8.oneCell) (by repeat (assumption)) a9 oT R7 fun bi R8 n1 r9 G2=>(?_)))))))))
    have ho0_b8271_4:=ho0_b8271_4.mv n1 r9 (fun b hb=>AT (c8 b hb))
    have b5:=b5.mv n1
    have d8:=d8.mv n1 r9 (fun b hb=>AT (G0 b hb))
    have a4:=a4.mv n1
    have a1:=a1.keep r9 (AT d3)
    refine AD (AA (AN (AY rfl (GF (vs:=[vI (((AK ((AE ((id % 4).toNat:Int) steps k).d) (BL ((AE ((id % 4).toNat:Int) steps k).d) (steps[k]!)) ((((steps[k]!).kind) % 7).toNat:Int)).1).id),vI (((AK ((AE ((id % 4).toNat:Int) steps k).d) (BL ((AE ((id % 4).toNat:Int) steps k).d) (steps[k]!)) ((((steps[k]!).kind) % 7).toNat:Int)).1).counter),c2,vO (((AK ((AE ((id % 4).toNat:Int) steps k).d) (BL ((AE ((id % 4).toNat:Int) steps k).d) (steps[k]!)) ((((steps[k]!).kind) % 7).toNat:Int)).1).halted),a2,c7]) rfl rfl U76_ rfl DQ rfl G2 rfl) (Exists.intro _ (And.intro rfl (BU (AR (vs:=[vI (((AK ((AE ((id % 4).toNat:Int) steps k).d) (BL ((AE ((id % 4).toNat:Int) steps k).d) (steps[k]!)) ((((steps[k]!).kind) % 7).toNat:Int)).1).id),vI (((AK ((AE ((id % 4).toNat:Int) steps k).d) (BL ((AE ((id % 4).toNat:Int) steps k).d) (steps[k]!)) ((((steps[k]!).kind) % 7).toNat:Int)).1).counter),c2,vO (((AK ((AE ((id % 4).toNat:Int) steps k).d) (BL ((AE ((id % 4).toNat:Int) steps k).d) (steps[k]!)) ((((steps[k]!).kind) % 7).toNat:Int)).1).halted),a2,c7]) (.agg #[vI (((AK ((AE ((id % 4).toNat:Int) steps k).d) (BL ((AE ((id % 4).toNat:Int) steps k).d) (steps[k]!)) ((((steps[k]!).kind) % 7).toNat:Int)).1).id),vI (((AK ((AE ((id % 4).toNat:Int) steps k).d) (BL ((AE ((id % 4).toNat:Int) steps k).d) (steps[k]!)) ((((steps[k]!).kind) % 7).toNat:Int)).1).counter),c2,vO (((AK ((AE ((id % 4).toNat:Int) steps k).d) (BL ((AE ((id % 4).toNat:Int) steps k).d) (steps[k]!)) ((((steps[k]!).kind) % 7).toNat:Int)).1).halted),a2,c7]) rfl rfl rfl DQ (fun u hu=>by simp only [List.mem_cons,List.not_mem_nil,or_false] at hu;rcases hu with rfl|rfl|rfl|rfl|rfl|rfl <;> first|rfl|exact b5.oneCell|exact ho0_b8271_4.oneCell|exact d8.oneCell) (by repeat (assumption)) a1 oT R8 fun bj R9 n2 y7 G3=>(?_))))))))
    have a4:=a4.mv n2
    have ho0_b8271_4:=ho0_b8271_4.mv n2 y7 (fun b hb=>AT (nb0_b8271_4_b8271 b hb))
    have b5:=b5.mv n2
    have d8:=d8.mv n2 y7 (fun b hb=>AT (v4 b hb))
    refine AD (BE (AA (AC kR (AB (AH (vI ((k:Nat):Int)) rfl (AB (CJ .i64 ((k:Nat):Int) (1:Int) (((k+1:Nat):Int)) rfl rfl (EI oM oM) (AB (AG (vI ((k+1:Nat):Int)) rfl (AD (AA (?_))))))))))))
    exact ⟨_,oM,(k+1),a2,c7,c2,f6,oM,rfl,⟨_,AQ _ ⟨rfl,rfl,(by rfl),rfl,trivial⟩⟩,R9,(by rw [show (AE ((id % 4).toNat:Int) steps (k+1)).backups=(AE ((id % 4).toNat:Int) steps k).backups from by (rw [BN,do_d2 aS aS aS aS aS aS];done)];exact ho0_b8271_4),b1,(by rw [show (AE ((id % 4).toNat:Int) steps (k+1)).done=((AE ((id % 4).toNat:Int) steps k).done)++([(BL ((AE ((id % 4).toNat:Int) steps k).d) (steps[k]!))]) from by (rw [BN,do_d2 aS aS aS aS aS aS];done)];exact d8),F8,(by rw [show (AE ((id % 4).toNat:Int) steps (k+1)).d.ops=((AK ((AE ((id % 4).toNat:Int) steps k).d) (BL ((AE ((id % 4).toNat:Int) steps k).d) (steps[k]!)) ((((steps[k]!).kind) % 7).toNat:Int)).1).ops from by (rw [BN,do_d2 aS aS aS aS aS aS];done)];exact b5),a4,(by rw [show ([vI ((AE ((id % 4).toNat:Int) steps (k+1)).d.id),vI ((AE ((id % 4).toNat:Int) steps (k+1)).d.counter),c2,vO ((AE ((id % 4).toNat:Int) steps (k+1)).d.halted),a2,c7]:List Value)=[vI (((AK ((AE ((id % 4).toNat:Int) steps k).d) (BL ((AE ((id % 4).toNat:Int) steps k).d) (steps[k]!)) ((((steps[k]!).kind) % 7).toNat:Int)).1).id),vI (((AK ((AE ((id % 4).toNat:Int) steps k).d) (BL ((AE ((id % 4).toNat:Int) steps k).d) (steps[k]!)) ((((steps[k]!).kind) % 7).toNat:Int)).1).counter),c2,vO (((AK ((AE ((id % 4).toNat:Int) steps k).d) (BL ((AE ((id % 4).toNat:Int) steps k).d) (steps[k]!)) ((((steps[k]!).kind) % 7).toNat:Int)).1).halted),a2,c7] from by (rw [BN,do_d2 aS aS aS aS aS aS];done)];exact G3),aS,nb0_b8271_4_b8271,v4,v3,(fun b hb e=>v3 b e hb)⟩
   have W4:((steps[k]!).kind) % 7≠(2:UInt8):=by simpa using p8
   refine AV (BE (AA (AF (AC kR (AB (AU (vs:=[vI (((AK ((AE ((id % 4).toNat:Int) steps k).d) (BL ((AE ((id % 4).toNat:Int) steps k).d) (steps[k]!)) ((((steps[k]!).kind) % 7).toNat:Int)).1).id),vI (((AK ((AE ((id % 4).toNat:Int) steps k).d) (BL ((AE ((id % 4).toNat:Int) steps k).d) (steps[k]!)) ((((steps[k]!).kind) % 7).toNat:Int)).1).counter),c2,vO (((AK ((AE ((id % 4).toNat:Int) steps k).d) (BL ((AE ((id % 4).toNat:Int) steps k).d) (steps[k]!)) ((((steps[k]!).kind) % 7).toNat:Int)).1).halted),a2,a0]) U76_ rfl DQ rfl e6 rfl (BU (AR (vs:=[vI (((AK ((AE ((id % 4).toNat:Int) steps k).d) (BL ((AE ((id % 4).toNat:Int) steps k).d) (steps[k]!)) ((((steps[k]!).kind) % 7).toNat:Int)).1).id),vI (((AK ((AE ((id % 4).toNat:Int) steps k).d) (BL ((AE ((id % 4).toNat:Int) steps k).d) (steps[k]!)) ((((steps[k]!).kind) % 7).toNat:Int)).1).counter),c2,vO (((AK ((AE ((id % 4).toNat:Int) steps k).d) (BL ((AE ((id % 4).toNat:Int) steps k).d) (steps[k]!)) ((((steps[k]!).kind) % 7).toNat:Int)).1).halted),a2,a0]) (.agg #[vI (((AK ((AE ((id % 4).toNat:Int) steps k).d) (BL ((AE ((id % 4).toNat:Int) steps k).d) (steps[k]!)) ((((steps[k]!).kind) % 7).toNat:Int)).1).id),vI (((AK ((AE ((id % 4).toNat:Int) steps k).d) (BL ((AE ((id % 4).toNat:Int) steps k).d) (steps[k]!)) ((((steps[k]!).kind) % 7).toNat:Int)).1).counter),c2,vO (((AK ((AE ((id % 4).toNat:Int) steps k).d) (BL ((AE ((id % 4).toNat:Int) steps k).d) (steps[k]!)) ((((steps[k]!).kind) % 7).toNat:Int)).1).halted),a2,a0]) rfl rfl rfl DQ (fun u hu=>by simp only [List.mem_cons,List.not_mem_nil,or_false] at hu;rcases hu with rfl|rfl|rfl|rfl|rfl|rfl <;> first|rfl|exact b5.oneCell|exact ho0_b8271_4.oneCell|exact ho0_b8271_5.oneCell) (by repeat (constructor)) a9 oT y6 fun bk S0 n3 s2 G4=>(?_)))))))))
   have ho0_b8271_4:=ho0_b8271_4.mv n3 s2 (fun b hb=>AT (c8 b hb))
   have ho0_b8271_5:=ho0_b8271_5.mv n3 s2 (fun b hb=>AT (c9 b hb))
   have b5:=b5.mv n3
   have a4:=a4.mv n3
   have a1:=a1.keep s2 (AT d3)
   refine AD (AA (AN (AY rfl (GF (vs:=[vI (((AK ((AE ((id % 4).toNat:Int) steps k).d) (BL ((AE ((id % 4).toNat:Int) steps k).d) (steps[k]!)) ((((steps[k]!).kind) % 7).toNat:Int)).1).id),vI (((AK ((AE ((id % 4).toNat:Int) steps k).d) (BL ((AE ((id % 4).toNat:Int) steps k).d) (steps[k]!)) ((((steps[k]!).kind) % 7).toNat:Int)).1).counter),c2,vO (((AK ((AE ((id % 4).toNat:Int) steps k).d) (BL ((AE ((id % 4).toNat:Int) steps k).d) (steps[k]!)) ((((steps[k]!).kind) % 7).toNat:Int)).1).halted),a2,a0]) rfl rfl U76_ rfl DQ rfl G4 rfl) (Exists.intro _ (And.intro rfl (BU (AR (vs:=[vI (((AK ((AE ((id % 4).toNat:Int) steps k).d) (BL ((AE ((id % 4).toNat:Int) steps k).d) (steps[k]!)) ((((steps[k]!).kind) % 7).toNat:Int)).1).id),vI (((AK ((AE ((id % 4).toNat:Int) steps k).d) (BL ((AE ((id % 4).toNat:Int) steps k).d) (steps[k]!)) ((((steps[k]!).kind) % 7).toNat:Int)).1).counter),c2,vO (((AK ((AE ((id % 4).toNat:Int) steps k).d) (BL ((AE ((id % 4).toNat:Int) steps k).d) (steps[k]!)) ((((steps[k]!).kind) % 7).toNat:Int)).1).halted),a2,a0]) (.agg #[vI (((AK ((AE ((id % 4).toNat:Int) steps k).d) (BL ((AE ((id % 4).toNat:Int) steps k).d) (steps[k]!)) ((((steps[k]!).kind) % 7).toNat:Int)).1).id),vI (((AK ((AE ((id % 4).toNat:Int) steps k).d) (BL ((AE ((id % 4).toNat:Int) steps k).d) (steps[k]!)) ((((steps[k]!).kind) % 7).toNat:Int)).1).counter),c2,vO (((AK ((AE ((id % 4).toNat:Int) steps k).d) (BL ((AE ((id % 4).toNat:Int) steps k).d) (steps[k]!)) ((((steps[k]!).kind) % 7).toNat:Int)).1).halted),a2,a0]) rfl rfl rfl DQ (fun u hu=>by simp only [List.mem_cons,List.not_mem_nil,or_false] at hu;rcases hu with rfl|rfl|rfl|rfl|rfl|rfl <;> first|rfl|exact b5.oneCell|exact ho0_b8271_4.oneCell|exact ho0_b8271_5.oneCell) rC a1 oT S0 fun bl S1 n4 y8 G5=>(?_))))))))
   have a4:=a4.mv n4
   have ho0_b8271_4:=ho0_b8271_4.mv n4 y8 (fun b hb=>AT (nb0_b8271_4_b8271 b hb))
   have ho0_b8271_5:=ho0_b8271_5.mv n4 y8 (fun b hb=>AT (nb0_b8271_5_b8271 b hb))
   have b5:=b5.mv n4
   refine AD (BE (AA (AC kR (AB (AH (vI ((k:Nat):Int)) rfl (AB (CJ .i64 ((k:Nat):Int) (1:Int) (((k+1:Nat):Int)) rfl rfl (EI oM oM) (AB (AG (vI ((k+1:Nat):Int)) rfl (AD (AA (?_))))))))))))
   exact ⟨_,oM,(k+1),a2,a0,c2,(c4 :: (c3 :: (a8 :: (a6 :: b4)))),oM,rfl,⟨_,AQ _ ⟨rfl,rfl,(by rfl),rfl,trivial⟩⟩,S1,(by rw [show (AE ((id % 4).toNat:Int) steps (k+1)).backups=(AE ((id % 4).toNat:Int) steps k).backups from by (rw [BN,do_d1 aS aS aS aS aS aS];done)];exact ho0_b8271_4),b1,(by rw [show (AE ((id % 4).toNat:Int) steps (k+1)).done=(AE ((id % 4).toNat:Int) steps k).done from by (rw [BN,do_d1 aS aS aS aS aS aS];done)];exact ho0_b8271_5),b0,(by rw [show (AE ((id % 4).toNat:Int) steps (k+1)).d.ops=((AK ((AE ((id % 4).toNat:Int) steps k).d) (BL ((AE ((id % 4).toNat:Int) steps k).d) (steps[k]!)) ((((steps[k]!).kind) % 7).toNat:Int)).1).ops from by (rw [BN,do_d1 aS aS aS aS aS aS];done)];exact b5),a4,(by rw [show ([vI ((AE ((id % 4).toNat:Int) steps (k+1)).d.id),vI ((AE ((id % 4).toNat:Int) steps (k+1)).d.counter),c2,vO ((AE ((id % 4).toNat:Int) steps (k+1)).d.halted),a2,a0]:List Value)=[vI (((AK ((AE ((id % 4).toNat:Int) steps k).d) (BL ((AE ((id % 4).toNat:Int) steps k).d) (steps[k]!)) ((((steps[k]!).kind) % 7).toNat:Int)).1).id),vI (((AK ((AE ((id % 4).toNat:Int) steps k).d) (BL ((AE ((id % 4).toNat:Int) steps k).d) (steps[k]!)) ((((steps[k]!).kind) % 7).toNat:Int)).1).counter),c2,vO (((AK ((AE ((id % 4).toNat:Int) steps k).d) (BL ((AE ((id % 4).toNat:Int) steps k).d) (steps[k]!)) ((((steps[k]!).kind) % 7).toNat:Int)).1).halted),a2,a0] from by (rw [BN,do_d1 aS aS aS aS aS aS];done)];exact G5),(by (repeat (first|assumption|apply List.mem_cons_of_mem))),nb0_b8271_4_b8271,nb0_b8271_5_b8271,nn0_b8271_4_b8271_5,nn0_b8271_5_b8271_4⟩
  have W5:(AK ((AE ((id % 4).toNat:Int) steps k).d) (BL ((AE ((id % 4).toNat:Int) steps k).d) (steps[k]!)) ((((steps[k]!).kind) % 7).toNat:Int)).2≠(0:Int):=by simpa using p7
  refine AV (BE (AA (AF (AC kR (AB (AU (vs:=[vI ((AE ((id % 4).toNat:Int) steps k).d.id),vI ((AE ((id % 4).toNat:Int) steps k).d.counter),a5,vO ((AE ((id % 4).toNat:Int) steps k).d.halted),a2,a0]) U76_ rfl DQ rfl a7 rfl (BU (AR (vs:=[vI ((AE ((id % 4).toNat:Int) steps k).d.id),vI ((AE ((id % 4).toNat:Int) steps k).d.counter),a5,vO ((AE ((id % 4).toNat:Int) steps k).d.halted),a2,a0]) (.agg #[vI ((AE ((id % 4).toNat:Int) steps k).d.id),vI ((AE ((id % 4).toNat:Int) steps k).d.counter),a5,vO ((AE ((id % 4).toNat:Int) steps k).d.halted),a2,a0]) rfl rfl rfl DQ (fun u hu=>by simp only [List.mem_cons,List.not_mem_nil,or_false] at hu;rcases hu with rfl|rfl|rfl|rfl|rfl|rfl <;> first|rfl|exact a3.oneCell|exact ho0_b8271_4.oneCell|exact ho0_b8271_5.oneCell) (by repeat (constructor)) a9 oT y5 fun bm S2 n5 s3 G6=>(?_)))))))))
  have a3:=a3.mv n5
  have ho0_b8271_4:=ho0_b8271_4.mv n5 s3 (fun b hb=>AT (c8 b hb))
  have ho0_b8271_5:=ho0_b8271_5.mv n5 s3 (fun b hb=>AT (c9 b hb))
  have a4:=a4.mv n5
  have a1:=a1.keep s3 (AT d3)
  refine AD (AA (AN (AY rfl (GF (vs:=[vI ((AE ((id % 4).toNat:Int) steps k).d.id),vI ((AE ((id % 4).toNat:Int) steps k).d.counter),a5,vO ((AE ((id % 4).toNat:Int) steps k).d.halted),a2,a0]) rfl rfl U76_ rfl DQ rfl G6 rfl) (Exists.intro _ (And.intro rfl (BU (AR (vs:=[vI ((AE ((id % 4).toNat:Int) steps k).d.id),vI ((AE ((id % 4).toNat:Int) steps k).d.counter),a5,vO ((AE ((id % 4).toNat:Int) steps k).d.halted),a2,a0]) (.agg #[vI ((AE ((id % 4).toNat:Int) steps k).d.id),vI ((AE ((id % 4).toNat:Int) steps k).d.counter),a5,vO ((AE ((id % 4).toNat:Int) steps k).d.halted),a2,a0]) rfl rfl rfl DQ (fun u hu=>by simp only [List.mem_cons,List.not_mem_nil,or_false] at hu;rcases hu with rfl|rfl|rfl|rfl|rfl|rfl <;> first|rfl|exact a3.oneCell|exact ho0_b8271_4.oneCell|exact ho0_b8271_5.oneCell) rC a1 oT S2 fun bn S3 n6 y9 G7=>(?_))))))))
  have a4:=a4.mv n6
  have a3:=a3.mv n6
  have ho0_b8271_4:=ho0_b8271_4.mv n6 y9 (fun b hb=>AT (nb0_b8271_4_b8271 b hb))
  have ho0_b8271_5:=ho0_b8271_5.mv n6 y9 (fun b hb=>AT (nb0_b8271_5_b8271 b hb))
  refine AD (BE (AA (AC kR (AB (AH (vI ((k:Nat):Int)) rfl (AB (CJ .i64 ((k:Nat):Int) (1:Int) (((k+1:Nat):Int)) rfl rfl (EI oM oM) (AB (AG (vI ((k+1:Nat):Int)) rfl (AD (AA (?_))))))))))))
  exact ⟨_,oM,(k+1),a2,a0,a5,(c4 :: (c3 :: (a8 :: (a6 :: b4)))),oM,rfl,⟨_,AQ _ ⟨rfl,rfl,(by rfl),rfl,trivial⟩⟩,S3,(by rw [show (AE ((id % 4).toNat:Int) steps (k+1)).backups=(AE ((id % 4).toNat:Int) steps k).backups from by (rw [BN,do_dn aS aS aS aS aS];done)];exact ho0_b8271_4),b1,(by rw [show (AE ((id % 4).toNat:Int) steps (k+1)).done=(AE ((id % 4).toNat:Int) steps k).done from by (rw [BN,do_dn aS aS aS aS aS];done)];exact ho0_b8271_5),b0,(by rw [show (AE ((id % 4).toNat:Int) steps (k+1)).d.ops=(AE ((id % 4).toNat:Int) steps k).d.ops from by (rw [BN,do_dn aS aS aS aS aS];done)];exact a3),a4,(by rw [show ([vI ((AE ((id % 4).toNat:Int) steps (k+1)).d.id),vI ((AE ((id % 4).toNat:Int) steps (k+1)).d.counter),a5,vO ((AE ((id % 4).toNat:Int) steps (k+1)).d.halted),a2,a0]:List Value)=[vI ((AE ((id % 4).toNat:Int) steps k).d.id),vI ((AE ((id % 4).toNat:Int) steps k).d.counter),a5,vO ((AE ((id % 4).toNat:Int) steps k).d.halted),a2,a0] from by (rw [BN,do_dn aS aS aS aS aS];done)];exact G7),(by (repeat (first|assumption|apply List.mem_cons_of_mem))),nb0_b8271_4_b8271,nb0_b8271_5_b8271,nn0_b8271_4_b8271_5,nn0_b8271_5_b8271_4⟩
 have W6:(steps.length:Int)≤((k:Nat):Int):=by simpa using o0
 obtain rfl:k=steps.length:=by omega
 refine DV (CK (CK (DD (AA (AF (AF (?_)))))))
 obtain ⟨z0,S4,z1,b8,v5⟩:=ho0_b8271_4.publish T0
 have b0:∀ b,a0.ownBlock=some b→b∈z0:=fun b hb=>v5 b (b0 b hb) (nn0_b8271_5_b8271_4 b hb)
 have d2:b3∈z0:=v5 b3 (by repeat (assumption)) (fun e=>absurd rfl (nb0_b8271_4_b8271 _ e))
 have T4:=b8.len_le
 have a3:=a3.mv z1
 have ho0_b8271_5:=ho0_b8271_5.mv z1 (Keep.refl [] _) (by simp)
 have a1:=a1.keep (Keep.refl [] _) (by simp)
 obtain ⟨z2,S5,z3,b2,G8⟩:=ho0_b8271_5.publish S4
 have d2:b3∈z2:=G8 b3 (by repeat (assumption)) (fun e=>absurd rfl (nb0_b8271_5_b8271 _ e))
 have T5:=b2.len_le
 have a3:=a3.mv z3
 have b8:=b8.mv z3
 have a1:=a1.keep (Keep.refl [] _) (by simp)
 refine AC kR (AB (AG (vI 0) rfl (AD (AA (BP (?_))))))
 have hI:=run_inv (id:=((id % 4).toNat:Int)) oM oM steps steps.length
 refine DW (fun mI FI wI=>∃ (i:Nat) (B:List Nat),i≤(AE ((id % 4).toNat:Int) steps steps.length).done.length∧mI=(AE ((id % 4).toNat:Int) steps steps.length).done.length - i∧(∃ F1,FI=FQ F1 [(7,vP (some ⟨b3,0,none⟩)),(9,vI ((i:Nat):Int)),(112,undef)])∧St w O wI B∧CG Enc.devop wI (B++O) (a5) ((AE ((id % 4).toNat:Int) steps steps.length).d.ops)∧CG (Enc.slice Enc.devop) wI (B++O) (a2) ((AE ((id % 4).toNat:Int) steps steps.length).backups)∧CG Enc.devop wI (B++O) (a0) ((AE ((id % 4).toNat:Int) steps steps.length).done)∧EA wI b3 76 [vI ((AE ((id % 4).toNat:Int) steps steps.length).d.id),vI ((AE ((id % 4).toNat:Int) steps steps.length).d.counter),a5,vO ((AE ((id % 4).toNat:Int) steps steps.length).d.halted),a2,a0]∧b3∈B) ((AE ((id % 4).toNat:Int) steps steps.length).done.length - (0)) ?_ ?_
 ·exact ⟨(0),z2,oM,rfl,⟨_,AQ _ ⟨rfl,(by rfl),rfl,trivial⟩⟩,S5,a3,b8,b2,a1,aS⟩
 intro bM F W7 hI
 clear a3 b8 b2 a1
 obtain ⟨i,z4,hr1_0,bN,⟨bO,rfl⟩,T3,a3,b8,b2,a1,d2⟩:=hI
 refine AF (AF (AC kR (AB (AH (vI ((i:Nat):Int)) rfl (AB (AM 5 FZ rfl (AB (BA U26_ rfl (a0) rfl a1 rfl (AB (DI U26_ rfl b2 (AB (DG .i64 ((i:Nat):Int) (((AE ((id % 4).toNat:Int) steps steps.length).done).length:Int) rfl rfl (AD (AA (AP (decide (((i:Nat):Int)<(((AE ((id % 4).toNat:Int) steps steps.length).done).length:Int))) rfl rfl (fun p9=>?_) (fun p9=>?_))))))))))))))))
 ·have W8:((i:Nat):Int)<(((AE ((id % 4).toNat:Int) steps steps.length).done).length:Int):=by simpa using p9
  refine AV (AA (AF (BP (AF (AF (EZ 39 _ _ kR kR kR kR kR rfl rfl fun S6 s4=>?_))))))
  have z5:=T3.call s4
  have s5:Mv z4 W7 z4 S6:=Mv.of_keep s4
  have b2:=b2.mv s5
  have a3:=a3.mv s5
  have b8:=b8.mv s5
  have a1:=a1.keep s4 (by simp)
  refine CI (AM 5 FZ rfl (CI (BA U26_ rfl (a0) rfl a1 rfl (CI (AH (vI ((i:Nat):Int)) rfl (CI (DO U26_ CH .i64 ((i:Nat):Int) i rfl rfl rfl b2 oM fun bo G9=>(CI (AS 1 GZ ((((AE ((id % 4).toNat:Int) steps steps.length).done)[i]!).no) rfl G9 (fun _ _ _ h=>DL h) fun bp H0=>(CI (BB U3_ rfl rfl H0 (CI (DG .i64 ((((AE ((id % 4).toNat:Int) steps steps.length).done)[i]!).no) (1:Int) rfl rfl (CI (AH (vO (decide ((((AE ((id % 4).toNat:Int) steps steps.length).done)[i]!).no<(1:Int)))) rfl (?_))))))))))))))))
  have H1:(decide ((((AE ((id % 4).toNat:Int) steps steps.length).done)[i]!).no<(1:Int)))=false:=(decide_eq_false (by have:=(inv_at hI (i:=i) oM).1;omega))
  rw [H1]
  refine DC rfl (AM 5 FZ rfl (DC rfl (BA U26_ rfl (a0) rfl a1 rfl (DC rfl (AH (vI ((i:Nat):Int)) rfl (DC rfl (DO U26_ CH .i64 ((i:Nat):Int) i rfl rfl rfl b2 oM fun bq H2=>(DC rfl (AS 1 GZ ((((AE ((id % 4).toNat:Int) steps steps.length).done)[i]!).no) rfl H2 (fun _ _ _ h=>DL h) fun br H3=>(DC rfl (BB U3_ rfl rfl H3 (DC rfl (AM 0 FS rfl (DC rfl (AM 1 FT rfl (DC rfl (BA U3_ rfl (vI ((AE ((id % 4).toNat:Int) steps steps.length).d.counter)) rfl a1 rfl (DC rfl (HC .i64 ((((AE ((id % 4).toNat:Int) steps steps.length).done)[i]!).no) ((AE ((id % 4).toNat:Int) steps steps.length).d.counter) rfl rfl (CI (BG (vO (decide ((AE ((id % 4).toNat:Int) steps steps.length).d.counter<(((AE ((id % 4).toNat:Int) steps steps.length).done)[i]!).no))) rfl rfl (CI (AH (vO (decide ((AE ((id % 4).toNat:Int) steps steps.length).d.counter<(((AE ((id % 4).toNat:Int) steps steps.length).done)[i]!).no))) rfl (?_))))))))))))))))))))))))
  have H4:(decide ((AE ((id % 4).toNat:Int) steps steps.length).d.counter<(((AE ((id % 4).toNat:Int) steps steps.length).done)[i]!).no))=false:=(decide_eq_false (by have:=(inv_at hI (i:=i) oM).2;omega))
  rw [H4]
  refine DC rfl (AH (vI ((i:Nat):Int)) rfl (DC rfl (HC .i64 ((i:Nat):Int) (0:Int) rfl rfl (DC rfl (AH (vO (decide ((0:Int)<((i:Nat):Int)))) rfl (?_))))))
  cases v6:(decide ((0:Int)<((i:Nat):Int)))
  ·have W9:((i:Nat):Int)≤(0:Int):=by simpa using v6
   refine EC rfl (EC rfl (EC rfl (EC rfl (EC rfl (EC rfl (EC rfl (EC rfl (EC rfl (EC rfl (EC rfl (EC rfl (EC rfl (EC rfl (DC rfl (BG (vO false) rfl rfl (CI (BG (vO false) rfl rfl (GA (AD (AA (AP false rfl rfl (fun h=>by cases h) (fun _=>AV (AA (AF (AC kR (AB (AG (vI 0) rfl (AD (AA (BP (DW (fun mI FI wI=>∃ (k:Nat) (B:List Nat),k≤i∧mI=i - k∧(∃ F1,FI=FQ F1 [(7,vP (some ⟨b3,0,none⟩)),(9,vI ((i:Nat):Int)),(10,vI ((k:Nat):Int)),(112,undef)])∧St w O wI B∧CG Enc.devop wI (B++O) (a5) ((AE ((id % 4).toNat:Int) steps steps.length).d.ops)∧CG (Enc.slice Enc.devop) wI (B++O) (a2) ((AE ((id % 4).toNat:Int) steps steps.length).backups)∧CG Enc.devop wI (B++O) (a0) ((AE ((id % 4).toNat:Int) steps steps.length).done)∧EA wI b3 76 [vI ((AE ((id % 4).toNat:Int) steps steps.length).d.id),vI ((AE ((id % 4).toNat:Int) steps steps.length).d.counter),a5,vO ((AE ((id % 4).toNat:Int) steps steps.length).d.halted),a2,a0]∧b3∈B) (i - (0)) ?_ ?_)))))))))))))))))))))))))))))))
   ·exact ⟨(0),z4,oM,rfl,⟨_,AQ _ ⟨rfl,rfl,(by rfl),rfl,trivial⟩⟩,z5,a3,b8,b2,a1,aS⟩
   intro X0 F H5 hI
   clear a3 b8 b2 a1
   obtain ⟨k,f7,hr2_0,X1,⟨X2,rfl⟩,v7,a3,b8,b2,a1,d2⟩:=hI
   refine AF (AF (AC kR (AB (AH (vI ((k:Nat):Int)) rfl (AB (AH (vI ((i:Nat):Int)) rfl (AB (DG .i64 ((k:Nat):Int) ((i:Nat):Int) rfl rfl (AD (AA (AP (decide (((k:Nat):Int)<((i:Nat):Int))) rfl rfl (fun q0=>?_) (fun q0=>?_))))))))))))
   ·have X3:((k:Nat):Int)<((i:Nat):Int):=by simpa using q0
    refine AV (AA (AF (BP (AF (EZ 22 _ _ kR kR kR kR kR rfl rfl fun S7 s6=>?_)))))
    have z6:=v7.call s6
    have s7:Mv f7 H5 f7 S7:=Mv.of_keep s6
    have a3:=a3.mv s7
    have b8:=b8.mv s7
    have b2:=b2.mv s7
    have a1:=a1.keep s6 (by simp)
    refine CI (AM 5 FZ rfl (CI (BA U26_ rfl (a0) rfl a1 rfl (CI (AH (vI ((k:Nat):Int)) rfl (CI (DO U26_ CH .i64 ((k:Nat):Int) k rfl rfl rfl b2 oM fun bs H6=>(CI (AS 2 HM ((((AE ((id % 4).toNat:Int) steps steps.length).done)[k]!).kind) rfl H6 (fun _ _ _ h=>DU h) fun bt H7=>(CI (BB U3_ rfl rfl H7 (CI (DB .i64 ((((AE ((id % 4).toNat:Int) steps steps.length).done)[k]!).kind) (2:Int) rfl rfl (CI (AH (vO (((((AE ((id % 4).toNat:Int) steps steps.length).done)[k]!).kind) == (2:Int))) rfl (?_))))))))))))))))
    cases v8:(((((AE ((id % 4).toNat:Int) steps steps.length).done)[k]!).kind) == (2:Int))
    ·have X4:(((AE ((id % 4).toNat:Int) steps steps.length).done)[k]!).kind≠(2:Int):=by simpa using v8
     refine EC rfl (EC rfl (EC rfl (EC rfl (EC rfl (EC rfl (EC rfl (EC rfl (EC rfl (EC rfl (EC rfl (EC rfl (EC rfl (CI (BG (vO false) rfl rfl (GA (AD (AA (AP false rfl rfl (fun h=>by cases h) (fun _=>AV (BE (AA (AC kR (AB (AH (vI ((k:Nat):Int)) rfl (AB (CJ .i64 ((k:Nat):Int) (1:Int) (((k+1:Nat):Int)) rfl rfl (EI oM oM) (AB (AG (vI ((k+1:Nat):Int)) rfl (AD (AA (?_)))))))))))))))))))))))))))))))
     exact ⟨_,oM,(k+1),f7,oM,rfl,⟨_,AQ _ ⟨rfl,rfl,(by rfl),rfl,trivial⟩⟩,z6,a3,b8,b2,a1,aS⟩
    have X5:(((AE ((id % 4).toNat:Int) steps steps.length).done)[k]!).kind=(2:Int):=by simpa using v8
    refine DC rfl (AM 5 FZ rfl (DC rfl (BA U26_ rfl (a0) rfl a1 rfl (DC rfl (AH (vI ((k:Nat):Int)) rfl (DC rfl (DO U26_ CH .i64 ((k:Nat):Int) k rfl rfl rfl b2 oM fun bu H8=>(DC rfl (AS 3 FU ((((AE ((id % 4).toNat:Int) steps steps.length).done)[k]!).copy) rfl H8 (fun _ _ _ h=>CR h) fun bv H9=>(DC rfl (BB U3_ rfl rfl H9 (DC rfl (AM 5 FZ rfl (DC rfl (BA U26_ rfl (a0) rfl a1 rfl (DC rfl (AH (vI ((i:Nat):Int)) rfl (DC rfl (DO U26_ CH .i64 ((i:Nat):Int) i rfl rfl rfl b2 oM fun bw I0=>(DC rfl (AS 3 FU ((((AE ((id % 4).toNat:Int) steps steps.length).done)[i]!).copy) rfl I0 (fun _ _ _ h=>CR h) fun bx I1=>(DC rfl (BB U3_ rfl rfl I1 (DC rfl (DB .i64 ((((AE ((id % 4).toNat:Int) steps steps.length).done)[k]!).copy) ((((AE ((id % 4).toNat:Int) steps steps.length).done)[i]!).copy) rfl rfl (CI (BF (vO (((((AE ((id % 4).toNat:Int) steps steps.length).done)[k]!).copy) == ((((AE ((id % 4).toNat:Int) steps steps.length).done)[i]!).copy))) rfl rfl (GA (AD (AA (?_)))))))))))))))))))))))))))))))
    have I2:(((((AE ((id % 4).toNat:Int) steps steps.length).done)[k]!).copy) == ((((AE ((id % 4).toNat:Int) steps steps.length).done)[i]!).copy))=false:=(beq_false_of_ne (fun e=>(LX hI (k:=k) (i:=i) oM oM).2 ⟨by assumption,e⟩))
    rw [I2]
    refine AP false rfl rfl (fun h=>by cases h) (fun _=>AV (BE (AA (AC kR (AB (AH (vI ((k:Nat):Int)) rfl (AB (CJ .i64 ((k:Nat):Int) (1:Int) (((k+1:Nat):Int)) rfl rfl (EI oM oM) (AB (AG (vI ((k+1:Nat):Int)) rfl (AD (AA (?_)))))))))))))
    exact ⟨_,oM,(k+1),f7,oM,rfl,⟨_,AQ _ ⟨rfl,rfl,(by rfl),rfl,trivial⟩⟩,z6,a3,b8,b2,a1,aS⟩
   have X6:((i:Nat):Int)≤((k:Nat):Int):=by simpa using q0
   refine DV (CK (CK (DD (BE (AA (AC kR (AB (AH (vI ((i:Nat):Int)) rfl (AB (CJ .i64 ((i:Nat):Int) (1:Int) (((i+1:Nat):Int)) rfl rfl (EI oM oM) (AB (AG (vI ((i+1:Nat):Int)) rfl (AD (AA (?_)))))))))))))))
   exact ⟨_,oM,(i+1),f7,oM,rfl,⟨_,AQ _ ⟨rfl,(by rfl),rfl,trivial⟩⟩,v7,a3,b8,b2,a1,aS⟩
  have X7:(0:Int)<((i:Nat):Int):=by simpa using v6
  refine DC rfl (AM 5 FZ rfl (DC rfl (BA U26_ rfl (a0) rfl a1 rfl (DC rfl (AH (vI ((i:Nat):Int)) rfl (DC rfl (o_sub .i64 ((i:Nat):Int) (1:Int) (((i - 1:Nat):Int)) rfl rfl (EI oM oM) (DC rfl (DO U26_ CH .i64 ((i - 1:Nat):Int) (i - 1) rfl rfl rfl b2 oM fun bz I3=>(DC rfl (AS 1 GZ ((((AE ((id % 4).toNat:Int) steps steps.length).done)[i - 1]!).no) rfl I3 (fun _ _ _ h=>DL h) fun bA I4=>(DC rfl (BB U3_ rfl rfl I4 (DC rfl (AM 5 FZ rfl (DC rfl (BA U26_ rfl (a0) rfl a1 rfl (DC rfl (AH (vI ((i:Nat):Int)) rfl (DC rfl (DO U26_ CH .i64 ((i:Nat):Int) i rfl rfl rfl b2 oM fun bB I5=>(DC rfl (AS 1 GZ ((((AE ((id % 4).toNat:Int) steps steps.length).done)[i]!).no) rfl I5 (fun _ _ _ h=>DL h) fun bC I6=>(DC rfl (BB U3_ rfl rfl I6 (DC rfl (IB .i64 ((((AE ((id % 4).toNat:Int) steps steps.length).done)[i - 1]!).no) ((((AE ((id % 4).toNat:Int) steps steps.length).done)[i]!).no) rfl rfl (DC rfl (BF (vO (decide ((((AE ((id % 4).toNat:Int) steps steps.length).done)[i]!).no≤(((AE ((id % 4).toNat:Int) steps steps.length).done)[i - 1]!).no))) rfl rfl (CI (BG (vO (decide ((((AE ((id % 4).toNat:Int) steps steps.length).done)[i]!).no≤(((AE ((id % 4).toNat:Int) steps steps.length).done)[i - 1]!).no))) rfl rfl (GA (AD (AA (?_)))))))))))))))))))))))))))))))))))
  have I7:(decide ((((AE ((id % 4).toNat:Int) steps steps.length).done)[i]!).no≤(((AE ((id % 4).toNat:Int) steps steps.length).done)[i - 1]!).no))=false:=(decide_eq_false (by have:=(LX hI (k:=i - 1) (i:=i) oM oM).1;omega))
  rw [I7]
  refine AP false rfl rfl (fun h=>by cases h) (fun _=>AV (AA (AF (AC kR (AB (AG (vI 0) rfl (AD (AA (BP (DW (fun mI FI wI=>∃ (k:Nat) (B:List Nat),k≤i∧mI=i - k∧(∃ F1,FI=FQ F1 [(7,vP (some ⟨b3,0,none⟩)),(9,vI ((i:Nat):Int)),(10,vI ((k:Nat):Int)),(112,undef)])∧St w O wI B∧CG Enc.devop wI (B++O) (a5) ((AE ((id % 4).toNat:Int) steps steps.length).d.ops)∧CG (Enc.slice Enc.devop) wI (B++O) (a2) ((AE ((id % 4).toNat:Int) steps steps.length).backups)∧CG Enc.devop wI (B++O) (a0) ((AE ((id % 4).toNat:Int) steps steps.length).done)∧EA wI b3 76 [vI ((AE ((id % 4).toNat:Int) steps steps.length).d.id),vI ((AE ((id % 4).toNat:Int) steps steps.length).d.counter),a5,vO ((AE ((id % 4).toNat:Int) steps steps.length).d.halted),a2,a0]∧b3∈B) (i - (0)) ?_ ?_))))))))))
  ·exact ⟨(0),z4,oM,rfl,⟨_,AQ _ ⟨rfl,rfl,(by rfl),rfl,trivial⟩⟩,z5,a3,b8,b2,a1,aS⟩
  intro X0 F H5 hI
  clear a3 b8 b2 a1
  obtain ⟨k,f7,hr2_0,X1,⟨X2,rfl⟩,v7,a3,b8,b2,a1,d2⟩:=hI
  refine AF (AF (AC kR (AB (AH (vI ((k:Nat):Int)) rfl (AB (AH (vI ((i:Nat):Int)) rfl (AB (DG .i64 ((k:Nat):Int) ((i:Nat):Int) rfl rfl (AD (AA (AP (decide (((k:Nat):Int)<((i:Nat):Int))) rfl rfl (fun q1=>?_) (fun q1=>?_))))))))))))
  ·have X8:((k:Nat):Int)<((i:Nat):Int):=by simpa using q1
   refine AV (AA (AF (BP (AF (EZ 22 _ _ kR kR kR kR kR rfl rfl fun S8 s8=>?_)))))
   have z7:=v7.call s8
   have s9:Mv f7 H5 f7 S8:=Mv.of_keep s8
   have a3:=a3.mv s9
   have b8:=b8.mv s9
   have b2:=b2.mv s9
   have a1:=a1.keep s8 (by simp)
   refine CI (AM 5 FZ rfl (CI (BA U26_ rfl (a0) rfl a1 rfl (CI (AH (vI ((k:Nat):Int)) rfl (CI (DO U26_ CH .i64 ((k:Nat):Int) k rfl rfl rfl b2 oM fun bD I8=>(CI (AS 2 HM ((((AE ((id % 4).toNat:Int) steps steps.length).done)[k]!).kind) rfl I8 (fun _ _ _ h=>DU h) fun bE I9=>(CI (BB U3_ rfl rfl I9 (CI (DB .i64 ((((AE ((id % 4).toNat:Int) steps steps.length).done)[k]!).kind) (2:Int) rfl rfl (CI (AH (vO (((((AE ((id % 4).toNat:Int) steps steps.length).done)[k]!).kind) == (2:Int))) rfl (?_))))))))))))))))
   cases v9:(((((AE ((id % 4).toNat:Int) steps steps.length).done)[k]!).kind) == (2:Int))
   ·have X9:(((AE ((id % 4).toNat:Int) steps steps.length).done)[k]!).kind≠(2:Int):=by simpa using v9
    refine EC rfl (EC rfl (EC rfl (EC rfl (EC rfl (EC rfl (EC rfl (EC rfl (EC rfl (EC rfl (EC rfl (EC rfl (EC rfl (CI (BG (vO false) rfl rfl (GA (AD (AA (AP false rfl rfl (fun h=>by cases h) (fun _=>AV (BE (AA (AC kR (AB (AH (vI ((k:Nat):Int)) rfl (AB (CJ .i64 ((k:Nat):Int) (1:Int) (((k+1:Nat):Int)) rfl rfl (EI oM oM) (AB (AG (vI ((k+1:Nat):Int)) rfl (AD (AA (?_)))))))))))))))))))))))))))))))
    exact ⟨_,oM,(k+1),f7,oM,rfl,⟨_,AQ _ ⟨rfl,rfl,(by rfl),rfl,trivial⟩⟩,z7,a3,b8,b2,a1,aS⟩
   have Y0:(((AE ((id % 4).toNat:Int) steps steps.length).done)[k]!).kind=(2:Int):=by simpa using v9
   refine DC rfl (AM 5 FZ rfl (DC rfl (BA U26_ rfl (a0) rfl a1 rfl (DC rfl (AH (vI ((k:Nat):Int)) rfl (DC rfl (DO U26_ CH .i64 ((k:Nat):Int) k rfl rfl rfl b2 oM fun bF J0=>(DC rfl (AS 3 FU ((((AE ((id % 4).toNat:Int) steps steps.length).done)[k]!).copy) rfl J0 (fun _ _ _ h=>CR h) fun bG J1=>(DC rfl (BB U3_ rfl rfl J1 (DC rfl (AM 5 FZ rfl (DC rfl (BA U26_ rfl (a0) rfl a1 rfl (DC rfl (AH (vI ((i:Nat):Int)) rfl (DC rfl (DO U26_ CH .i64 ((i:Nat):Int) i rfl rfl rfl b2 oM fun bH J2=>(DC rfl (AS 3 FU ((((AE ((id % 4).toNat:Int) steps steps.length).done)[i]!).copy) rfl J2 (fun _ _ _ h=>CR h) fun bI J3=>(DC rfl (BB U3_ rfl rfl J3 (DC rfl (DB .i64 ((((AE ((id % 4).toNat:Int) steps steps.length).done)[k]!).copy) ((((AE ((id % 4).toNat:Int) steps steps.length).done)[i]!).copy) rfl rfl (CI (BF (vO (((((AE ((id % 4).toNat:Int) steps steps.length).done)[k]!).copy) == ((((AE ((id % 4).toNat:Int) steps steps.length).done)[i]!).copy))) rfl rfl (GA (AD (AA (?_)))))))))))))))))))))))))))))))
   have J4:(((((AE ((id % 4).toNat:Int) steps steps.length).done)[k]!).copy) == ((((AE ((id % 4).toNat:Int) steps steps.length).done)[i]!).copy))=false:=(beq_false_of_ne (fun e=>(LX hI (k:=k) (i:=i) oM oM).2 ⟨by assumption,e⟩))
   rw [J4]
   refine AP false rfl rfl (fun h=>by cases h) (fun _=>AV (BE (AA (AC kR (AB (AH (vI ((k:Nat):Int)) rfl (AB (CJ .i64 ((k:Nat):Int) (1:Int) (((k+1:Nat):Int)) rfl rfl (EI oM oM) (AB (AG (vI ((k+1:Nat):Int)) rfl (AD (AA (?_)))))))))))))
   exact ⟨_,oM,(k+1),f7,oM,rfl,⟨_,AQ _ ⟨rfl,rfl,(by rfl),rfl,trivial⟩⟩,z7,a3,b8,b2,a1,aS⟩
  have Y1:((i:Nat):Int)≤((k:Nat):Int):=by simpa using q1
  refine DV (CK (CK (DD (BE (AA (AC kR (AB (AH (vI ((i:Nat):Int)) rfl (AB (CJ .i64 ((i:Nat):Int) (1:Int) (((i+1:Nat):Int)) rfl rfl (EI oM oM) (AB (AG (vI ((i+1:Nat):Int)) rfl (AD (AA (?_)))))))))))))))
  exact ⟨_,oM,(i+1),f7,oM,rfl,⟨_,AQ _ ⟨rfl,(by rfl),rfl,trivial⟩⟩,v7,a3,b8,b2,a1,aS⟩
 have Y2:(((AE ((id % 4).toNat:Int) steps steps.length).done).length:Int)≤((i:Nat):Int):=by simpa using p9
 refine DV (CK (CK (DD (AA (AF (AC kR (AB (AG (vO true) rfl (AD (AA (AN (AY rfl (CM rfl rfl rfl) (?_)))))))))))))
 exact ⟨_,rfl,T3.keep,rfl⟩
end Go.Proofs.Ytjpniibleelgiaa
