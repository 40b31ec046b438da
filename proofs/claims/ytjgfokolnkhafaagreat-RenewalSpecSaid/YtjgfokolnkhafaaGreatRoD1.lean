/- The laws RenewalSpec: each returns true for every input, and its arguments read behind the call as before. No conditions. -/
import Derived.Test.YtjgfokolnkhafaaGreatRows
import Derived.ProofKit
import Derived.Test.YtjgfokolnkhafaaGreatPD17
set_option linter.unusedSimpArgs false
set_option linter.unusedVariables false
namespace Go.Proofs.YtjgfokolnkhafaaGreat
open Go.ChangeShapes Go.WideShapes Go.ChangeAt Go.RowKit Go.Fw
set_option maxRecDepth 100000 in
theorem RenewalSpec_lifted (os:Os) (started:os.Started) (H:Type) (enc:TypeId × Value→H) :
    ReturnsInHanded {} Tryz.checked os 3 .any (Rows.renewalSpecSpec.pre6 enc Tryz.prog Tryz.f3 Rows.renewalSpecRow.domain false) (Rows.renewalSpecSpec.post enc Tryz.prog Tryz.f3 false true false false):=by
  refine returnsInHanded_of_change (C:=Tryz.checked) Tryz.own started (by kernel_rfl) Tryz.func3
    (ChangeSpec.witness6 (enc:=enc) (C:=Tryz.checked) false ⟨#[],#[.agg #[.int .i64 0, .int .i64 0, .int .i64 0, .slice none 0 0, .slice none 0 0], .slice none 0 0, .slice none 0 0, .slice none 0 0],[]⟩ 8 (by kernel_rfl) (by kernel_rfl) (by kernel_rfl) (by kernel_rfl)) ?_
  intro W base args ds gs before hval0 hW hcnd _
  have hval:∀ (j:Nat) t v,Tryz.f3.params[j]? = some t→args[j]? = some v→Value.okWide Tryz.prog W .any base t v:=hval0
  have hW':=hW
  obtain ⟨p,q,hK,hV,rfl,hfz,hnd⟩:=hW
  obtain ⟨rfl,rfl⟩:=trodVars_none hV
  have hA:DataW.TrodAll enc Tryz.prog W 0 (fun _=>true) true Tryz.f3.params.toList args.toList ds p:=hK
  rw [Tryz.params3] at hA hval
  obtain ⟨v0,vs0,d0,ds0,p0,q0,hl0,rfl,hp0,h0,hA⟩:=trodAll_cons hA
  obtain ⟨v1,vs1,d1,ds1,p1,q1,hl1,rfl,hp1,h1,hA⟩:=trodAll_cons hA
  obtain ⟨v2,vs2,d2,ds2,p2,q2,hl2,rfl,hp2,h2,hA⟩:=trodAll_cons hA
  obtain ⟨v3,vs3,d3,ds3,p3,q3,hl3,rfl,hp3,h3,hA⟩:=trodAll_cons hA
  obtain ⟨hl4,rfl,_⟩:=trodAll_nil hA
  subst hl4
  subst hl3
  subst hl2
  subst hl1
  obtain rfl:args = #[v0,v1,v2,v3]:=by cases args;simp_all
  obtain ⟨cs0,x0,rfl,r0⟩:=arg_struct Tryz.underlying25 SJ h0 (hval 0 25 v0 rfl rfl)
  obtain ⟨x1,r1⟩:=TC Tryz.underlying26 (HM Tryz.underlying26 (by kernel_rfl) (by decide) (UG Tryz.underlying5 (by kernel_rfl))) h1 (hval 1 26 v1 rfl rfl)
  obtain ⟨x2,r2⟩:=TC Tryz.underlying26 (HM Tryz.underlying26 (by kernel_rfl) (by decide) (UG Tryz.underlying5 (by kernel_rfl))) h2 (hval 2 26 v2 rfl rfl)
  obtain ⟨x3,r3⟩:=TC Tryz.underlying27 (HM Tryz.underlying27 (by kernel_rfl) (by decide) TQ) h3 (hval 3 27 v3 rfl rfl)
  have hw:=WQ (O:=[]) cs0 x0 _ x1 _ x2 _ x3 W r0 r1 r2 r3 PJ
  refine Calls.mono hw fun e W' ⟨v,he,hk,hv⟩=>?_
  subst he;subst hv
  exact ⟨_,rfl,post_keep (pa:=p) (pv:=[]) hW' (fun _ _ _=>trodAll_mk1 (shut_bool Tryz.underlying4 true)) (fun sp hs=>PY Tryz.laidOut hk.below (by kernel_rfl) hK (fun x hx=>hW'.lt x (List.mem_append_left _ hx)) (fun x hx=>hs x (List.mem_append_left _ hx))) (fun _ _=>rfl) rfl
    hk.below (ok_one (by kernel_rfl) rfl (okWide_bool_mk Tryz.underlying4 true))⟩
theorem RenewalSpec_holds:Rows.RenewalSpecSaid:=
  OpenClaim.holds_of_wide 3 Tryz.f3 rfl rfl rfl rfl rfl rfl rfl ⟨rfl,rfl,rfl,rfl,rfl⟩ rfl rfl rfl rfl rfl (by kernel_rfl) Tryz.func3 (by kernel_rfl)
    (of_decide_eq_true (by kernel_rfl)) (by unfold Func.isWrapper;rw [if_neg (by decide +kernel)];exact ⟨rfl,rfl⟩)
    (fun os started H enc _=>RenewalSpec_lifted os started H enc)
end Go.Proofs.YtjgfokolnkhafaaGreat
