/- The laws RenewalMixedSpec: each returns true for every input, and its arguments read behind the call as before. No conditions. -/
import Derived.Test.YtjgfokolnkhafaaRows
import Derived.ProofKit
import Derived.Test.YtjgfokolnkhafaaPC56
set_option linter.unusedSimpArgs false
set_option linter.unusedVariables false
namespace Go.Proofs.Ytjgfokolnkhafaa
open Go.ChangeShapes Go.WideShapes Go.ChangeAt Go.RowKit Go.Fw
set_option maxRecDepth 100000 in
theorem RenewalMixedSpec_lifted (os:Os) (started:os.Started) (H:Type) (enc:TypeId × Value→H) :
    ReturnsInHanded {} Try.checked os 4 .any (Rows.renewalMixedSpecSpec.pre6 enc Try.prog Try.f4 Rows.renewalMixedSpecRow.domain false) (Rows.renewalMixedSpecSpec.post enc Try.prog Try.f4 false true false false):=by
  refine returnsInHanded_of_change (C:=Try.checked) Try.own started (by kernel_rfl) Try.func4
    (ChangeSpec.witness6 (enc:=enc) (C:=Try.checked) false ⟨#[],#[.slice none 0 0, .slice none 0 0, .slice none 0 0],[]⟩ 8 (by kernel_rfl) (by kernel_rfl) (by kernel_rfl) (by kernel_rfl)) ?_
  intro W base args ds gs before hval0 hW hcnd _
  have hval:∀ (j:Nat) t v,Try.f4.params[j]? = some t→args[j]? = some v→Value.okWide Try.prog W .any base t v:=hval0
  have hW':=hW
  obtain ⟨p,q,hK,hV,rfl,hfz,hnd⟩:=hW
  obtain ⟨rfl,rfl⟩:=trodVars_none hV
  have hA:DataW.TrodAll enc Try.prog W 0 (fun _=>true) true Try.f4.params.toList args.toList ds p:=hK
  rw [Try.params4] at hA hval
  obtain ⟨v0,vs0,d0,ds0,p0,q0,hl0,rfl,hp0,h0,hA⟩:=trodAll_cons hA
  obtain ⟨v1,vs1,d1,ds1,p1,q1,hl1,rfl,hp1,h1,hA⟩:=trodAll_cons hA
  obtain ⟨v2,vs2,d2,ds2,p2,q2,hl2,rfl,hp2,h2,hA⟩:=trodAll_cons hA
  obtain ⟨hl3,rfl,_⟩:=trodAll_nil hA
  subst hl3
  subst hl2
  subst hl1
  obtain rfl:args = #[v0,v1,v2]:=by cases args;simp_all
  obtain ⟨x0,r0⟩:=TH Try.underlying32 (MJ Try.underlying32 (by kernel_rfl) (by decide) OI) h0 (hval 0 32 v0 rfl rfl)
  obtain ⟨x1,r1⟩:=TH Try.underlying32 (MJ Try.underlying32 (by kernel_rfl) (by decide) OI) h1 (hval 1 32 v1 rfl rfl)
  obtain ⟨x2,r2⟩:=TH Try.underlying23 (MJ Try.underlying23 (by kernel_rfl) (by decide) (opens_u8 Try.underlying5 (by kernel_rfl))) h2 (hval 2 23 v2 rfl rfl)
  have hw:=QR (O:=[]) _ x0 _ x1 _ x2 W r0 r1 r2 PQ
  refine Calls.mono hw fun e W' ⟨v,he,hk,hv⟩=>?_
  subst he;subst hv
  exact ⟨_,rfl,post_keep (pa:=p) (pv:=[]) hW' (fun _ _ _=>trodAll_mk1 (shut_bool Try.underlying4 true)) (fun sp hs=>QK Try.laidOut hk.below (by kernel_rfl) hK (fun x hx=>hW'.lt x (List.mem_append_left _ hx)) (fun x hx=>hs x (List.mem_append_left _ hx))) (fun _ _=>rfl) rfl
    hk.below (ok_one (by kernel_rfl) rfl (okWide_bool_mk Try.underlying4 true))⟩
theorem RenewalMixedSpec_holds:Rows.RenewalMixedSpecSaid:=
  OpenClaim.holds_of_wide 4 Try.f4 rfl rfl rfl rfl rfl rfl rfl ⟨rfl,rfl,rfl,rfl,rfl⟩ rfl rfl rfl rfl rfl (by kernel_rfl) Try.func4 (by kernel_rfl)
    (of_decide_eq_true (by kernel_rfl)) (by unfold Func.isWrapper;rw [if_neg (by decide +kernel)];exact ⟨rfl,rfl⟩)
    (fun os started H enc _=>RenewalMixedSpec_lifted os started H enc)
end Go.Proofs.Ytjgfokolnkhafaa
