/- The laws RenewalReplaceSpec: each returns true for every input, and its arguments read behind the call as before. No conditions. -/
import Derived.Test.YtjgfokolnkhafaaGreatRows
import Derived.ProofKit
import Derived.Test.YtjgfokolnkhafaaGreatPD27
set_option linter.unusedSimpArgs false
set_option linter.unusedVariables false
namespace Go.Proofs.YtjgfokolnkhafaaGreat
open Go.ChangeShapes Go.WideShapes Go.ChangeAt Go.RowKit Go.Fw
set_option maxRecDepth 100000 in
theorem RenewalReplaceSpec_lifted (os:Os) (started:os.Started) (H:Type) (enc:TypeId × Value→H) :
    ReturnsInHanded {} Tryz.checked os 4 .any (Rows.renewalReplaceSpecSpec.pre6 enc Tryz.prog Tryz.f4 Rows.renewalReplaceSpecRow.domain false) (Rows.renewalReplaceSpecSpec.post enc Tryz.prog Tryz.f4 false true false false):=by
  refine returnsInHanded_of_change (C:=Tryz.checked) Tryz.own started (by kernel_rfl) Tryz.func4
    (ChangeSpec.witness6 (enc:=enc) (C:=Tryz.checked) false ⟨#[],#[.agg #[.int .i64 0, .int .i64 0, .int .i64 0, .slice none 0 0, .slice none 0 0], .slice none 0 0, .slice none 0 0, .int .i64 0, .int .i64 0, .slice none 0 0],[]⟩ 8 (by kernel_rfl) (by kernel_rfl) (by kernel_rfl) (by kernel_rfl)) ?_
  intro W base args ds gs before hval0 hW hcnd _
  have hval:∀ (j:Nat) t v,Tryz.f4.params[j]? = some t→args[j]? = some v→Value.okWide Tryz.prog W .any base t v:=hval0
  have hW':=hW
  obtain ⟨p,q,hK,hV,rfl,hfz,hnd⟩:=hW
  obtain ⟨rfl,rfl⟩:=trodVars_none hV
  have hA:DataW.TrodAll enc Tryz.prog W 0 (fun _=>true) true Tryz.f4.params.toList args.toList ds p:=hK
  rw [Tryz.params4] at hA hval
  obtain ⟨v0,vs0,d0,ds0,p0,q0,hl0,rfl,hp0,h0,hA⟩:=trodAll_cons hA
  obtain ⟨v1,vs1,d1,ds1,p1,q1,hl1,rfl,hp1,h1,hA⟩:=trodAll_cons hA
  obtain ⟨v2,vs2,d2,ds2,p2,q2,hl2,rfl,hp2,h2,hA⟩:=trodAll_cons hA
  obtain ⟨v3,vs3,d3,ds3,p3,q3,hl3,rfl,hp3,h3,hA⟩:=trodAll_cons hA
  obtain ⟨v4,vs4,d4,ds4,p4,q4,hl4,rfl,hp4,h4,hA⟩:=trodAll_cons hA
  obtain ⟨v5,vs5,d5,ds5,p5,q5,hl5,rfl,hp5,h5,hA⟩:=trodAll_cons hA
  obtain ⟨hl6,rfl,_⟩:=trodAll_nil hA
  subst hl6
  subst hl5
  subst hl4
  subst hl3
  subst hl2
  subst hl1
  obtain rfl:args = #[v0,v1,v2,v3,v4,v5]:=by cases args;simp_all
  obtain ⟨cs0,x0,rfl,r0⟩:=arg_struct Tryz.underlying25 TN h0 (hval 0 25 v0 rfl rfl)
  obtain ⟨x1,r1⟩:=TM Tryz.underlying27 (HU Tryz.underlying27 (by kernel_rfl) (by decide) UC) h1 (hval 1 27 v1 rfl rfl)
  obtain ⟨x2,r2⟩:=TM Tryz.underlying22 (HU Tryz.underlying22 (by kernel_rfl) (by decide) (GF Tryz.underlying3 (by kernel_rfl))) h2 (hval 2 22 v2 rfl rfl)
  obtain ⟨x3,rfl⟩:=arg_int Tryz.underlying3 h3 (hval 3 3 v3 rfl rfl)
  obtain ⟨x4,rfl⟩:=arg_int Tryz.underlying3 h4 (hval 4 3 v4 rfl rfl)
  obtain ⟨x5,r5⟩:=TM Tryz.underlying26 (HU Tryz.underlying26 (by kernel_rfl) (by decide) (opens_u8 Tryz.underlying5 (by kernel_rfl))) h5 (hval 5 26 v5 rfl rfl)
  have hw:=PR (O:=[]) cs0 x0 _ x1 _ x2 x3 x4 _ x5 W r0 r1 r2 r5 NS
  refine Calls.mono hw fun e W' ⟨v,he,hk,hv⟩=>?_
  subst he;subst hv
  exact ⟨_,rfl,post_keep (pa:=p) (pv:=[]) hW' (fun _ _ _=>trodAll_mk1 (shut_bool Tryz.underlying4 true)) (fun sp hs=>QS Tryz.laidOut hk.below (by kernel_rfl) hK (fun x hx=>hW'.lt x (List.mem_append_left _ hx)) (fun x hx=>hs x (List.mem_append_left _ hx))) (fun _ _=>rfl) rfl
    hk.below (ok_one (by kernel_rfl) rfl (okWide_bool_mk Tryz.underlying4 true))⟩
theorem RenewalReplaceSpec_holds:Rows.RenewalReplaceSpecSaid:=
  OpenClaim.holds_of_wide 4 Tryz.f4 rfl rfl rfl rfl rfl rfl rfl ⟨rfl,rfl,rfl,rfl,rfl⟩ rfl rfl rfl rfl rfl (by kernel_rfl) Tryz.func4 (by kernel_rfl)
    (of_decide_eq_true (by kernel_rfl)) (by unfold Func.isWrapper;rw [if_neg (by decide +kernel)];exact ⟨rfl,rfl⟩)
    (fun os started H enc _=>RenewalReplaceSpec_lifted os started H enc)
end Go.Proofs.YtjgfokolnkhafaaGreat
