/- The laws TopRecovery: each returns true for every input, and its arguments read behind the call as before. No conditions. -/
import Derived.Test.YtjgfokolnkhafaaRows
import Derived.ProofKit
import Derived.Test.YtjgfokolnkhafaaPT27
set_option linter.unusedSimpArgs false
set_option linter.unusedVariables false
namespace Go.Proofs.Ytjgfokolnkhafaa
open Go.ChangeShapes Go.WideShapes Go.ChangeAt Go.RowKit Go.Fw
set_option maxRecDepth 100000 in
theorem TopRecovery_lifted (os:Os) (started:os.Started) (H:Type) (enc:TypeId × Value→H) :
    ReturnsInHanded {} Try.checked os 3 .any (Rows.topRecoverySpec.pre6 enc Try.prog Try.f3 Rows.topRecoveryRow.domain false) (Rows.topRecoverySpec.post enc Try.prog Try.f3 false true false false):=by
  refine returnsInHanded_of_change (C:=Try.checked) Try.own started (by kernel_rfl) Try.func3
    (ChangeSpec.witness6 (enc:=enc) (C:=Try.checked) false ⟨#[],#[.slice none 0 0, .int .i64 0, .int .i64 0, .slice none 0 0, .slice none 0 0, .slice none 0 0, .slice none 0 0, .int .u8 0, .int .u8 0],[]⟩ 8 (by kernel_rfl) (by kernel_rfl) (by kernel_rfl) (by kernel_rfl)) ?_
  intro W base args ds gs before hval0 hW hcnd _
  have hval:∀ (j:Nat) t v,Try.f3.params[j]? = some t→args[j]? = some v→Value.okWide Try.prog W .any base t v:=hval0
  have hW':=hW
  obtain ⟨p,q,hK,hV,rfl,hfz,hnd⟩:=hW
  obtain ⟨rfl,rfl⟩:=trodVars_none hV
  have hA:DataW.TrodAll enc Try.prog W 0 (fun _=>true) true Try.f3.params.toList args.toList ds p:=hK
  rw [Try.params3] at hA hval
  obtain ⟨v0,vs0,d0,ds0,p0,q0,hl0,rfl,hp0,h0,hA⟩:=trodAll_cons hA
  obtain ⟨v1,vs1,d1,ds1,p1,q1,hl1,rfl,hp1,h1,hA⟩:=trodAll_cons hA
  obtain ⟨v2,vs2,d2,ds2,p2,q2,hl2,rfl,hp2,h2,hA⟩:=trodAll_cons hA
  obtain ⟨v3,vs3,d3,ds3,p3,q3,hl3,rfl,hp3,h3,hA⟩:=trodAll_cons hA
  obtain ⟨v4,vs4,d4,ds4,p4,q4,hl4,rfl,hp4,h4,hA⟩:=trodAll_cons hA
  obtain ⟨v5,vs5,d5,ds5,p5,q5,hl5,rfl,hp5,h5,hA⟩:=trodAll_cons hA
  obtain ⟨v6,vs6,d6,ds6,p6,q6,hl6,rfl,hp6,h6,hA⟩:=trodAll_cons hA
  obtain ⟨v7,vs7,d7,ds7,p7,q7,hl7,rfl,hp7,h7,hA⟩:=trodAll_cons hA
  obtain ⟨v8,vs8,d8,ds8,p8,q8,hl8,rfl,hp8,h8,hA⟩:=trodAll_cons hA
  obtain ⟨hl9,rfl,_⟩:=trodAll_nil hA
  subst hl9
  subst hl8
  subst hl7
  subst hl6
  subst hl5
  subst hl4
  subst hl3
  subst hl2
  subst hl1
  obtain rfl:args = #[v0,v1,v2,v3,v4,v5,v6,v7,v8]:=by cases args;simp_all
  obtain ⟨x0,r0⟩:=OA Try.underlying22 (HZ Try.underlying22 (by kernel_rfl) (by decide) (ME Try.underlying3 (by kernel_rfl))) h0 (hval 0 22 v0 rfl rfl)
  obtain ⟨x1,rfl⟩:=arg_int Try.underlying3 h1 (hval 1 3 v1 rfl rfl)
  obtain ⟨x2,rfl⟩:=arg_int Try.underlying3 h2 (hval 2 3 v2 rfl rfl)
  obtain ⟨x3,r3⟩:=OA Try.underlying23 (HZ Try.underlying23 (by kernel_rfl) (by decide) (PJ Try.underlying5 (by kernel_rfl))) h3 (hval 3 23 v3 rfl rfl)
  obtain ⟨x4,r4⟩:=OA Try.underlying23 (HZ Try.underlying23 (by kernel_rfl) (by decide) (PJ Try.underlying5 (by kernel_rfl))) h4 (hval 4 23 v4 rfl rfl)
  obtain ⟨x5,r5⟩:=OA Try.underlying24 (HZ Try.underlying24 (by kernel_rfl) (by decide) XP) h5 (hval 5 24 v5 rfl rfl)
  obtain ⟨x6,r6⟩:=OA Try.underlying23 (HZ Try.underlying23 (by kernel_rfl) (by decide) (PJ Try.underlying5 (by kernel_rfl))) h6 (hval 6 23 v6 rfl rfl)
  obtain ⟨x7,rfl⟩:=arg_u8 Try.underlying5 h7 (hval 7 5 v7 rfl rfl)
  obtain ⟨x8,rfl⟩:=arg_u8 Try.underlying5 h8 (hval 8 5 v8 rfl rfl)
  have hw:=YQ (O:=[]) _ x0 x1 x2 _ x3 _ x4 _ x5 _ x6 x7 x8 W r0 r3 r4 r5 r6 TY
  refine Calls.mono hw fun e W' ⟨v,he,hk,hv⟩=>?_
  subst he;subst hv
  exact ⟨_,rfl,post_keep (pa:=p) (pv:=[]) hW' (fun _ _ _=>trodAll_mk1 (shut_bool Try.underlying4 true)) (fun sp hs=>RN Try.laidOut hk.below (by kernel_rfl) hK (fun x hx=>hW'.lt x (List.mem_append_left _ hx)) (fun x hx=>hs x (List.mem_append_left _ hx))) (fun _ _=>rfl) rfl
    hk.below (ok_one (by kernel_rfl) rfl (okWide_bool_mk Try.underlying4 true))⟩
theorem TopRecovery_holds:Rows.TopRecoverySaid:=
  OpenClaim.holds_of_wide 3 Try.f3 rfl rfl rfl rfl rfl rfl rfl ⟨rfl,rfl,rfl,rfl,rfl⟩ rfl rfl rfl rfl rfl (by kernel_rfl) Try.func3 (by kernel_rfl)
    (of_decide_eq_true (by kernel_rfl)) (by unfold Func.isWrapper;rw [if_neg (by decide +kernel)];exact ⟨rfl,rfl⟩)
    (fun os started H enc _=>TopRecovery_lifted os started H enc)
end Go.Proofs.Ytjgfokolnkhafaa
