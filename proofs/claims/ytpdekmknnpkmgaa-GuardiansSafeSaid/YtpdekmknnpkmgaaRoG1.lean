/- The laws GuardiansSafe: each returns true for every input, and its arguments read behind the call as before. No conditions. -/
import Derived.Test.YtpdekmknnpkmgaaRows
import Derived.ProofKit
import Derived.Test.YtpdekmknnpkmgaaPG14
set_option linter.unusedSimpArgs false
set_option linter.unusedVariables false
namespace Go.Proofs.Ytpdekmknnpkmgaa
open Go.ChangeShapes Go.WideShapes Go.ChangeAt Go.RowKit Go.Fw
set_option maxRecDepth 100000 in
theorem GuardiansSafe_lifted (os:Os) (started:os.Started) (H:Type) (enc:TypeId × Value→H) :
    ReturnsInHanded {} Try.checked os 5 .any (Rows.guardiansSafeSpec.pre6 enc Try.prog Try.f5 Rows.guardiansSafeRow.domain false) (Rows.guardiansSafeSpec.post enc Try.prog Try.f5 false true false false):=by
  refine returnsInHanded_of_change (C:=Try.checked) Try.own started (by kernel_rfl) Try.func5
    (ChangeSpec.witness6 (enc:=enc) (C:=Try.checked) false ⟨#[],#[.slice none 0 0, .int .i64 0, .int .i64 0, .slice none 0 0],[]⟩ 8 (by kernel_rfl) (by kernel_rfl) (by kernel_rfl) (by kernel_rfl)) ?_
  intro W base args ds gs before hval0 hW hcnd _
  have hval:∀ (j:Nat) t v,Try.f5.params[j]? = some t→args[j]? = some v→Value.okWide Try.prog W .any base t v:=hval0
  have hW':=hW
  obtain ⟨p,q,hK,hV,rfl,hfz,hnd⟩:=hW
  obtain ⟨rfl,rfl⟩:=trodVars_none hV
  have hA:DataW.TrodAll enc Try.prog W 0 (fun _=>true) true Try.f5.params.toList args.toList ds p:=hK
  rw [Try.params5] at hA hval
  obtain ⟨v0,vs0,d0,ds0,p0,q0,hl0,rfl,hp0,h0,hA⟩:=trodAll_cons hA
  obtain ⟨v1,vs1,d1,ds1,p1,q1,hl1,rfl,hp1,h1,hA⟩:=trodAll_cons hA
  obtain ⟨v2,vs2,d2,ds2,p2,q2,hl2,rfl,hp2,h2,hA⟩:=trodAll_cons hA
  obtain ⟨v3,vs3,d3,ds3,p3,q3,hl3,rfl,hp3,h3,hA⟩:=trodAll_cons hA
  obtain ⟨hl4,rfl,_⟩:=trodAll_nil hA
  subst hl4
  subst hl3
  subst hl2
  subst hl1
  obtain rfl:args = #[v0,v1,v2,v3]:=by cases args;simp_all
  obtain ⟨x0,r0⟩:=MY Try.underlying22 (KZ Try.underlying22 (by kernel_rfl) (by decide) (NM Try.underlying3 (by kernel_rfl))) h0 (hval 0 22 v0 rfl rfl)
  obtain ⟨x1,rfl⟩:=arg_int Try.underlying3 h1 (hval 1 3 v1 rfl rfl)
  obtain ⟨x2,rfl⟩:=arg_int Try.underlying3 h2 (hval 2 3 v2 rfl rfl)
  obtain ⟨x3,r3⟩:=MY Try.underlying38 (KZ Try.underlying38 (by kernel_rfl) (by decide) MO) h3 (hval 3 38 v3 rfl rfl)
  have hw:=LD (O:=[]) _ x0 x1 x2 _ x3 W r0 r3 HN
  refine Calls.mono hw fun e W' ⟨v,he,hk,hv⟩=>?_
  subst he;subst hv
  exact ⟨_,rfl,post_keep (pa:=p) (pv:=[]) hW' (fun _ _ _=>trodAll_mk1 (shut_bool Try.underlying4 true)) (fun sp hs=>IZ Try.laidOut hk.below (by kernel_rfl) hK (fun x hx=>hW'.lt x (List.mem_append_left _ hx)) (fun x hx=>hs x (List.mem_append_left _ hx))) (fun _ _=>rfl) rfl
    hk.below (ok_one (by kernel_rfl) rfl (okWide_bool_mk Try.underlying4 true))⟩
theorem GuardiansSafe_holds:Rows.GuardiansSafeSaid:=
  OpenClaim.holds_of_wide 5 Try.f5 rfl rfl rfl rfl rfl rfl rfl ⟨rfl,rfl,rfl,rfl,rfl⟩ rfl rfl rfl rfl rfl (by kernel_rfl) Try.func5 (by kernel_rfl)
    (of_decide_eq_true (by kernel_rfl)) (by unfold Func.isWrapper;rw [if_neg (by decide +kernel)];exact ⟨rfl,rfl⟩)
    (fun os started H enc _=>GuardiansSafe_lifted os started H enc)
end Go.Proofs.Ytpdekmknnpkmgaa
