/- The laws RollbackBurnt: each returns true for every input, and its arguments read behind the call as before. No conditions. -/
import Derived.Test.YtjpniibleelgiaaRows
import Derived.Test.YtjpniibleelgiaaRoS
import Derived.Test.YtjpniibleelgiaaYn
import Derived.ProofKit
set_option linter.unusedSimpArgs false
set_option linter.unusedVariables false
namespace Go.Proofs.Ytjpniibleelgiaa
open Go.ChangeShapes Go.WideShapes Go.ChangeAt Go.RowKit Go.Fw

set_option maxRecDepth 100000 in
theorem RollbackBurnt_lifted (os : Os) (started : os.Started) (H : Type) (enc : TypeId × Value → H) :
    ReturnsInHanded {} Try.checked os 18 .any (Rows.rollbackBurntSpec.pre6 enc Try.prog Try.f18 Rows.rollbackBurntRow.domain false) (Rows.rollbackBurntSpec.post enc Try.prog Try.f18 false true false false) := by
  refine returnsInHanded_of_change (C := Try.checked) Try.own started (by kernel_rfl) Try.func18
    (ChangeSpec.witness6 (enc := enc) (C := Try.checked) false ⟨#[], #[.agg #[.int .i64 0, .int .i64 0, .slice none 0 0, .bool false], .int .i64 0, .int .i64 0, .int .i64 0, .int .i64 0], []⟩ 8 (by kernel_rfl) (by kernel_rfl) (by kernel_rfl) (by kernel_rfl)) ?_
  intro W base args ds gs before hval0 hW hcnd _
  have hval : ∀ (j : Nat) t v, Try.f18.params[j]? = some t → args[j]? = some v → Value.okWide Try.prog W .any base t v := hval0
  have hW' := hW
  obtain ⟨p, q, hK, hV, rfl, hfz, hnd⟩ := hW
  obtain ⟨rfl, rfl⟩ := trodVars_none hV
  have hA : DataW.TrodAll enc Try.prog W 0 (fun _ => true) true Try.f18.params.toList args.toList ds p := hK
  rw [Try.params18] at hA hval
  obtain ⟨v0, vs0, d0, ds0, p0, q0, hl0, rfl, hp0, h0, hA⟩ := trodAll_cons hA
  obtain ⟨v1, vs1, d1, ds1, p1, q1, hl1, rfl, hp1, h1, hA⟩ := trodAll_cons hA
  obtain ⟨v2, vs2, d2, ds2, p2, q2, hl2, rfl, hp2, h2, hA⟩ := trodAll_cons hA
  obtain ⟨v3, vs3, d3, ds3, p3, q3, hl3, rfl, hp3, h3, hA⟩ := trodAll_cons hA
  obtain ⟨v4, vs4, d4, ds4, p4, q4, hl4, rfl, hp4, h4, hA⟩ := trodAll_cons hA
  obtain ⟨hl5, rfl, _⟩ := trodAll_nil hA
  subst hl5
  subst hl4
  subst hl3
  subst hl2
  subst hl1
  obtain rfl : args = #[v0, v1, v2, v3, v4] := by cases args; simp_all
  obtain ⟨cs0, x0, rfl, r0⟩ := arg_struct Try.underlying31 opens_Enc_device h0 (hval 0 31 v0 rfl rfl)
  obtain ⟨x1, rfl⟩ := arg_int Try.underlying3 h1 (hval 1 3 v1 rfl rfl)
  obtain ⟨x2, rfl⟩ := arg_int Try.underlying3 h2 (hval 2 3 v2 rfl rfl)
  obtain ⟨x3, rfl⟩ := arg_int Try.underlying3 h3 (hval 3 3 v3 rfl rfl)
  obtain ⟨x4, rfl⟩ := arg_int Try.underlying3 h4 (hval 4 3 v4 rfl rfl)
  have hw := c_RollbackBurnt (O := []) cs0 x0 x1 x2 x3 x4 W r0 no_blocks
  refine Calls.mono hw fun e W' ⟨v, he, hk, hv⟩ => ?_
  subst he; subst hv
  exact ⟨_, rfl, post_keep (pa := p) (pv := []) hW' (fun _ _ _ => trodAll_mk1 (shut_bool Try.underlying4 true)) (fun sp hs => trodAll_stays Try.laidOut hk.below (by kernel_rfl) hK (fun x hx => hW'.lt x (List.mem_append_left _ hx)) (fun x hx => hs x (List.mem_append_left _ hx))) (fun _ _ => rfl) rfl
    hk.below (ok_one (by kernel_rfl) rfl (okWide_bool_mk Try.underlying4 true))⟩
theorem RollbackBurnt_holds : Rows.RollbackBurntSaid :=
  OpenClaim.holds_of_wide 18 Try.f18 rfl rfl rfl rfl rfl rfl rfl ⟨rfl, rfl, rfl, rfl, rfl⟩ rfl rfl rfl rfl rfl (by kernel_rfl) Try.func18 (by kernel_rfl)
    (of_decide_eq_true (by kernel_rfl)) (by unfold Func.isWrapper; rw [if_neg (by decide +kernel)]; exact ⟨rfl, rfl⟩)
    (fun os started H enc _ => RollbackBurnt_lifted os started H enc)

end Go.Proofs.Ytjpniibleelgiaa
