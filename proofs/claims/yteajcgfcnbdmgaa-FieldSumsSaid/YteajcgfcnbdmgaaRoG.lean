/- The laws FieldSums: each returns true for every input, and its arguments read behind the call as before. No conditions. -/
import Derived.Test.YteajcgfcnbdmgaaRows
import Derived.Test.YteajcgfcnbdmgaaRoS
import Derived.Test.YteajcgfcnbdmgaaWaH
import Derived.ProofKit
namespace Go.Proofs.Yteajcgfcnbdmgaa
open Go.ChangeShapes Go.WideShapes Go.ChangeAt Go.RowKit Go.Fw

set_option maxRecDepth 100000 in
theorem FieldSums_lifted (os : Os) (started : os.Started) (H : Type) (enc : TypeId × Value → H) :
    ReturnsInHanded {} Try.checked os 9 .any (Rows.fieldSumsSpec.pre6 enc Try.prog Try.f9 Rows.fieldSumsRow.domain false) (Rows.fieldSumsSpec.post enc Try.prog Try.f9 false true false false) := by
  refine returnsInHanded_of_change (C := Try.checked) Try.own started (by kernel_rfl) Try.func9
    (ChangeSpec.witness6 (enc := enc) (C := Try.checked) false ⟨#[], #[.slice none 0 0, .slice none 0 0, .int .u8 0, .int .u8 0], []⟩ 8 (by kernel_rfl) (by kernel_rfl) (by kernel_rfl) (by kernel_rfl)) ?_
  intro W base args ds gs before hval0 hW hcnd _
  have hval : ∀ (j : Nat) t v, Try.f9.params[j]? = some t → args[j]? = some v → Value.okWide Try.prog W .any base t v := hval0
  have hW' := hW
  obtain ⟨p, q, hK, hV, rfl, hfz, hnd⟩ := hW
  obtain ⟨rfl, rfl⟩ := trodVars_none hV
  have hA : DataW.TrodAll enc Try.prog W 0 (fun _ => true) true Try.f9.params.toList args.toList ds p := hK
  rw [Try.params9] at hA hval
  obtain ⟨v0, vs0, d0, ds0, p0, q0, hl0, rfl, hp0, h0, hA⟩ := trodAll_cons hA
  obtain ⟨v1, vs1, d1, ds1, p1, q1, hl1, rfl, hp1, h1, hA⟩ := trodAll_cons hA
  obtain ⟨v2, vs2, d2, ds2, p2, q2, hl2, rfl, hp2, h2, hA⟩ := trodAll_cons hA
  obtain ⟨v3, vs3, d3, ds3, p3, q3, hl3, rfl, hp3, h3, hA⟩ := trodAll_cons hA
  obtain ⟨hl4, rfl, _⟩ := trodAll_nil hA
  subst hl4
  subst hl3
  subst hl2
  subst hl1
  obtain rfl : args = #[v0, v1, v2, v3] := by cases args; simp_all
  obtain ⟨x0, r0⟩ := arg_slice Try.underlying28 (opens_slice Try.underlying28 (by kernel_rfl) (by decide) (opens_u8 Try.underlying5 (by kernel_rfl))) h0 (hval 0 28 v0 rfl rfl)
  obtain ⟨x1, r1⟩ := arg_slice Try.underlying28 (opens_slice Try.underlying28 (by kernel_rfl) (by decide) (opens_u8 Try.underlying5 (by kernel_rfl))) h1 (hval 1 28 v1 rfl rfl)
  obtain ⟨x2, rfl⟩ := arg_u8 Try.underlying5 h2 (hval 2 5 v2 rfl rfl)
  obtain ⟨x3, rfl⟩ := arg_u8 Try.underlying5 h3 (hval 3 5 v3 rfl rfl)
  have hw := c_FieldSums (O := []) _ x0 _ x1 x2 x3 W r0 r1 no_blocks
  refine Calls.mono hw fun e W' ⟨v, he, hk, hv⟩ => ?_
  subst he; subst hv
  exact ⟨_, rfl, post_keep (pa := p) (pv := []) hW' (fun _ _ _ => trodAll_mk1 (shut_bool Try.underlying4 true)) (fun sp hs => trodAll_stays Try.laidOut hk.below (by kernel_rfl) hK (fun x hx => hW'.lt x (List.mem_append_left _ hx)) (fun x hx => hs x (List.mem_append_left _ hx))) (fun _ _ => rfl) rfl
    hk.below (ok_one (by kernel_rfl) rfl (okWide_bool_mk Try.underlying4 true))⟩
theorem FieldSums_holds : Rows.FieldSumsSaid :=
  OpenClaim.holds_of_wide 9 Try.f9 rfl rfl rfl rfl rfl rfl rfl ⟨rfl, rfl, rfl, rfl, rfl⟩ rfl rfl rfl rfl rfl (by kernel_rfl) Try.func9 (by kernel_rfl)
    (of_decide_eq_true (by kernel_rfl)) (by unfold Func.isWrapper; rw [if_neg (by decide +kernel)]; exact ⟨rfl, rfl⟩)
    (fun os started H enc _ => FieldSums_lifted os started H enc)

end Go.Proofs.Yteajcgfcnbdmgaa
