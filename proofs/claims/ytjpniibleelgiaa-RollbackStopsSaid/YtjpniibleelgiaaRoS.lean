/- What reads as data of a structure, opened. -/
import Derived.Test.YtjpniibleelgiaaRoA
import Derived.Test.YtjpniibleelgiaaSd
import Derived.ProofKit
set_option linter.unusedSimpArgs false
set_option linter.unusedVariables false
namespace Go.Proofs.Ytjpniibleelgiaa
open Go.RowKit Go.Fw

set_option maxRecDepth 20000 in
theorem opens_Enc_devop : Opens Try.prog 40 Enc.devop := ⟨by kernel_rfl, fun {H enc w fuel cs x} h => by
  obtain ⟨xs, n, rfl, rfl, hl, hx, hf⟩ := DataW.trod_struct Try.underlying40 h
  have hl : cs.length = 6 := hl.trans (by kernel_rfl)
  have hx : xs.length = 6 := hx
  match cs, hl with
  | [c0, c1, c2, c3, c4, c5], _ =>
    obtain ⟨y0, h0⟩ := open_at (opens_int Try.underlying3 (by kernel_rfl)) (hf 0 _ rfl) (by omega)
    obtain ⟨y1, h1⟩ := open_at (opens_int Try.underlying3 (by kernel_rfl)) (hf 1 _ rfl) (by omega)
    obtain ⟨y2, h2⟩ := open_at (opens_int Try.underlying3 (by kernel_rfl)) (hf 2 _ rfl) (by omega)
    obtain ⟨y3, h3⟩ := open_at (opens_int Try.underlying3 (by kernel_rfl)) (hf 3 _ rfl) (by omega)
    obtain ⟨y4, h4⟩ := open_at (opens_int Try.underlying3 (by kernel_rfl)) (hf 4 _ rfl) (by omega)
    obtain ⟨y5, h5⟩ := open_at (opens_int Try.underlying3 (by kernel_rfl)) (hf 5 _ rfl) (by omega)
    have h0 : [c0] = [vI y0] := h0
    cases h0
    have h1 : [c1] = [vI y1] := h1
    cases h1
    have h2 : [c2] = [vI y2] := h2
    cases h2
    have h3 : [c3] = [vI y3] := h3
    cases h3
    have h4 : [c4] = [vI y4] := h4
    cases h4
    have h5 : [c5] = [vI y5] := h5
    cases h5
    exact ⟨⟨y0, y1, y2, y3, y4, y5⟩, rfl⟩⟩
set_option maxRecDepth 20000 in
theorem opens_Enc_device : Opens Try.prog 31 Enc.device := ⟨by kernel_rfl, fun {H enc w fuel cs x} h => by
  obtain ⟨xs, n, rfl, rfl, hl, hx, hf⟩ := DataW.trod_struct Try.underlying31 h
  have hl : cs.length = 4 := hl.trans (by kernel_rfl)
  have hx : xs.length = 4 := hx
  match cs, hl with
  | [c0, c1, c2, c3], _ =>
    obtain ⟨y0, h0⟩ := open_at (opens_int Try.underlying3 (by kernel_rfl)) (hf 0 _ rfl) (by omega)
    obtain ⟨y1, h1⟩ := open_at (opens_int Try.underlying3 (by kernel_rfl)) (hf 1 _ rfl) (by omega)
    obtain ⟨y2, h2⟩ := open_at (opens_slice Try.underlying26 (by kernel_rfl) (by decide) opens_Enc_devop) (hf 2 _ rfl) (by omega)
    obtain ⟨y3, h3⟩ := open_at (opens_bool Try.underlying4 (by kernel_rfl)) (hf 3 _ rfl) (by omega)
    have h0 : [c0] = [vI y0] := h0
    cases h0
    have h1 : [c1] = [vI y1] := h1
    cases h1
    obtain ⟨v2, e2, r2⟩ := h2
    have e2 : [c2] = [v2] := e2
    cases e2
    have h3 : [c3] = [.bool y3] := h3
    cases h3
    exact ⟨⟨y0, y1, y2, y3⟩, ⟨_, rfl, r2⟩⟩⟩
set_option maxRecDepth 20000 in
theorem opens_Enc_step : Opens Try.prog 79 Enc.step := ⟨by kernel_rfl, fun {H enc w fuel cs x} h => by
  obtain ⟨xs, n, rfl, rfl, hl, hx, hf⟩ := DataW.trod_struct Try.underlying79 h
  have hl : cs.length = 6 := hl.trans (by kernel_rfl)
  have hx : xs.length = 6 := hx
  match cs, hl with
  | [c0, c1, c2, c3, c4, c5], _ =>
    obtain ⟨y0, h0⟩ := open_at (opens_u8 Try.underlying5 (by kernel_rfl)) (hf 0 _ rfl) (by omega)
    obtain ⟨y1, h1⟩ := open_at (opens_u8 Try.underlying5 (by kernel_rfl)) (hf 1 _ rfl) (by omega)
    obtain ⟨y2, h2⟩ := open_at (opens_u8 Try.underlying5 (by kernel_rfl)) (hf 2 _ rfl) (by omega)
    obtain ⟨y3, h3⟩ := open_at (opens_u8 Try.underlying5 (by kernel_rfl)) (hf 3 _ rfl) (by omega)
    obtain ⟨y4, h4⟩ := open_at (opens_u8 Try.underlying5 (by kernel_rfl)) (hf 4 _ rfl) (by omega)
    obtain ⟨y5, h5⟩ := open_at (opens_bool Try.underlying4 (by kernel_rfl)) (hf 5 _ rfl) (by omega)
    have h0 : [c0] = [vB y0] := h0
    cases h0
    have h1 : [c1] = [vB y1] := h1
    cases h1
    have h2 : [c2] = [vB y2] := h2
    cases h2
    have h3 : [c3] = [vB y3] := h3
    cases h3
    have h4 : [c4] = [vB y4] := h4
    cases h4
    have h5 : [c5] = [.bool y5] := h5
    cases h5
    exact ⟨⟨y0, y1, y2, y3, y4, y5⟩, rfl⟩⟩
end Go.Proofs.Ytjpniibleelgiaa
