/- What reads as data of a structure, opened. -/
import Derived.Test.YtpdekmknnpkmgaaRoA
import Derived.Test.YtpdekmknnpkmgaaSd
import Derived.ProofKit
set_option linter.unusedSimpArgs false
set_option linter.unusedVariables false
namespace Go.Proofs.Ytpdekmknnpkmgaa
open Go.RowKit Go.Fw

theorem opens_Enc_recovery : Opens Try.prog 47 Enc.recovery := ⟨by kernel_rfl, fun {H enc w fuel cs x} h => by
  obtain ⟨xs, n, rfl, rfl, hl, hx, hf⟩ := DataW.trod_struct Try.underlying47 h
  have hl : cs.length = 5 := hl.trans (by kernel_rfl)
  have hx : xs.length = 5 := hx
  match cs, hl with
  | [c0, c1, c2, c3, c4], _ =>
    obtain ⟨y0, h0⟩ := open_at (opens_int Try.underlying3 (by kernel_rfl)) (hf 0 _ rfl) (by omega)
    obtain ⟨y1, h1⟩ := open_at (opens_int Try.underlying3 (by kernel_rfl)) (hf 1 _ rfl) (by omega)
    obtain ⟨y2, h2⟩ := open_at (opens_int Try.underlying3 (by kernel_rfl)) (hf 2 _ rfl) (by omega)
    obtain ⟨y3, h3⟩ := open_at (opens_slice Try.underlying22 (by kernel_rfl) (by decide) (opens_int Try.underlying3 (by kernel_rfl))) (hf 3 _ rfl) (by omega)
    obtain ⟨y4, h4⟩ := open_at (opens_slice Try.underlying22 (by kernel_rfl) (by decide) (opens_int Try.underlying3 (by kernel_rfl))) (hf 4 _ rfl) (by omega)
    have h0 : [c0] = [vI y0] := h0
    cases h0
    have h1 : [c1] = [vI y1] := h1
    cases h1
    have h2 : [c2] = [vI y2] := h2
    cases h2
    obtain ⟨v3, e3, r3⟩ := h3
    have e3 : [c3] = [v3] := e3
    cases e3
    obtain ⟨v4, e4, r4⟩ := h4
    have e4 : [c4] = [v4] := e4
    cases e4
    exact ⟨⟨y0, y1, y2, y3, y4⟩, ⟨_, _, rfl, r3, r4⟩⟩⟩
theorem opens_Enc_circle : Opens Try.prog 25 Enc.circle := ⟨by kernel_rfl, fun {H enc w fuel cs x} h => by
  obtain ⟨xs, n, rfl, rfl, hl, hx, hf⟩ := DataW.trod_struct Try.underlying25 h
  have hl : cs.length = 5 := hl.trans (by kernel_rfl)
  have hx : xs.length = 5 := hx
  match cs, hl with
  | [c0, c1, c2, c3, c4], _ =>
    obtain ⟨y0, h0⟩ := open_at (opens_int Try.underlying3 (by kernel_rfl)) (hf 0 _ rfl) (by omega)
    obtain ⟨y1, h1⟩ := open_at (opens_int Try.underlying3 (by kernel_rfl)) (hf 1 _ rfl) (by omega)
    obtain ⟨y2, h2⟩ := open_at (opens_int Try.underlying3 (by kernel_rfl)) (hf 2 _ rfl) (by omega)
    obtain ⟨y3, h3⟩ := open_at (opens_slice Try.underlying22 (by kernel_rfl) (by decide) (opens_int Try.underlying3 (by kernel_rfl))) (hf 3 _ rfl) (by omega)
    obtain ⟨y4, h4⟩ := open_at (opens_slice Try.underlying23 (by kernel_rfl) (by decide) opens_Enc_recovery) (hf 4 _ rfl) (by omega)
    have h0 : [c0] = [vI y0] := h0
    cases h0
    have h1 : [c1] = [vI y1] := h1
    cases h1
    have h2 : [c2] = [vI y2] := h2
    cases h2
    obtain ⟨v3, e3, r3⟩ := h3
    have e3 : [c3] = [v3] := e3
    cases e3
    obtain ⟨v4, e4, r4⟩ := h4
    have e4 : [c4] = [v4] := e4
    cases e4
    exact ⟨⟨y0, y1, y2, y3, y4⟩, ⟨_, _, rfl, r3, r4⟩⟩⟩

end Go.Proofs.Ytpdekmknnpkmgaa
