/-
  No cell of these rows narrows 'for every input' (looked for: loops, veiled, ifaces, maps, wideKeys, modest, calm, conditions, laid).
  DERIVED. THE GIVEN ROWS OF THIS SEAT. 6 by the template 'for every input the law returns true; each argument reads behind the call as it read before'; 0 by the template 'total and deterministic' (their statements: YtjgfokolnkhafaaTotals.lean).
  GIVEN WITH THE SEED: the statements are not yours to turn. If you find one false, say at which input.
  Laid BY PROGRAM, IN A SANDBOX (cutbox-rows.mjs): the forced cells as the released guide's own fill.sh prints them over the translation b8dbaf42a264df7c… (all of the seat's roots in one cut). By AI agents, Wed Nov 11 2026. No macro, syntax, notation, axiom, sorry.
-/
import Derived.Test.YtjgfokolnkhafaaChecked
import GoSem.Claim
import GoSem.ClaimJoined
import GoSem.ClaimMapViews
import Derived.JoinedTies
import Derived.KernelRfl
namespace Go.Proofs.Ytjgfokolnkhafaa
/- THE CELL 'sum', in the pinned program and in every row, IS THE sha256 OF THE DUMP (.gsa) THAT YtjgfokolnkhafaaProg.lean LOADS. Nothing in Lean hashes anything: it is a label: what it is worth is what the hold of that sum in a sandbox is worth. -/
noncomputable def Try.pinned : Pinned := { name := "ytjgfokolnkhafaa", sum := "b8dbaf42a264df7c962a18056d8e1c2ca668ee4e687f622397760ad332e43a98", checked := Try.checked }
namespace Rows
def none {H : Type} : Left H := { results := [], args := [] }

/-- 'testamurtop.TopRecovery': WHATEVER THE INPUT: true; the input reads as it did. -/
def topRecoverySpec : ChangeSpec := { name := "topRecovery", fn := fun _ => fun
  | [d1, d2, d3, d4, d5, d6, d7, d8, d9] => { results := [.lit (.bool true)], args := [d1, d2, d3, d4, d5, d6, d7, d8, d9] }
  | _ => none }
def topRecoveryRow : OpenClaim := { program := "ytjgfokolnkhafaa", sum := "b8dbaf42a264df7c962a18056d8e1c2ca668ee4e687f622397760ad332e43a98", func := "testamur/testamurtop.TopRecovery", spec := "topRecovery", inPlace := ["slices.overlaps[int]"], unfollowed := true, recurses := true, apart := false }
def TopRecoverySaid : Prop := topRecoveryRow.holds Try.pinned (OpenSpec.ofChange topRecoverySpec)

/-- ITS FALSE NEIGHBOUR: 'it returns false'. Refute it at one input. -/
def topRecoveryWrong : ChangeSpec := { name := "topRecovery", fn := fun _ => fun
  | [d1, d2, d3, d4, d5, d6, d7, d8, d9] => { results := [.lit (.bool false)], args := [d1, d2, d3, d4, d5, d6, d7, d8, d9] }
  | _ => none }
def TopRecoveryWrongFalsely : Prop := topRecoveryRow.holds Try.pinned (OpenSpec.ofChange topRecoveryWrong)

/-- 'testamurlaw46.RenewalMixedSpec': WHATEVER THE INPUT: true; the input reads as it did. -/
def renewalMixedSpecSpec : ChangeSpec := { name := "renewalMixedSpec", fn := fun _ => fun
  | [d1, d2, d3] => { results := [.lit (.bool true)], args := [d1, d2, d3] }
  | _ => none }
def renewalMixedSpecRow : OpenClaim := { program := "ytjgfokolnkhafaa", sum := "b8dbaf42a264df7c962a18056d8e1c2ca668ee4e687f622397760ad332e43a98", func := "testamur/testamurlaw46.RenewalMixedSpec", spec := "renewalMixedSpec", inPlace := ["slices.overlaps[int]"], unfollowed := true, recurses := true, apart := false }
def RenewalMixedSpecSaid : Prop := renewalMixedSpecRow.holds Try.pinned (OpenSpec.ofChange renewalMixedSpecSpec)

/-- ITS FALSE NEIGHBOUR: 'it returns false'. Refute it at one input. -/
def renewalMixedSpecWrong : ChangeSpec := { name := "renewalMixedSpec", fn := fun _ => fun
  | [d1, d2, d3] => { results := [.lit (.bool false)], args := [d1, d2, d3] }
  | _ => none }
def RenewalMixedSpecWrongFalsely : Prop := renewalMixedSpecRow.holds Try.pinned (OpenSpec.ofChange renewalMixedSpecWrong)

/-- 'testamurlaw46.RenewalHidden': WHATEVER THE INPUT: true; the input reads as it did. -/
def renewalHiddenSpec : ChangeSpec := { name := "renewalHidden", fn := fun _ => fun
  | [d1, d2, d3, d4, d5, d6, d7] => { results := [.lit (.bool true)], args := [d1, d2, d3, d4, d5, d6, d7] }
  | _ => none }
def renewalHiddenRow : OpenClaim := { program := "ytjgfokolnkhafaa", sum := "b8dbaf42a264df7c962a18056d8e1c2ca668ee4e687f622397760ad332e43a98", func := "testamur/testamurlaw46.RenewalHidden", spec := "renewalHidden", inPlace := ["slices.overlaps[int]"], unfollowed := true, recurses := true, apart := false }
def RenewalHiddenSaid : Prop := renewalHiddenRow.holds Try.pinned (OpenSpec.ofChange renewalHiddenSpec)

/-- ITS FALSE NEIGHBOUR: 'it returns false'. Refute it at one input. -/
def renewalHiddenWrong : ChangeSpec := { name := "renewalHidden", fn := fun _ => fun
  | [d1, d2, d3, d4, d5, d6, d7] => { results := [.lit (.bool false)], args := [d1, d2, d3, d4, d5, d6, d7] }
  | _ => none }
def RenewalHiddenWrongFalsely : Prop := renewalHiddenRow.holds Try.pinned (OpenSpec.ofChange renewalHiddenWrong)

/-- 'testamurlaw46.RenewalKept': WHATEVER THE INPUT: true; the input reads as it did. -/
def renewalKeptSpec : ChangeSpec := { name := "renewalKept", fn := fun _ => fun
  | [d1, d2, d3, d4, d5, d6, d7, d8] => { results := [.lit (.bool true)], args := [d1, d2, d3, d4, d5, d6, d7, d8] }
  | _ => none }
def renewalKeptRow : OpenClaim := { program := "ytjgfokolnkhafaa", sum := "b8dbaf42a264df7c962a18056d8e1c2ca668ee4e687f622397760ad332e43a98", func := "testamur/testamurlaw46.RenewalKept", spec := "renewalKept", inPlace := ["slices.overlaps[int]"], unfollowed := true, recurses := true, apart := false }
def RenewalKeptSaid : Prop := renewalKeptRow.holds Try.pinned (OpenSpec.ofChange renewalKeptSpec)

/-- ITS FALSE NEIGHBOUR: 'it returns false'. Refute it at one input. -/
def renewalKeptWrong : ChangeSpec := { name := "renewalKept", fn := fun _ => fun
  | [d1, d2, d3, d4, d5, d6, d7, d8] => { results := [.lit (.bool false)], args := [d1, d2, d3, d4, d5, d6, d7, d8] }
  | _ => none }
def RenewalKeptWrongFalsely : Prop := renewalKeptRow.holds Try.pinned (OpenSpec.ofChange renewalKeptWrong)

/-- 'testamurlaw46.RenewalOld': WHATEVER THE INPUT: true; the input reads as it did. -/
def renewalOldSpec : ChangeSpec := { name := "renewalOld", fn := fun _ => fun
  | [d1, d2, d3, d4, d5, d6, d7, d8, d9] => { results := [.lit (.bool true)], args := [d1, d2, d3, d4, d5, d6, d7, d8, d9] }
  | _ => none }
def renewalOldRow : OpenClaim := { program := "ytjgfokolnkhafaa", sum := "b8dbaf42a264df7c962a18056d8e1c2ca668ee4e687f622397760ad332e43a98", func := "testamur/testamurlaw46.RenewalOld", spec := "renewalOld", inPlace := ["slices.overlaps[int]"], unfollowed := true, recurses := true, apart := false }
def RenewalOldSaid : Prop := renewalOldRow.holds Try.pinned (OpenSpec.ofChange renewalOldSpec)

/-- ITS FALSE NEIGHBOUR: 'it returns false'. Refute it at one input. -/
def renewalOldWrong : ChangeSpec := { name := "renewalOld", fn := fun _ => fun
  | [d1, d2, d3, d4, d5, d6, d7, d8, d9] => { results := [.lit (.bool false)], args := [d1, d2, d3, d4, d5, d6, d7, d8, d9] }
  | _ => none }
def RenewalOldWrongFalsely : Prop := renewalOldRow.holds Try.pinned (OpenSpec.ofChange renewalOldWrong)

/-- 'testamurlaw46.RenewalNeeds': WHATEVER THE INPUT: true; the input reads as it did. -/
def renewalNeedsSpec : ChangeSpec := { name := "renewalNeeds", fn := fun _ => fun
  | [d1, d2, d3] => { results := [.lit (.bool true)], args := [d1, d2, d3] }
  | _ => none }
def renewalNeedsRow : OpenClaim := { program := "ytjgfokolnkhafaa", sum := "b8dbaf42a264df7c962a18056d8e1c2ca668ee4e687f622397760ad332e43a98", func := "testamur/testamurlaw46.RenewalNeeds", spec := "renewalNeeds", inPlace := ["slices.overlaps[int]"], unfollowed := true, recurses := true, apart := false }
def RenewalNeedsSaid : Prop := renewalNeedsRow.holds Try.pinned (OpenSpec.ofChange renewalNeedsSpec)

/-- ITS FALSE NEIGHBOUR: 'it returns false'. Refute it at one input. -/
def renewalNeedsWrong : ChangeSpec := { name := "renewalNeeds", fn := fun _ => fun
  | [d1, d2, d3] => { results := [.lit (.bool false)], args := [d1, d2, d3] }
  | _ => none }
def RenewalNeedsWrongFalsely : Prop := renewalNeedsRow.holds Try.pinned (OpenSpec.ofChange renewalNeedsWrong)

/- THE SECOND FORM. 'bulk': how many values and letters a reading holds, each counted each time it is reached (what is shared counts as often as it is met; a slice's spare places count too). A statement '..UptoSaid' is the law's where the arguments, and the package variables that the reading takes, are together of bulk at most 1048576: NARROWER than '..Said'. Prove '..Said' where nothing that the law and all that it calls make is longer than what came in: it says more and counts as full. Else prove '..UptoSaid'. A law counts once. -/
mutual
def uptoBulk {H : Type} : DataW H → Nat
  | .lit (.string bytes) => bytes.length + 1
  | .lit _ => 1
  | .nil => 1
  | .ptr d => uptoBulk d + 1
  | .slice elems spare => uptoBulkAll elems + uptoBulkAll spare + 1
  | .agg parts => uptoBulkAll parts + 1
  | .iface _ d => uptoBulk d + 1
  | .map entries => uptoBulkEntries entries + 1
  | .held _ => 1
def uptoBulkAll {H : Type} : List (DataW H) → Nat
  | [] => 0
  | d :: r => uptoBulk d + uptoBulkAll r
def uptoBulkEntries {H : Type} : List (Lit × DataW H) → Nat
  | [] => 0
  | x :: r => uptoBulkEntry x + uptoBulkEntries r
def uptoBulkEntry {H : Type} : Lit × DataW H → Nat
  | (.string bytes, d) => bytes.length + uptoBulk d + 1
  | (_, d) => uptoBulk d + 1
 end
def uptoSmall : (H : Type) → List (DataW H) → Bool := fun _ ds => decide (uptoBulkAll ds ≤ 1048576)
def OpenSpec.upto (s : _root_.Go.ChangeSpec) : _root_.Go.OpenSpec := { _root_.Go.OpenSpec.ofChange s with cond := some uptoSmall }

/-- 'testamurtop.TopRecovery', WHERE WHAT IT READS IS OF BULK AT MOST 1048576: true; the input reads as it did. -/
def topRecoveryUptoRow : OpenClaim := { program := "ytjgfokolnkhafaa", sum := "b8dbaf42a264df7c962a18056d8e1c2ca668ee4e687f622397760ad332e43a98", func := "testamur/testamurtop.TopRecovery", spec := "topRecovery", inPlace := ["slices.overlaps[int]"], unfollowed := true, recurses := true, apart := false, narrowed := true }
def TopRecoveryUptoSaid : Prop := topRecoveryUptoRow.holds Try.pinned (OpenSpec.upto topRecoverySpec)

/-- 'testamurlaw46.RenewalMixedSpec', WHERE WHAT IT READS IS OF BULK AT MOST 1048576: true; the input reads as it did. -/
def renewalMixedSpecUptoRow : OpenClaim := { program := "ytjgfokolnkhafaa", sum := "b8dbaf42a264df7c962a18056d8e1c2ca668ee4e687f622397760ad332e43a98", func := "testamur/testamurlaw46.RenewalMixedSpec", spec := "renewalMixedSpec", inPlace := ["slices.overlaps[int]"], unfollowed := true, recurses := true, apart := false, narrowed := true }
def RenewalMixedSpecUptoSaid : Prop := renewalMixedSpecUptoRow.holds Try.pinned (OpenSpec.upto renewalMixedSpecSpec)

/-- 'testamurlaw46.RenewalHidden', WHERE WHAT IT READS IS OF BULK AT MOST 1048576: true; the input reads as it did. -/
def renewalHiddenUptoRow : OpenClaim := { program := "ytjgfokolnkhafaa", sum := "b8dbaf42a264df7c962a18056d8e1c2ca668ee4e687f622397760ad332e43a98", func := "testamur/testamurlaw46.RenewalHidden", spec := "renewalHidden", inPlace := ["slices.overlaps[int]"], unfollowed := true, recurses := true, apart := false, narrowed := true }
def RenewalHiddenUptoSaid : Prop := renewalHiddenUptoRow.holds Try.pinned (OpenSpec.upto renewalHiddenSpec)

/-- 'testamurlaw46.RenewalKept', WHERE WHAT IT READS IS OF BULK AT MOST 1048576: true; the input reads as it did. -/
def renewalKeptUptoRow : OpenClaim := { program := "ytjgfokolnkhafaa", sum := "b8dbaf42a264df7c962a18056d8e1c2ca668ee4e687f622397760ad332e43a98", func := "testamur/testamurlaw46.RenewalKept", spec := "renewalKept", inPlace := ["slices.overlaps[int]"], unfollowed := true, recurses := true, apart := false, narrowed := true }
def RenewalKeptUptoSaid : Prop := renewalKeptUptoRow.holds Try.pinned (OpenSpec.upto renewalKeptSpec)

/-- 'testamurlaw46.RenewalOld', WHERE WHAT IT READS IS OF BULK AT MOST 1048576: true; the input reads as it did. -/
def renewalOldUptoRow : OpenClaim := { program := "ytjgfokolnkhafaa", sum := "b8dbaf42a264df7c962a18056d8e1c2ca668ee4e687f622397760ad332e43a98", func := "testamur/testamurlaw46.RenewalOld", spec := "renewalOld", inPlace := ["slices.overlaps[int]"], unfollowed := true, recurses := true, apart := false, narrowed := true }
def RenewalOldUptoSaid : Prop := renewalOldUptoRow.holds Try.pinned (OpenSpec.upto renewalOldSpec)

/-- 'testamurlaw46.RenewalNeeds', WHERE WHAT IT READS IS OF BULK AT MOST 1048576: true; the input reads as it did. -/
def renewalNeedsUptoRow : OpenClaim := { program := "ytjgfokolnkhafaa", sum := "b8dbaf42a264df7c962a18056d8e1c2ca668ee4e687f622397760ad332e43a98", func := "testamur/testamurlaw46.RenewalNeeds", spec := "renewalNeeds", inPlace := ["slices.overlaps[int]"], unfollowed := true, recurses := true, apart := false, narrowed := true }
def RenewalNeedsUptoSaid : Prop := renewalNeedsUptoRow.holds Try.pinned (OpenSpec.upto renewalNeedsSpec)

end Rows
end Go.Proofs.Ytjgfokolnkhafaa
