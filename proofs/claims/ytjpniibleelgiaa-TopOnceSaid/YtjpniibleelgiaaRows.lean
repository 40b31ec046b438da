/-
  No cell of these rows narrows 'for every input' (looked for: loops, veiled, ifaces, maps, wideKeys, modest, calm, conditions, laid).
  DERIVED. THE GIVEN ROWS OF THIS SEAT. 16 by the template 'for every input the law returns true; each argument reads behind the call as it read before'; 0 by the template 'total and deterministic' (their statements: YtjpniibleelgiaaTotals.lean).
  GIVEN WITH THE SEED: the statements are not yours to turn. If you find one false, say at which input.
  Laid BY PROGRAM, IN A SANDBOX (cutbox-rows.mjs): the forced cells as the released guide's own fill.sh prints them over the translation 26795c5eeaf77529… (all of the seat's roots in one cut). By AI agents, Wed Nov 11 2026. No macro, syntax, notation, axiom, sorry.
-/
import Derived.Test.YtjpniibleelgiaaChecked
import GoSem.Claim
import GoSem.ClaimJoined
import GoSem.ClaimMapViews
import Derived.JoinedTies
import Derived.KernelRfl
namespace Go.Proofs.Ytjpniibleelgiaa
/- THE CELL 'sum', in the pinned program and in every row, IS THE sha256 OF THE DUMP (.gsa) THAT YtjpniibleelgiaaProg.lean LOADS. Nothing in Lean hashes anything: it is a label: what it is worth is what the hold of that sum in a sandbox is worth. -/
noncomputable def Try.pinned : Pinned := { name := "ytjpniibleelgiaa", sum := "26795c5eeaf77529af9706ae71e67ad59d16d6524d90da7b20d0afee297640e2", checked := Try.checked }
namespace Rows
def none {H : Type} : Left H := { results := [], args := [] }

/-- 'testamurtop.TopOnce': WHATEVER THE INPUT: true; the input reads as it did. -/
def topOnceSpec : ChangeSpec := { name := "topOnce", fn := fun _ => fun
  | [d1, d2] => { results := [.lit (.bool true)], args := [d1, d2] }
  | _ => none }
def topOnceRow : OpenClaim := { program := "ytjpniibleelgiaa", sum := "26795c5eeaf77529af9706ae71e67ad59d16d6524d90da7b20d0afee297640e2", func := "testamur/testamurtop.TopOnce", spec := "topOnce", inPlace := ["slices.overlaps[testamur/api.DeviceOp]"], unfollowed := true, recurses := true, plainKeys := false, apart := false }
def TopOnceSaid : Prop := topOnceRow.holds Try.pinned (OpenSpec.ofChange topOnceSpec)

/-- ITS FALSE NEIGHBOUR: 'it returns false'. Refute it at one input. -/
def topOnceWrong : ChangeSpec := { name := "topOnce", fn := fun _ => fun
  | [d1, d2] => { results := [.lit (.bool false)], args := [d1, d2] }
  | _ => none }
def TopOnceWrongFalsely : Prop := topOnceRow.holds Try.pinned (OpenSpec.ofChange topOnceWrong)

/-- 'testamurlaw42.DevicesAddSpec': WHATEVER THE INPUT: true; the input reads as it did. -/
def devicesAddSpecSpec : ChangeSpec := { name := "devicesAddSpec", fn := fun _ => fun
  | [d1, d2] => { results := [.lit (.bool true)], args := [d1, d2] }
  | _ => none }
def devicesAddSpecRow : OpenClaim := { program := "ytjpniibleelgiaa", sum := "26795c5eeaf77529af9706ae71e67ad59d16d6524d90da7b20d0afee297640e2", func := "testamur/testamurlaw42.DevicesAddSpec", spec := "devicesAddSpec", inPlace := ["slices.overlaps[testamur/api.DeviceOp]"], unfollowed := true, recurses := true, plainKeys := false, apart := false }
def DevicesAddSpecSaid : Prop := devicesAddSpecRow.holds Try.pinned (OpenSpec.ofChange devicesAddSpecSpec)

/-- ITS FALSE NEIGHBOUR: 'it returns false'. Refute it at one input. -/
def devicesAddSpecWrong : ChangeSpec := { name := "devicesAddSpec", fn := fun _ => fun
  | [d1, d2] => { results := [.lit (.bool false)], args := [d1, d2] }
  | _ => none }
def DevicesAddSpecWrongFalsely : Prop := devicesAddSpecRow.holds Try.pinned (OpenSpec.ofChange devicesAddSpecWrong)

/-- 'testamurlaw42.DevicesMergeSpec': WHATEVER THE INPUT: true; the input reads as it did. -/
def devicesMergeSpecSpec : ChangeSpec := { name := "devicesMergeSpec", fn := fun _ => fun
  | [d1, d2] => { results := [.lit (.bool true)], args := [d1, d2] }
  | _ => none }
def devicesMergeSpecRow : OpenClaim := { program := "ytjpniibleelgiaa", sum := "26795c5eeaf77529af9706ae71e67ad59d16d6524d90da7b20d0afee297640e2", func := "testamur/testamurlaw42.DevicesMergeSpec", spec := "devicesMergeSpec", inPlace := ["slices.overlaps[testamur/api.DeviceOp]"], unfollowed := true, recurses := true, plainKeys := false, apart := false }
def DevicesMergeSpecSaid : Prop := devicesMergeSpecRow.holds Try.pinned (OpenSpec.ofChange devicesMergeSpecSpec)

/-- ITS FALSE NEIGHBOUR: 'it returns false'. Refute it at one input. -/
def devicesMergeSpecWrong : ChangeSpec := { name := "devicesMergeSpec", fn := fun _ => fun
  | [d1, d2] => { results := [.lit (.bool false)], args := [d1, d2] }
  | _ => none }
def DevicesMergeSpecWrongFalsely : Prop := devicesMergeSpecRow.holds Try.pinned (OpenSpec.ofChange devicesMergeSpecWrong)

/-- 'testamurlaw42.DevicesStateSpec': WHATEVER THE INPUT: true; the input reads as it did. -/
def devicesStateSpecSpec : ChangeSpec := { name := "devicesStateSpec", fn := fun _ => fun
  | [d1, d2, d3, d4, d5] => { results := [.lit (.bool true)], args := [d1, d2, d3, d4, d5] }
  | _ => none }
def devicesStateSpecRow : OpenClaim := { program := "ytjpniibleelgiaa", sum := "26795c5eeaf77529af9706ae71e67ad59d16d6524d90da7b20d0afee297640e2", func := "testamur/testamurlaw42.DevicesStateSpec", spec := "devicesStateSpec", inPlace := ["slices.overlaps[testamur/api.DeviceOp]"], unfollowed := true, recurses := true, plainKeys := false, apart := false }
def DevicesStateSpecSaid : Prop := devicesStateSpecRow.holds Try.pinned (OpenSpec.ofChange devicesStateSpecSpec)

/-- ITS FALSE NEIGHBOUR: 'it returns false'. Refute it at one input. -/
def devicesStateSpecWrong : ChangeSpec := { name := "devicesStateSpec", fn := fun _ => fun
  | [d1, d2, d3, d4, d5] => { results := [.lit (.bool false)], args := [d1, d2, d3, d4, d5] }
  | _ => none }
def DevicesStateSpecWrongFalsely : Prop := devicesStateSpecRow.holds Try.pinned (OpenSpec.ofChange devicesStateSpecWrong)

/-- 'testamurlaw42.DevicesMerge': WHATEVER THE INPUT: true; the input reads as it did. -/
def devicesMergeSpec : ChangeSpec := { name := "devicesMerge", fn := fun _ => fun
  | [d1, d2, d3, d4, d5] => { results := [.lit (.bool true)], args := [d1, d2, d3, d4, d5] }
  | _ => none }
def devicesMergeRow : OpenClaim := { program := "ytjpniibleelgiaa", sum := "26795c5eeaf77529af9706ae71e67ad59d16d6524d90da7b20d0afee297640e2", func := "testamur/testamurlaw42.DevicesMerge", spec := "devicesMerge", inPlace := ["slices.overlaps[testamur/api.DeviceOp]"], unfollowed := true, recurses := true, plainKeys := false, apart := false }
def DevicesMergeSaid : Prop := devicesMergeRow.holds Try.pinned (OpenSpec.ofChange devicesMergeSpec)

/-- ITS FALSE NEIGHBOUR: 'it returns false'. Refute it at one input. -/
def devicesMergeWrong : ChangeSpec := { name := "devicesMerge", fn := fun _ => fun
  | [d1, d2, d3, d4, d5] => { results := [.lit (.bool false)], args := [d1, d2, d3, d4, d5] }
  | _ => none }
def DevicesMergeWrongFalsely : Prop := devicesMergeRow.holds Try.pinned (OpenSpec.ofChange devicesMergeWrong)

/-- 'testamurlaw42.DevicesOnce': WHATEVER THE INPUT: true; the input reads as it did. -/
def devicesOnceSpec : ChangeSpec := { name := "devicesOnce", fn := fun _ => fun
  | [d1, d2, d3] => { results := [.lit (.bool true)], args := [d1, d2, d3] }
  | _ => none }
def devicesOnceRow : OpenClaim := { program := "ytjpniibleelgiaa", sum := "26795c5eeaf77529af9706ae71e67ad59d16d6524d90da7b20d0afee297640e2", func := "testamur/testamurlaw42.DevicesOnce", spec := "devicesOnce", inPlace := ["slices.overlaps[testamur/api.DeviceOp]"], unfollowed := true, recurses := true, plainKeys := false, apart := false }
def DevicesOnceSaid : Prop := devicesOnceRow.holds Try.pinned (OpenSpec.ofChange devicesOnceSpec)

/-- ITS FALSE NEIGHBOUR: 'it returns false'. Refute it at one input. -/
def devicesOnceWrong : ChangeSpec := { name := "devicesOnce", fn := fun _ => fun
  | [d1, d2, d3] => { results := [.lit (.bool false)], args := [d1, d2, d3] }
  | _ => none }
def DevicesOnceWrongFalsely : Prop := devicesOnceRow.holds Try.pinned (OpenSpec.ofChange devicesOnceWrong)

/-- 'testamurlaw42.DevicesNext': WHATEVER THE INPUT: true; the input reads as it did. -/
def devicesNextSpec : ChangeSpec := { name := "devicesNext", fn := fun _ => fun
  | [d1, d2, d3, d4] => { results := [.lit (.bool true)], args := [d1, d2, d3, d4] }
  | _ => none }
def devicesNextRow : OpenClaim := { program := "ytjpniibleelgiaa", sum := "26795c5eeaf77529af9706ae71e67ad59d16d6524d90da7b20d0afee297640e2", func := "testamur/testamurlaw42.DevicesNext", spec := "devicesNext", inPlace := ["slices.overlaps[testamur/api.DeviceOp]"], unfollowed := true, recurses := true, plainKeys := false, apart := false }
def DevicesNextSaid : Prop := devicesNextRow.holds Try.pinned (OpenSpec.ofChange devicesNextSpec)

/-- ITS FALSE NEIGHBOUR: 'it returns false'. Refute it at one input. -/
def devicesNextWrong : ChangeSpec := { name := "devicesNext", fn := fun _ => fun
  | [d1, d2, d3, d4] => { results := [.lit (.bool false)], args := [d1, d2, d3, d4] }
  | _ => none }
def DevicesNextWrongFalsely : Prop := devicesNextRow.holds Try.pinned (OpenSpec.ofChange devicesNextWrong)

/-- 'testamurlaw42.DevicesStale': WHATEVER THE INPUT: true; the input reads as it did. -/
def devicesStaleSpec : ChangeSpec := { name := "devicesStale", fn := fun _ => fun
  | [d1, d2, d3, d4] => { results := [.lit (.bool true)], args := [d1, d2, d3, d4] }
  | _ => none }
def devicesStaleRow : OpenClaim := { program := "ytjpniibleelgiaa", sum := "26795c5eeaf77529af9706ae71e67ad59d16d6524d90da7b20d0afee297640e2", func := "testamur/testamurlaw42.DevicesStale", spec := "devicesStale", inPlace := ["slices.overlaps[testamur/api.DeviceOp]"], unfollowed := true, recurses := true, plainKeys := false, apart := false }
def DevicesStaleSaid : Prop := devicesStaleRow.holds Try.pinned (OpenSpec.ofChange devicesStaleSpec)

/-- ITS FALSE NEIGHBOUR: 'it returns false'. Refute it at one input. -/
def devicesStaleWrong : ChangeSpec := { name := "devicesStale", fn := fun _ => fun
  | [d1, d2, d3, d4] => { results := [.lit (.bool false)], args := [d1, d2, d3, d4] }
  | _ => none }
def DevicesStaleWrongFalsely : Prop := devicesStaleRow.holds Try.pinned (OpenSpec.ofChange devicesStaleWrong)

/-- 'testamurlaw42.DevicesAdds': WHATEVER THE INPUT: true; the input reads as it did. -/
def devicesAddsSpec : ChangeSpec := { name := "devicesAdds", fn := fun _ => fun
  | [d1, d2, d3] => { results := [.lit (.bool true)], args := [d1, d2, d3] }
  | _ => none }
def devicesAddsRow : OpenClaim := { program := "ytjpniibleelgiaa", sum := "26795c5eeaf77529af9706ae71e67ad59d16d6524d90da7b20d0afee297640e2", func := "testamur/testamurlaw42.DevicesAdds", spec := "devicesAdds", inPlace := ["slices.overlaps[testamur/api.DeviceOp]"], unfollowed := true, recurses := true, plainKeys := false, apart := false }
def DevicesAddsSaid : Prop := devicesAddsRow.holds Try.pinned (OpenSpec.ofChange devicesAddsSpec)

/-- ITS FALSE NEIGHBOUR: 'it returns false'. Refute it at one input. -/
def devicesAddsWrong : ChangeSpec := { name := "devicesAdds", fn := fun _ => fun
  | [d1, d2, d3] => { results := [.lit (.bool false)], args := [d1, d2, d3] }
  | _ => none }
def DevicesAddsWrongFalsely : Prop := devicesAddsRow.holds Try.pinned (OpenSpec.ofChange devicesAddsWrong)

/-- 'testamurlaw43.RollbackActSpec': WHATEVER THE INPUT: true; the input reads as it did. -/
def rollbackActSpecSpec : ChangeSpec := { name := "rollbackActSpec", fn := fun _ => fun
  | [d1, d2, d3] => { results := [.lit (.bool true)], args := [d1, d2, d3] }
  | _ => none }
def rollbackActSpecRow : OpenClaim := { program := "ytjpniibleelgiaa", sum := "26795c5eeaf77529af9706ae71e67ad59d16d6524d90da7b20d0afee297640e2", func := "testamur/testamurlaw43.RollbackActSpec", spec := "rollbackActSpec", inPlace := ["slices.overlaps[testamur/api.DeviceOp]"], unfollowed := true, recurses := true, plainKeys := false, apart := false }
def RollbackActSpecSaid : Prop := rollbackActSpecRow.holds Try.pinned (OpenSpec.ofChange rollbackActSpecSpec)

/-- ITS FALSE NEIGHBOUR: 'it returns false'. Refute it at one input. -/
def rollbackActSpecWrong : ChangeSpec := { name := "rollbackActSpec", fn := fun _ => fun
  | [d1, d2, d3] => { results := [.lit (.bool false)], args := [d1, d2, d3] }
  | _ => none }
def RollbackActSpecWrongFalsely : Prop := rollbackActSpecRow.holds Try.pinned (OpenSpec.ofChange rollbackActSpecWrong)

/-- 'testamurlaw43.RollbackStartSpec': WHATEVER THE INPUT: true; the input reads as it did. -/
def rollbackStartSpecSpec : ChangeSpec := { name := "rollbackStartSpec", fn := fun _ => fun
  | [d1, d2, d3, d4, d5] => { results := [.lit (.bool true)], args := [d1, d2, d3, d4, d5] }
  | _ => none }
def rollbackStartSpecRow : OpenClaim := { program := "ytjpniibleelgiaa", sum := "26795c5eeaf77529af9706ae71e67ad59d16d6524d90da7b20d0afee297640e2", func := "testamur/testamurlaw43.RollbackStartSpec", spec := "rollbackStartSpec", inPlace := ["slices.overlaps[testamur/api.DeviceOp]"], unfollowed := true, recurses := true, plainKeys := false, apart := false }
def RollbackStartSpecSaid : Prop := rollbackStartSpecRow.holds Try.pinned (OpenSpec.ofChange rollbackStartSpecSpec)

/-- ITS FALSE NEIGHBOUR: 'it returns false'. Refute it at one input. -/
def rollbackStartSpecWrong : ChangeSpec := { name := "rollbackStartSpec", fn := fun _ => fun
  | [d1, d2, d3, d4, d5] => { results := [.lit (.bool false)], args := [d1, d2, d3, d4, d5] }
  | _ => none }
def RollbackStartSpecWrongFalsely : Prop := rollbackStartSpecRow.holds Try.pinned (OpenSpec.ofChange rollbackStartSpecWrong)

/-- 'testamurlaw43.RollbackOnce': WHATEVER THE INPUT: true; the input reads as it did. -/
def rollbackOnceSpec : ChangeSpec := { name := "rollbackOnce", fn := fun _ => fun
  | [d1, d2] => { results := [.lit (.bool true)], args := [d1, d2] }
  | _ => none }
def rollbackOnceRow : OpenClaim := { program := "ytjpniibleelgiaa", sum := "26795c5eeaf77529af9706ae71e67ad59d16d6524d90da7b20d0afee297640e2", func := "testamur/testamurlaw43.RollbackOnce", spec := "rollbackOnce", inPlace := ["slices.overlaps[testamur/api.DeviceOp]"], unfollowed := true, recurses := true, plainKeys := false, apart := false }
def RollbackOnceSaid : Prop := rollbackOnceRow.holds Try.pinned (OpenSpec.ofChange rollbackOnceSpec)

/-- ITS FALSE NEIGHBOUR: 'it returns false'. Refute it at one input. -/
def rollbackOnceWrong : ChangeSpec := { name := "rollbackOnce", fn := fun _ => fun
  | [d1, d2] => { results := [.lit (.bool false)], args := [d1, d2] }
  | _ => none }
def RollbackOnceWrongFalsely : Prop := rollbackOnceRow.holds Try.pinned (OpenSpec.ofChange rollbackOnceWrong)

/-- 'testamurlaw43.RollbackStops': WHATEVER THE INPUT: true; the input reads as it did. -/
def rollbackStopsSpec : ChangeSpec := { name := "rollbackStops", fn := fun _ => fun
  | [d1, d2, d3, d4, d5] => { results := [.lit (.bool true)], args := [d1, d2, d3, d4, d5] }
  | _ => none }
def rollbackStopsRow : OpenClaim := { program := "ytjpniibleelgiaa", sum := "26795c5eeaf77529af9706ae71e67ad59d16d6524d90da7b20d0afee297640e2", func := "testamur/testamurlaw43.RollbackStops", spec := "rollbackStops", inPlace := ["slices.overlaps[testamur/api.DeviceOp]"], unfollowed := true, recurses := true, plainKeys := false, apart := false }
def RollbackStopsSaid : Prop := rollbackStopsRow.holds Try.pinned (OpenSpec.ofChange rollbackStopsSpec)

/-- ITS FALSE NEIGHBOUR: 'it returns false'. Refute it at one input. -/
def rollbackStopsWrong : ChangeSpec := { name := "rollbackStops", fn := fun _ => fun
  | [d1, d2, d3, d4, d5] => { results := [.lit (.bool false)], args := [d1, d2, d3, d4, d5] }
  | _ => none }
def RollbackStopsWrongFalsely : Prop := rollbackStopsRow.holds Try.pinned (OpenSpec.ofChange rollbackStopsWrong)

/-- 'testamurlaw43.RollbackHalted': WHATEVER THE INPUT: true; the input reads as it did. -/
def rollbackHaltedSpec : ChangeSpec := { name := "rollbackHalted", fn := fun _ => fun
  | [d1, d2, d3, d4] => { results := [.lit (.bool true)], args := [d1, d2, d3, d4] }
  | _ => none }
def rollbackHaltedRow : OpenClaim := { program := "ytjpniibleelgiaa", sum := "26795c5eeaf77529af9706ae71e67ad59d16d6524d90da7b20d0afee297640e2", func := "testamur/testamurlaw43.RollbackHalted", spec := "rollbackHalted", inPlace := ["slices.overlaps[testamur/api.DeviceOp]"], unfollowed := true, recurses := true, plainKeys := false, apart := false }
def RollbackHaltedSaid : Prop := rollbackHaltedRow.holds Try.pinned (OpenSpec.ofChange rollbackHaltedSpec)

/-- ITS FALSE NEIGHBOUR: 'it returns false'. Refute it at one input. -/
def rollbackHaltedWrong : ChangeSpec := { name := "rollbackHalted", fn := fun _ => fun
  | [d1, d2, d3, d4] => { results := [.lit (.bool false)], args := [d1, d2, d3, d4] }
  | _ => none }
def RollbackHaltedWrongFalsely : Prop := rollbackHaltedRow.holds Try.pinned (OpenSpec.ofChange rollbackHaltedWrong)

/-- 'testamurlaw43.RollbackOthers': WHATEVER THE INPUT: true; the input reads as it did. -/
def rollbackOthersSpec : ChangeSpec := { name := "rollbackOthers", fn := fun _ => fun
  | [d1, d2] => { results := [.lit (.bool true)], args := [d1, d2] }
  | _ => none }
def rollbackOthersRow : OpenClaim := { program := "ytjpniibleelgiaa", sum := "26795c5eeaf77529af9706ae71e67ad59d16d6524d90da7b20d0afee297640e2", func := "testamur/testamurlaw43.RollbackOthers", spec := "rollbackOthers", inPlace := ["slices.overlaps[testamur/api.DeviceOp]"], unfollowed := true, recurses := true, plainKeys := false, apart := false }
def RollbackOthersSaid : Prop := rollbackOthersRow.holds Try.pinned (OpenSpec.ofChange rollbackOthersSpec)

/-- ITS FALSE NEIGHBOUR: 'it returns false'. Refute it at one input. -/
def rollbackOthersWrong : ChangeSpec := { name := "rollbackOthers", fn := fun _ => fun
  | [d1, d2] => { results := [.lit (.bool false)], args := [d1, d2] }
  | _ => none }
def RollbackOthersWrongFalsely : Prop := rollbackOthersRow.holds Try.pinned (OpenSpec.ofChange rollbackOthersWrong)

/-- 'testamurlaw43.RollbackBurnt': WHATEVER THE INPUT: true; the input reads as it did. -/
def rollbackBurntSpec : ChangeSpec := { name := "rollbackBurnt", fn := fun _ => fun
  | [d1, d2, d3, d4, d5] => { results := [.lit (.bool true)], args := [d1, d2, d3, d4, d5] }
  | _ => none }
def rollbackBurntRow : OpenClaim := { program := "ytjpniibleelgiaa", sum := "26795c5eeaf77529af9706ae71e67ad59d16d6524d90da7b20d0afee297640e2", func := "testamur/testamurlaw43.RollbackBurnt", spec := "rollbackBurnt", inPlace := ["slices.overlaps[testamur/api.DeviceOp]"], unfollowed := true, recurses := true, plainKeys := false, apart := false }
def RollbackBurntSaid : Prop := rollbackBurntRow.holds Try.pinned (OpenSpec.ofChange rollbackBurntSpec)

/-- ITS FALSE NEIGHBOUR: 'it returns false'. Refute it at one input. -/
def rollbackBurntWrong : ChangeSpec := { name := "rollbackBurnt", fn := fun _ => fun
  | [d1, d2, d3, d4, d5] => { results := [.lit (.bool false)], args := [d1, d2, d3, d4, d5] }
  | _ => none }
def RollbackBurntWrongFalsely : Prop := rollbackBurntRow.holds Try.pinned (OpenSpec.ofChange rollbackBurntWrong)

/- THE SECOND FORM. 'bulk': how many values and letters a reading holds, each counted each time it is reached (what is shared counts as often as it is met; a slice's spare places count too). A statement '..UptoSaid' is the law's where the arguments, and the package variables that the reading takes, are together of bulk at most 1048576: NARROWER than '..Said'. Prove '..Said' where nothing that the law and all that it calls make is longer than what came in: it says more and counts as full. Else prove '..UptoSaid'. A law counts once. -/
mutual
def uptoBulk {H : Type} : DataW H → Nat
  | .lit (.string bytes) => bytes.length + 1
  | .lit _ => 1
  | .nil => 1
  | .ptr d => uptoBulk d + 1
  | .slice elems spare => uptoBulkAll elems + uptoBulkAll spare + 1
  | .agg parts => uptoBulkAll parts + 1
  | .iface _ d => uptoBulk d + 1
  | .map entries => uptoBulkEntries entries + 1
  | .held _ => 1
def uptoBulkAll {H : Type} : List (DataW H) → Nat
  | [] => 0
  | d :: r => uptoBulk d + uptoBulkAll r
def uptoBulkEntries {H : Type} : List (Lit × DataW H) → Nat
  | [] => 0
  | x :: r => uptoBulkEntry x + uptoBulkEntries r
def uptoBulkEntry {H : Type} : Lit × DataW H → Nat
  | (.string bytes, d) => bytes.length + uptoBulk d + 1
  | (_, d) => uptoBulk d + 1
 end
def uptoSmall : (H : Type) → List (DataW H) → Bool := fun _ ds => decide (uptoBulkAll ds ≤ 1048576)
def OpenSpec.upto (s : _root_.Go.ChangeSpec) : _root_.Go.OpenSpec := { _root_.Go.OpenSpec.ofChange s with cond := some uptoSmall }

/-- 'testamurtop.TopOnce', WHERE WHAT IT READS IS OF BULK AT MOST 1048576: true; the input reads as it did. -/
def topOnceUptoRow : OpenClaim := { program := "ytjpniibleelgiaa", sum := "26795c5eeaf77529af9706ae71e67ad59d16d6524d90da7b20d0afee297640e2", func := "testamur/testamurtop.TopOnce", spec := "topOnce", inPlace := ["slices.overlaps[testamur/api.DeviceOp]"], unfollowed := true, recurses := true, plainKeys := false, apart := false, narrowed := true }
def TopOnceUptoSaid : Prop := topOnceUptoRow.holds Try.pinned (OpenSpec.upto topOnceSpec)

/-- 'testamurlaw42.DevicesAddSpec', WHERE WHAT IT READS IS OF BULK AT MOST 1048576: true; the input reads as it did. -/
def devicesAddSpecUptoRow : OpenClaim := { program := "ytjpniibleelgiaa", sum := "26795c5eeaf77529af9706ae71e67ad59d16d6524d90da7b20d0afee297640e2", func := "testamur/testamurlaw42.DevicesAddSpec", spec := "devicesAddSpec", inPlace := ["slices.overlaps[testamur/api.DeviceOp]"], unfollowed := true, recurses := true, plainKeys := false, apart := false, narrowed := true }
def DevicesAddSpecUptoSaid : Prop := devicesAddSpecUptoRow.holds Try.pinned (OpenSpec.upto devicesAddSpecSpec)

/-- 'testamurlaw42.DevicesMergeSpec', WHERE WHAT IT READS IS OF BULK AT MOST 1048576: true; the input reads as it did. -/
def devicesMergeSpecUptoRow : OpenClaim := { program := "ytjpniibleelgiaa", sum := "26795c5eeaf77529af9706ae71e67ad59d16d6524d90da7b20d0afee297640e2", func := "testamur/testamurlaw42.DevicesMergeSpec", spec := "devicesMergeSpec", inPlace := ["slices.overlaps[testamur/api.DeviceOp]"], unfollowed := true, recurses := true, plainKeys := false, apart := false, narrowed := true }
def DevicesMergeSpecUptoSaid : Prop := devicesMergeSpecUptoRow.holds Try.pinned (OpenSpec.upto devicesMergeSpecSpec)

/-- 'testamurlaw42.DevicesStateSpec', WHERE WHAT IT READS IS OF BULK AT MOST 1048576: true; the input reads as it did. -/
def devicesStateSpecUptoRow : OpenClaim := { program := "ytjpniibleelgiaa", sum := "26795c5eeaf77529af9706ae71e67ad59d16d6524d90da7b20d0afee297640e2", func := "testamur/testamurlaw42.DevicesStateSpec", spec := "devicesStateSpec", inPlace := ["slices.overlaps[testamur/api.DeviceOp]"], unfollowed := true, recurses := true, plainKeys := false, apart := false, narrowed := true }
def DevicesStateSpecUptoSaid : Prop := devicesStateSpecUptoRow.holds Try.pinned (OpenSpec.upto devicesStateSpecSpec)

/-- 'testamurlaw42.DevicesMerge', WHERE WHAT IT READS IS OF BULK AT MOST 1048576: true; the input reads as it did. -/
def devicesMergeUptoRow : OpenClaim := { program := "ytjpniibleelgiaa", sum := "26795c5eeaf77529af9706ae71e67ad59d16d6524d90da7b20d0afee297640e2", func := "testamur/testamurlaw42.DevicesMerge", spec := "devicesMerge", inPlace := ["slices.overlaps[testamur/api.DeviceOp]"], unfollowed := true, recurses := true, plainKeys := false, apart := false, narrowed := true }
def DevicesMergeUptoSaid : Prop := devicesMergeUptoRow.holds Try.pinned (OpenSpec.upto devicesMergeSpec)

/-- 'testamurlaw42.DevicesOnce', WHERE WHAT IT READS IS OF BULK AT MOST 1048576: true; the input reads as it did. -/
def devicesOnceUptoRow : OpenClaim := { program := "ytjpniibleelgiaa", sum := "26795c5eeaf77529af9706ae71e67ad59d16d6524d90da7b20d0afee297640e2", func := "testamur/testamurlaw42.DevicesOnce", spec := "devicesOnce", inPlace := ["slices.overlaps[testamur/api.DeviceOp]"], unfollowed := true, recurses := true, plainKeys := false, apart := false, narrowed := true }
def DevicesOnceUptoSaid : Prop := devicesOnceUptoRow.holds Try.pinned (OpenSpec.upto devicesOnceSpec)

/-- 'testamurlaw42.DevicesNext', WHERE WHAT IT READS IS OF BULK AT MOST 1048576: true; the input reads as it did. -/
def devicesNextUptoRow : OpenClaim := { program := "ytjpniibleelgiaa", sum := "26795c5eeaf77529af9706ae71e67ad59d16d6524d90da7b20d0afee297640e2", func := "testamur/testamurlaw42.DevicesNext", spec := "devicesNext", inPlace := ["slices.overlaps[testamur/api.DeviceOp]"], unfollowed := true, recurses := true, plainKeys := false, apart := false, narrowed := true }
def DevicesNextUptoSaid : Prop := devicesNextUptoRow.holds Try.pinned (OpenSpec.upto devicesNextSpec)

/-- 'testamurlaw42.DevicesStale', WHERE WHAT IT READS IS OF BULK AT MOST 1048576: true; the input reads as it did. -/
def devicesStaleUptoRow : OpenClaim := { program := "ytjpniibleelgiaa", sum := "26795c5eeaf77529af9706ae71e67ad59d16d6524d90da7b20d0afee297640e2", func := "testamur/testamurlaw42.DevicesStale", spec := "devicesStale", inPlace := ["slices.overlaps[testamur/api.DeviceOp]"], unfollowed := true, recurses := true, plainKeys := false, apart := false, narrowed := true }
def DevicesStaleUptoSaid : Prop := devicesStaleUptoRow.holds Try.pinned (OpenSpec.upto devicesStaleSpec)

/-- 'testamurlaw42.DevicesAdds', WHERE WHAT IT READS IS OF BULK AT MOST 1048576: true; the input reads as it did. -/
def devicesAddsUptoRow : OpenClaim := { program := "ytjpniibleelgiaa", sum := "26795c5eeaf77529af9706ae71e67ad59d16d6524d90da7b20d0afee297640e2", func := "testamur/testamurlaw42.DevicesAdds", spec := "devicesAdds", inPlace := ["slices.overlaps[testamur/api.DeviceOp]"], unfollowed := true, recurses := true, plainKeys := false, apart := false, narrowed := true }
def DevicesAddsUptoSaid : Prop := devicesAddsUptoRow.holds Try.pinned (OpenSpec.upto devicesAddsSpec)

/-- 'testamurlaw43.RollbackActSpec', WHERE WHAT IT READS IS OF BULK AT MOST 1048576: true; the input reads as it did. -/
def rollbackActSpecUptoRow : OpenClaim := { program := "ytjpniibleelgiaa", sum := "26795c5eeaf77529af9706ae71e67ad59d16d6524d90da7b20d0afee297640e2", func := "testamur/testamurlaw43.RollbackActSpec", spec := "rollbackActSpec", inPlace := ["slices.overlaps[testamur/api.DeviceOp]"], unfollowed := true, recurses := true, plainKeys := false, apart := false, narrowed := true }
def RollbackActSpecUptoSaid : Prop := rollbackActSpecUptoRow.holds Try.pinned (OpenSpec.upto rollbackActSpecSpec)

/-- 'testamurlaw43.RollbackStartSpec', WHERE WHAT IT READS IS OF BULK AT MOST 1048576: true; the input reads as it did. -/
def rollbackStartSpecUptoRow : OpenClaim := { program := "ytjpniibleelgiaa", sum := "26795c5eeaf77529af9706ae71e67ad59d16d6524d90da7b20d0afee297640e2", func := "testamur/testamurlaw43.RollbackStartSpec", spec := "rollbackStartSpec", inPlace := ["slices.overlaps[testamur/api.DeviceOp]"], unfollowed := true, recurses := true, plainKeys := false, apart := false, narrowed := true }
def RollbackStartSpecUptoSaid : Prop := rollbackStartSpecUptoRow.holds Try.pinned (OpenSpec.upto rollbackStartSpecSpec)

/-- 'testamurlaw43.RollbackOnce', WHERE WHAT IT READS IS OF BULK AT MOST 1048576: true; the input reads as it did. -/
def rollbackOnceUptoRow : OpenClaim := { program := "ytjpniibleelgiaa", sum := "26795c5eeaf77529af9706ae71e67ad59d16d6524d90da7b20d0afee297640e2", func := "testamur/testamurlaw43.RollbackOnce", spec := "rollbackOnce", inPlace := ["slices.overlaps[testamur/api.DeviceOp]"], unfollowed := true, recurses := true, plainKeys := false, apart := false, narrowed := true }
def RollbackOnceUptoSaid : Prop := rollbackOnceUptoRow.holds Try.pinned (OpenSpec.upto rollbackOnceSpec)

/-- 'testamurlaw43.RollbackStops', WHERE WHAT IT READS IS OF BULK AT MOST 1048576: true; the input reads as it did. -/
def rollbackStopsUptoRow : OpenClaim := { program := "ytjpniibleelgiaa", sum := "26795c5eeaf77529af9706ae71e67ad59d16d6524d90da7b20d0afee297640e2", func := "testamur/testamurlaw43.RollbackStops", spec := "rollbackStops", inPlace := ["slices.overlaps[testamur/api.DeviceOp]"], unfollowed := true, recurses := true, plainKeys := false, apart := false, narrowed := true }
def RollbackStopsUptoSaid : Prop := rollbackStopsUptoRow.holds Try.pinned (OpenSpec.upto rollbackStopsSpec)

/-- 'testamurlaw43.RollbackHalted', WHERE WHAT IT READS IS OF BULK AT MOST 1048576: true; the input reads as it did. -/
def rollbackHaltedUptoRow : OpenClaim := { program := "ytjpniibleelgiaa", sum := "26795c5eeaf77529af9706ae71e67ad59d16d6524d90da7b20d0afee297640e2", func := "testamur/testamurlaw43.RollbackHalted", spec := "rollbackHalted", inPlace := ["slices.overlaps[testamur/api.DeviceOp]"], unfollowed := true, recurses := true, plainKeys := false, apart := false, narrowed := true }
def RollbackHaltedUptoSaid : Prop := rollbackHaltedUptoRow.holds Try.pinned (OpenSpec.upto rollbackHaltedSpec)

/-- 'testamurlaw43.RollbackOthers', WHERE WHAT IT READS IS OF BULK AT MOST 1048576: true; the input reads as it did. -/
def rollbackOthersUptoRow : OpenClaim := { program := "ytjpniibleelgiaa", sum := "26795c5eeaf77529af9706ae71e67ad59d16d6524d90da7b20d0afee297640e2", func := "testamur/testamurlaw43.RollbackOthers", spec := "rollbackOthers", inPlace := ["slices.overlaps[testamur/api.DeviceOp]"], unfollowed := true, recurses := true, plainKeys := false, apart := false, narrowed := true }
def RollbackOthersUptoSaid : Prop := rollbackOthersUptoRow.holds Try.pinned (OpenSpec.upto rollbackOthersSpec)

/-- 'testamurlaw43.RollbackBurnt', WHERE WHAT IT READS IS OF BULK AT MOST 1048576: true; the input reads as it did. -/
def rollbackBurntUptoRow : OpenClaim := { program := "ytjpniibleelgiaa", sum := "26795c5eeaf77529af9706ae71e67ad59d16d6524d90da7b20d0afee297640e2", func := "testamur/testamurlaw43.RollbackBurnt", spec := "rollbackBurnt", inPlace := ["slices.overlaps[testamur/api.DeviceOp]"], unfollowed := true, recurses := true, plainKeys := false, apart := false, narrowed := true }
def RollbackBurntUptoSaid : Prop := rollbackBurntUptoRow.holds Try.pinned (OpenSpec.upto rollbackBurntSpec)

end Rows
end Go.Proofs.Ytjpniibleelgiaa
