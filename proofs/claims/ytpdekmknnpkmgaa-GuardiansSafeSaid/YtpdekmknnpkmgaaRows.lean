/-
  No cell of these rows narrows 'for every input' (looked for: loops, veiled, ifaces, maps, wideKeys, modest, calm, conditions, laid).
  DERIVED. THE GIVEN ROWS OF THIS SEAT. 6 by the template 'for every input the law returns true; each argument reads behind the call as it read before'; 0 by the template 'total and deterministic' (their statements: YtpdekmknnpkmgaaTotals.lean).
  GIVEN WITH THE SEED: the statements are not yours to turn. If you find one false, say at which input.
  Laid BY PROGRAM, IN A SANDBOX (cutbox-rows.mjs): the forced cells as the released guide's own fill.sh prints them over the translation 29d0bb0dd00ac1a9… (all of the seat's roots in one cut). By AI agents, Wed Nov 11 2026. No macro, syntax, notation, axiom, sorry.
-/
import Derived.Test.YtpdekmknnpkmgaaChecked
import GoSem.Claim
import GoSem.ClaimJoined
import GoSem.ClaimMapViews
import Derived.JoinedTies
import Derived.KernelRfl
namespace Go.Proofs.Ytpdekmknnpkmgaa
/- THE CELL 'sum', in the pinned program and in every row, IS THE sha256 OF THE DUMP (.gsa) THAT YtpdekmknnpkmgaaProg.lean LOADS. Nothing in Lean hashes anything: it is a label: what it is worth is what the hold of that sum in a sandbox is worth. -/
noncomputable def Try.pinned : Pinned := { name := "ytpdekmknnpkmgaa", sum := "29d0bb0dd00ac1a962476ae60994e36bbff4d23f6a531d45e48deb53971f744e", checked := Try.checked }
namespace Rows
def none {H : Type} : Left H := { results := [], args := [] }

/-- 'testamurlaw45.GuardiansSpec': WHATEVER THE INPUT: true; the input reads as it did. -/
def guardiansSpecSpec : ChangeSpec := { name := "guardiansSpec", fn := fun _ => fun
  | [d1, d2, d3, d4, d5] => { results := [.lit (.bool true)], args := [d1, d2, d3, d4, d5] }
  | _ => none }
def guardiansSpecRow : OpenClaim := { program := "ytpdekmknnpkmgaa", sum := "29d0bb0dd00ac1a962476ae60994e36bbff4d23f6a531d45e48deb53971f744e", func := "testamur/testamurlaw45.GuardiansSpec", spec := "guardiansSpec", inPlace := ["slices.overlaps[int]"], unfollowed := true, recurses := true, apart := false }
def GuardiansSpecSaid : Prop := guardiansSpecRow.holds Try.pinned (OpenSpec.ofChange guardiansSpecSpec)

/-- ITS FALSE NEIGHBOUR: 'it returns false'. Refute it at one input. -/
def guardiansSpecWrong : ChangeSpec := { name := "guardiansSpec", fn := fun _ => fun
  | [d1, d2, d3, d4, d5] => { results := [.lit (.bool false)], args := [d1, d2, d3, d4, d5] }
  | _ => none }
def GuardiansSpecWrongFalsely : Prop := guardiansSpecRow.holds Try.pinned (OpenSpec.ofChange guardiansSpecWrong)

/-- 'testamurlaw45.GuardiansActSpec': WHATEVER THE INPUT: true; the input reads as it did. -/
def guardiansActSpecSpec : ChangeSpec := { name := "guardiansActSpec", fn := fun _ => fun
  | [d1, d2, d3, d4] => { results := [.lit (.bool true)], args := [d1, d2, d3, d4] }
  | _ => none }
def guardiansActSpecRow : OpenClaim := { program := "ytpdekmknnpkmgaa", sum := "29d0bb0dd00ac1a962476ae60994e36bbff4d23f6a531d45e48deb53971f744e", func := "testamur/testamurlaw45.GuardiansActSpec", spec := "guardiansActSpec", inPlace := ["slices.overlaps[int]"], unfollowed := true, recurses := true, apart := false }
def GuardiansActSpecSaid : Prop := guardiansActSpecRow.holds Try.pinned (OpenSpec.ofChange guardiansActSpecSpec)

/-- ITS FALSE NEIGHBOUR: 'it returns false'. Refute it at one input. -/
def guardiansActSpecWrong : ChangeSpec := { name := "guardiansActSpec", fn := fun _ => fun
  | [d1, d2, d3, d4] => { results := [.lit (.bool false)], args := [d1, d2, d3, d4] }
  | _ => none }
def GuardiansActSpecWrongFalsely : Prop := guardiansActSpecRow.holds Try.pinned (OpenSpec.ofChange guardiansActSpecWrong)

/-- 'testamurlaw45.GuardiansSafe': WHATEVER THE INPUT: true; the input reads as it did. -/
def guardiansSafeSpec : ChangeSpec := { name := "guardiansSafe", fn := fun _ => fun
  | [d1, d2, d3, d4] => { results := [.lit (.bool true)], args := [d1, d2, d3, d4] }
  | _ => none }
def guardiansSafeRow : OpenClaim := { program := "ytpdekmknnpkmgaa", sum := "29d0bb0dd00ac1a962476ae60994e36bbff4d23f6a531d45e48deb53971f744e", func := "testamur/testamurlaw45.GuardiansSafe", spec := "guardiansSafe", inPlace := ["slices.overlaps[int]"], unfollowed := true, recurses := true, apart := false }
def GuardiansSafeSaid : Prop := guardiansSafeRow.holds Try.pinned (OpenSpec.ofChange guardiansSafeSpec)

/-- ITS FALSE NEIGHBOUR: 'it returns false'. Refute it at one input. -/
def guardiansSafeWrong : ChangeSpec := { name := "guardiansSafe", fn := fun _ => fun
  | [d1, d2, d3, d4] => { results := [.lit (.bool false)], args := [d1, d2, d3, d4] }
  | _ => none }
def GuardiansSafeWrongFalsely : Prop := guardiansSafeRow.holds Try.pinned (OpenSpec.ofChange guardiansSafeWrong)

/-- 'testamurlaw45.GuardiansOrder': WHATEVER THE INPUT: true; the input reads as it did. -/
def guardiansOrderSpec : ChangeSpec := { name := "guardiansOrder", fn := fun _ => fun
  | [d1, d2, d3, d4] => { results := [.lit (.bool true)], args := [d1, d2, d3, d4] }
  | _ => none }
def guardiansOrderRow : OpenClaim := { program := "ytpdekmknnpkmgaa", sum := "29d0bb0dd00ac1a962476ae60994e36bbff4d23f6a531d45e48deb53971f744e", func := "testamur/testamurlaw45.GuardiansOrder", spec := "guardiansOrder", inPlace := ["slices.overlaps[int]"], unfollowed := true, recurses := true, apart := false }
def GuardiansOrderSaid : Prop := guardiansOrderRow.holds Try.pinned (OpenSpec.ofChange guardiansOrderSpec)

/-- ITS FALSE NEIGHBOUR: 'it returns false'. Refute it at one input. -/
def guardiansOrderWrong : ChangeSpec := { name := "guardiansOrder", fn := fun _ => fun
  | [d1, d2, d3, d4] => { results := [.lit (.bool false)], args := [d1, d2, d3, d4] }
  | _ => none }
def GuardiansOrderWrongFalsely : Prop := guardiansOrderRow.holds Try.pinned (OpenSpec.ofChange guardiansOrderWrong)

/-- 'testamurlaw45.GuardiansVeto': WHATEVER THE INPUT: true; the input reads as it did. -/
def guardiansVetoSpec : ChangeSpec := { name := "guardiansVeto", fn := fun _ => fun
  | [d1, d2, d3, d4, d5] => { results := [.lit (.bool true)], args := [d1, d2, d3, d4, d5] }
  | _ => none }
def guardiansVetoRow : OpenClaim := { program := "ytpdekmknnpkmgaa", sum := "29d0bb0dd00ac1a962476ae60994e36bbff4d23f6a531d45e48deb53971f744e", func := "testamur/testamurlaw45.GuardiansVeto", spec := "guardiansVeto", inPlace := ["slices.overlaps[int]"], unfollowed := true, recurses := true, apart := false }
def GuardiansVetoSaid : Prop := guardiansVetoRow.holds Try.pinned (OpenSpec.ofChange guardiansVetoSpec)

/-- ITS FALSE NEIGHBOUR: 'it returns false'. Refute it at one input. -/
def guardiansVetoWrong : ChangeSpec := { name := "guardiansVeto", fn := fun _ => fun
  | [d1, d2, d3, d4, d5] => { results := [.lit (.bool false)], args := [d1, d2, d3, d4, d5] }
  | _ => none }
def GuardiansVetoWrongFalsely : Prop := guardiansVetoRow.holds Try.pinned (OpenSpec.ofChange guardiansVetoWrong)

/-- 'testamurlaw45.GuardiansWait': WHATEVER THE INPUT: true; the input reads as it did. -/
def guardiansWaitSpec : ChangeSpec := { name := "guardiansWait", fn := fun _ => fun
  | [d1, d2, d3, d4, d5] => { results := [.lit (.bool true)], args := [d1, d2, d3, d4, d5] }
  | _ => none }
def guardiansWaitRow : OpenClaim := { program := "ytpdekmknnpkmgaa", sum := "29d0bb0dd00ac1a962476ae60994e36bbff4d23f6a531d45e48deb53971f744e", func := "testamur/testamurlaw45.GuardiansWait", spec := "guardiansWait", inPlace := ["slices.overlaps[int]"], unfollowed := true, recurses := true, apart := false }
def GuardiansWaitSaid : Prop := guardiansWaitRow.holds Try.pinned (OpenSpec.ofChange guardiansWaitSpec)

/-- ITS FALSE NEIGHBOUR: 'it returns false'. Refute it at one input. -/
def guardiansWaitWrong : ChangeSpec := { name := "guardiansWait", fn := fun _ => fun
  | [d1, d2, d3, d4, d5] => { results := [.lit (.bool false)], args := [d1, d2, d3, d4, d5] }
  | _ => none }
def GuardiansWaitWrongFalsely : Prop := guardiansWaitRow.holds Try.pinned (OpenSpec.ofChange guardiansWaitWrong)

/- THE SECOND FORM. 'bulk': how many values and letters a reading holds, each counted each time it is reached (what is shared counts as often as it is met; a slice's spare places count too). A statement '..UptoSaid' is the law's where the arguments, and the package variables that the reading takes, are together of bulk at most 1048576: NARROWER than '..Said'. Prove '..Said' where nothing that the law and all that it calls make is longer than what came in: it says more and counts as full. Else prove '..UptoSaid'. A law counts once. -/
mutual
def uptoBulk {H : Type} : DataW H → Nat
  | .lit (.string bytes) => bytes.length + 1
  | .lit _ => 1
  | .nil => 1
  | .ptr d => uptoBulk d + 1
  | .slice elems spare => uptoBulkAll elems + uptoBulkAll spare + 1
  | .agg parts => uptoBulkAll parts + 1
  | .iface _ d => uptoBulk d + 1
  | .map entries => uptoBulkEntries entries + 1
  | .held _ => 1
def uptoBulkAll {H : Type} : List (DataW H) → Nat
  | [] => 0
  | d :: r => uptoBulk d + uptoBulkAll r
def uptoBulkEntries {H : Type} : List (Lit × DataW H) → Nat
  | [] => 0
  | x :: r => uptoBulkEntry x + uptoBulkEntries r
def uptoBulkEntry {H : Type} : Lit × DataW H → Nat
  | (.string bytes, d) => bytes.length + uptoBulk d + 1
  | (_, d) => uptoBulk d + 1
 end
def uptoSmall : (H : Type) → List (DataW H) → Bool := fun _ ds => decide (uptoBulkAll ds ≤ 1048576)
def OpenSpec.upto (s : _root_.Go.ChangeSpec) : _root_.Go.OpenSpec := { _root_.Go.OpenSpec.ofChange s with cond := some uptoSmall }

/-- 'testamurlaw45.GuardiansSpec', WHERE WHAT IT READS IS OF BULK AT MOST 1048576: true; the input reads as it did. -/
def guardiansSpecUptoRow : OpenClaim := { program := "ytpdekmknnpkmgaa", sum := "29d0bb0dd00ac1a962476ae60994e36bbff4d23f6a531d45e48deb53971f744e", func := "testamur/testamurlaw45.GuardiansSpec", spec := "guardiansSpec", inPlace := ["slices.overlaps[int]"], unfollowed := true, recurses := true, apart := false, narrowed := true }
def GuardiansSpecUptoSaid : Prop := guardiansSpecUptoRow.holds Try.pinned (OpenSpec.upto guardiansSpecSpec)

/-- 'testamurlaw45.GuardiansActSpec', WHERE WHAT IT READS IS OF BULK AT MOST 1048576: true; the input reads as it did. -/
def guardiansActSpecUptoRow : OpenClaim := { program := "ytpdekmknnpkmgaa", sum := "29d0bb0dd00ac1a962476ae60994e36bbff4d23f6a531d45e48deb53971f744e", func := "testamur/testamurlaw45.GuardiansActSpec", spec := "guardiansActSpec", inPlace := ["slices.overlaps[int]"], unfollowed := true, recurses := true, apart := false, narrowed := true }
def GuardiansActSpecUptoSaid : Prop := guardiansActSpecUptoRow.holds Try.pinned (OpenSpec.upto guardiansActSpecSpec)

/-- 'testamurlaw45.GuardiansSafe', WHERE WHAT IT READS IS OF BULK AT MOST 1048576: true; the input reads as it did. -/
def guardiansSafeUptoRow : OpenClaim := { program := "ytpdekmknnpkmgaa", sum := "29d0bb0dd00ac1a962476ae60994e36bbff4d23f6a531d45e48deb53971f744e", func := "testamur/testamurlaw45.GuardiansSafe", spec := "guardiansSafe", inPlace := ["slices.overlaps[int]"], unfollowed := true, recurses := true, apart := false, narrowed := true }
def GuardiansSafeUptoSaid : Prop := guardiansSafeUptoRow.holds Try.pinned (OpenSpec.upto guardiansSafeSpec)

/-- 'testamurlaw45.GuardiansOrder', WHERE WHAT IT READS IS OF BULK AT MOST 1048576: true; the input reads as it did. -/
def guardiansOrderUptoRow : OpenClaim := { program := "ytpdekmknnpkmgaa", sum := "29d0bb0dd00ac1a962476ae60994e36bbff4d23f6a531d45e48deb53971f744e", func := "testamur/testamurlaw45.GuardiansOrder", spec := "guardiansOrder", inPlace := ["slices.overlaps[int]"], unfollowed := true, recurses := true, apart := false, narrowed := true }
def GuardiansOrderUptoSaid : Prop := guardiansOrderUptoRow.holds Try.pinned (OpenSpec.upto guardiansOrderSpec)

/-- 'testamurlaw45.GuardiansVeto', WHERE WHAT IT READS IS OF BULK AT MOST 1048576: true; the input reads as it did. -/
def guardiansVetoUptoRow : OpenClaim := { program := "ytpdekmknnpkmgaa", sum := "29d0bb0dd00ac1a962476ae60994e36bbff4d23f6a531d45e48deb53971f744e", func := "testamur/testamurlaw45.GuardiansVeto", spec := "guardiansVeto", inPlace := ["slices.overlaps[int]"], unfollowed := true, recurses := true, apart := false, narrowed := true }
def GuardiansVetoUptoSaid : Prop := guardiansVetoUptoRow.holds Try.pinned (OpenSpec.upto guardiansVetoSpec)

/-- 'testamurlaw45.GuardiansWait', WHERE WHAT IT READS IS OF BULK AT MOST 1048576: true; the input reads as it did. -/
def guardiansWaitUptoRow : OpenClaim := { program := "ytpdekmknnpkmgaa", sum := "29d0bb0dd00ac1a962476ae60994e36bbff4d23f6a531d45e48deb53971f744e", func := "testamur/testamurlaw45.GuardiansWait", spec := "guardiansWait", inPlace := ["slices.overlaps[int]"], unfollowed := true, recurses := true, apart := false, narrowed := true }
def GuardiansWaitUptoSaid : Prop := guardiansWaitUptoRow.holds Try.pinned (OpenSpec.upto guardiansWaitSpec)

end Rows
end Go.Proofs.Ytpdekmknnpkmgaa
