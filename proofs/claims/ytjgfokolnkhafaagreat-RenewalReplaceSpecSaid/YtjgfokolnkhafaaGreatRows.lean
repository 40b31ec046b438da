/-
  No cell of these rows narrows 'for every input' (looked for: loops, veiled, ifaces, maps, wideKeys, modest, calm, conditions, laid).
  DERIVED. THE GIVEN ROWS OF THIS SEAT. 2 by the template 'for every input the law returns true; each argument reads behind the call as it read before'; 0 by the template 'total and deterministic' (their statements: YtjgfokolnkhafaaGreatTotals.lean).
  GIVEN WITH THE SEED: the statements are not yours to turn. If you find one false, say at which input.
  Laid BY PROGRAM, IN A SANDBOX (cutbox-rows.mjs): the forced cells as the released guide's own fill.sh prints them over the translation 0ee76a372fe5c482… (all of the seat's roots in one cut). By AI agents, Wed Nov 11 2026. No macro, syntax, notation, axiom, sorry.
-/
import Derived.Test.YtjgfokolnkhafaaGreatChecked
import GoSem.Claim
import GoSem.ClaimJoined
import GoSem.ClaimMapViews
import Derived.JoinedTies
import Derived.KernelRfl
namespace Go.Proofs.YtjgfokolnkhafaaGreat
/- THE CELL 'sum', in the pinned program and in every row, IS THE sha256 OF THE DUMP (.gsa) THAT YtjgfokolnkhafaaGreatProg.lean LOADS. Nothing in Lean hashes anything: it is a label: what it is worth is what the hold of that sum in a sandbox is worth. -/
noncomputable def Tryz.pinned : Pinned := { name := "ytjgfokolnkhafaagreat", sum := "0ee76a372fe5c4825574405bedf2951804fed9dcb76868d139ed71eb78661dca", checked := Tryz.checked }
namespace Rows
def none {H : Type} : Left H := { results := [], args := [] }

/-- 'testamurlaw46.RenewalSpec': WHATEVER THE INPUT: true; the input reads as it did. -/
def renewalSpecSpec : ChangeSpec := { name := "renewalSpec", fn := fun _ => fun
  | [d1, d2, d3, d4] => { results := [.lit (.bool true)], args := [d1, d2, d3, d4] }
  | _ => none }
def renewalSpecRow : OpenClaim := { program := "ytjgfokolnkhafaagreat", sum := "0ee76a372fe5c4825574405bedf2951804fed9dcb76868d139ed71eb78661dca", func := "testamur/testamurlaw46.RenewalSpec", spec := "renewalSpec", inPlace := ["slices.overlaps[int]"], unfollowed := true, recurses := true, apart := false }
def RenewalSpecSaid : Prop := renewalSpecRow.holds Tryz.pinned (OpenSpec.ofChange renewalSpecSpec)

/-- ITS FALSE NEIGHBOUR: 'it returns false'. Refute it at one input. -/
def renewalSpecWrong : ChangeSpec := { name := "renewalSpec", fn := fun _ => fun
  | [d1, d2, d3, d4] => { results := [.lit (.bool false)], args := [d1, d2, d3, d4] }
  | _ => none }
def RenewalSpecWrongFalsely : Prop := renewalSpecRow.holds Tryz.pinned (OpenSpec.ofChange renewalSpecWrong)

/-- 'testamurlaw46.RenewalReplaceSpec': WHATEVER THE INPUT: true; the input reads as it did. -/
def renewalReplaceSpecSpec : ChangeSpec := { name := "renewalReplaceSpec", fn := fun _ => fun
  | [d1, d2, d3, d4, d5, d6] => { results := [.lit (.bool true)], args := [d1, d2, d3, d4, d5, d6] }
  | _ => none }
def renewalReplaceSpecRow : OpenClaim := { program := "ytjgfokolnkhafaagreat", sum := "0ee76a372fe5c4825574405bedf2951804fed9dcb76868d139ed71eb78661dca", func := "testamur/testamurlaw46.RenewalReplaceSpec", spec := "renewalReplaceSpec", inPlace := ["slices.overlaps[int]"], unfollowed := true, recurses := true, apart := false }
def RenewalReplaceSpecSaid : Prop := renewalReplaceSpecRow.holds Tryz.pinned (OpenSpec.ofChange renewalReplaceSpecSpec)

/-- ITS FALSE NEIGHBOUR: 'it returns false'. Refute it at one input. -/
def renewalReplaceSpecWrong : ChangeSpec := { name := "renewalReplaceSpec", fn := fun _ => fun
  | [d1, d2, d3, d4, d5, d6] => { results := [.lit (.bool false)], args := [d1, d2, d3, d4, d5, d6] }
  | _ => none }
def RenewalReplaceSpecWrongFalsely : Prop := renewalReplaceSpecRow.holds Tryz.pinned (OpenSpec.ofChange renewalReplaceSpecWrong)

/- THE SECOND FORM. 'bulk': how many values and letters a reading holds, each counted each time it is reached (what is shared counts as often as it is met; a slice's spare places count too). A statement '..UptoSaid' is the law's where the arguments, and the package variables that the reading takes, are together of bulk at most 1048576: NARROWER than '..Said'. Prove '..Said' where nothing that the law and all that it calls make is longer than what came in: it says more and counts as full. Else prove '..UptoSaid'. A law counts once. -/
mutual
def uptoBulk {H : Type} : DataW H → Nat
  | .lit (.string bytes) => bytes.length + 1
  | .lit _ => 1
  | .nil => 1
  | .ptr d => uptoBulk d + 1
  | .slice elems spare => uptoBulkAll elems + uptoBulkAll spare + 1
  | .agg parts => uptoBulkAll parts + 1
  | .iface _ d => uptoBulk d + 1
  | .map entries => uptoBulkEntries entries + 1
  | .held _ => 1
def uptoBulkAll {H : Type} : List (DataW H) → Nat
  | [] => 0
  | d :: r => uptoBulk d + uptoBulkAll r
def uptoBulkEntries {H : Type} : List (Lit × DataW H) → Nat
  | [] => 0
  | x :: r => uptoBulkEntry x + uptoBulkEntries r
def uptoBulkEntry {H : Type} : Lit × DataW H → Nat
  | (.string bytes, d) => bytes.length + uptoBulk d + 1
  | (_, d) => uptoBulk d + 1
 end
def uptoSmall : (H : Type) → List (DataW H) → Bool := fun _ ds => decide (uptoBulkAll ds ≤ 1048576)
def OpenSpec.upto (s : _root_.Go.ChangeSpec) : _root_.Go.OpenSpec := { _root_.Go.OpenSpec.ofChange s with cond := some uptoSmall }

/-- 'testamurlaw46.RenewalSpec', WHERE WHAT IT READS IS OF BULK AT MOST 1048576: true; the input reads as it did. -/
def renewalSpecUptoRow : OpenClaim := { program := "ytjgfokolnkhafaagreat", sum := "0ee76a372fe5c4825574405bedf2951804fed9dcb76868d139ed71eb78661dca", func := "testamur/testamurlaw46.RenewalSpec", spec := "renewalSpec", inPlace := ["slices.overlaps[int]"], unfollowed := true, recurses := true, apart := false, narrowed := true }
def RenewalSpecUptoSaid : Prop := renewalSpecUptoRow.holds Tryz.pinned (OpenSpec.upto renewalSpecSpec)

/-- 'testamurlaw46.RenewalReplaceSpec', WHERE WHAT IT READS IS OF BULK AT MOST 1048576: true; the input reads as it did. -/
def renewalReplaceSpecUptoRow : OpenClaim := { program := "ytjgfokolnkhafaagreat", sum := "0ee76a372fe5c4825574405bedf2951804fed9dcb76868d139ed71eb78661dca", func := "testamur/testamurlaw46.RenewalReplaceSpec", spec := "renewalReplaceSpec", inPlace := ["slices.overlaps[int]"], unfollowed := true, recurses := true, apart := false, narrowed := true }
def RenewalReplaceSpecUptoSaid : Prop := renewalReplaceSpecUptoRow.holds Tryz.pinned (OpenSpec.upto renewalReplaceSpecSpec)

end Rows
end Go.Proofs.YtjgfokolnkhafaaGreat
