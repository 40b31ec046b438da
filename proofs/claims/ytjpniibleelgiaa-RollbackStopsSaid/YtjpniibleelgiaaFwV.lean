/- Operations that few functions need. -/
import Derived.Test.YtjpniibleelgiaaFwT
set_option linter.unusedSimpArgs false
set_option linter.unusedVariables false
namespace Go.Fw
section
variable {P : Program} {w : World} {F : Fr} {K : Value → World → Prop} {Z : List PanicEntry → World → Prop} {ty : TypeId}
end
open Go.RowKit
section
variable {P : Program} {ty : TypeId} {F : Fr} {w w0 : World} {O0 B : List Nat} {K : Value → World → Prop} {Z : List PanicEntry → World → Prop} {x y : Operand}
/-- A literal whose cells lie in w, and whose elements read in an elder world u. -/
def RdN {α : Type} (E : Enc α) (u : World) (O : List Nat) (w : World) (v : Value) (l : List α) : Prop :=
  ∃ (A : Addr) (c : Nat), v = .slice (some A) l.length c ∧ l.length ≤ c ∧ c ≤ maxLen ∧ ∃ css : List (List Value), css.length = l.length ∧ (∀ (j : Nat) (cs : List Value) (y : α), css[j]? = some cs → l[j]? = some y → E.rd u O cs y) ∧ ∀ (j : Nat) (q : Value), css.flatten[j]? = some q → w.cell? (A.add j) = some q
theorem RdN.keep {α : Type} {E : Enc α} {u : World} {O : List Nat} {w w' : World} {v : Value} {l : List α} (h : RdN E u O w v l) (k : Keep [] w w') : RdN E u O w' v l := by
  obtain ⟨A, c, h1, h2, h3, css, h4, h5, h6⟩ := h
  exact ⟨A, c, h1, h2, h3, css, h4, h5, fun j q hq => cell_old k (h6 j q hq)⟩
end
end Go.Fw
