/- Shares in a wrong order are refused. No program in sight. -/
import Derived.Test.YteajcgfcnbdmgaaMaX
set_option linter.unusedSimpArgs false
set_option linter.unusedVariables false
namespace Go.Proofs.Yteajcgfcnbdmgaa
open Go.Fw

theorem bad_order {l : List Share} {i j : Nat} (hij : i < j) (hj : j < l.length) (h : l[j]!.index ≤ l[i]!.index) : joinM l = ([], 80) := by
  have hg : ¬ Good l := fun hg => by have := hg.mono j i hij hj; omega
  have hc : checkM l = 80 := by
    have ha : alikeM l = false := by
      cases h : alikeM l with
      | false => rfl
      | true => exact absurd ((alike_iff l).1 h) hg
    unfold checkM; rw [ha]; rfl
  exact joinM_bad (by rw [hc]; decide) hc
theorem get_appS {α : Type} [Inhabited α] {l m : List α} {i : Nat} (h : i < l.length) : (l ++ m)[i]! = l[i]! := by
  rw [getElem!_pos _ i (by rw [List.length_append]; omega), getElem!_pos _ i h, List.getElem_append_left h]
theorem get_lastS {α : Type} [Inhabited α] {l : List α} {x : α} : (l ++ [x])[l.length]! = x := by
  rw [getElem!_pos _ _ (by simp)]; simp
theorem join_twice {l : List Share} (h : 0 < l.length) : joinM (l ++ [l[l.length - 1]!]) = ([], 80) := by
  refine bad_order (i := l.length - 1) (j := l.length) (by omega) (by simp) ?_
  have h1 : (l ++ [l[l.length - 1]!])[l.length]! = l[l.length - 1]! := get_lastS
  rw [h1, get_appS (by omega)]
  exact Int.le_refl _
theorem Spl.swapped {secret : List UInt8} {ep t m : Int} {l : List Share} (h : Spl secret ep t m l) (mask : UInt8) (hx : 2 ≤ (someM l mask l.length).length) : joinM [(someM l mask l.length)[1]!, (someM l mask l.length)[0]!] = ([], 80) := by
  obtain ⟨P, h1, _⟩ := h.ex
  have h2 := (h1.some mask).inc 0 1 (by omega) (by omega)
  refine bad_order (i := 0) (j := 1) (by omega) (by simp) ?_
  have e1 : ∀ a b : Share, [a, b][1]! = b := fun _ _ => rfl
  have e0 : ∀ a b : Share, [a, b][0]! = a := fun _ _ => rfl
  rw [e1, e0]; exact Int.le_of_lt h2
end Go.Proofs.Yteajcgfcnbdmgaa
