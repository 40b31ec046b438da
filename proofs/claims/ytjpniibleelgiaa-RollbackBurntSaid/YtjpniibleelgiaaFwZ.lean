/- An assertion between two pieces of code. Program-independent. -/
import Derived.Test.YtjpniibleelgiaaFwK
set_option linter.unusedSimpArgs false
set_option linter.unusedVariables false
namespace Go.Fw
variable {P : Program} {ro : Option Nat} {n : Nat} {Q : Exit → Fr → World → Prop} {F : Fr} {w : World}
theorem cw_cut {x y : Code} (I : Fr → World → Prop) (h1 : CW P (ro := ro) n x (thenQ I Q) F w) (h2 : ∀ F w, I F w → CW P (ro := ro) n y Q F w) : CW P (ro := ro) n (.seq x y) Q F w :=
  cw_seq (wpIn_mono h1 fun e _ _ ⟨F, ha, hQ⟩ => ⟨F, ha, by cases e <;> first | exact h2 _ _ hQ | exact hQ⟩)
end Go.Fw
