/- Conditions, spelt: one law for simp. -/
import Derived.Test.YtjpniibleelgiaaFwL
set_option linter.unusedSimpArgs false
set_option linter.unusedVariables false
namespace Go.Fw
theorem dbs : (∀ a b : Bool, ((a || b) = true) = (a = true ∨ b = true)) ∧ (∀ a b : Bool, ((a && b) = true) = (a = true ∧ b = true)) ∧ (∀ b : Bool, (¬ b = true) = (b = false))
    ∧ (∀ a b : Bool, ((a || b) = false) = (a = false ∧ b = false)) ∧ (∀ a b : Bool, ((a && b) = false) = (a = false ∨ b = false))
    ∧ (∀ (α : Type) [BEq α] [LawfulBEq α] (a b : α), ((a != b) = true) = (a ≠ b)) ∧ (∀ (α : Type) [BEq α] [LawfulBEq α] (a b : α), ((a == b) = true) = (a = b))
    ∧ (∀ (α : Type) [BEq α] [LawfulBEq α] (a b : α), ((a != b) = false) = (a = b)) ∧ (∀ (α : Type) [BEq α] [LawfulBEq α] (a b : α), ((a == b) = false) = (a ≠ b))
    ∧ (∀ (p : Prop) [Decidable p], (decide p = true) = p) ∧ (∀ (p : Prop) [Decidable p], (decide p = false) = ¬ p)
    ∧ (∀ (α : Type) (a b : α), (a ≠ b) = ¬ a = b) ∧ (∀ b : Bool, ((!b) = true) = (b = false)) ∧ (∀ b : Bool, ((!b) = false) = (b = true)) ∧ ((!true) = false) ∧ ((!false) = true)
    ∧ ((false = true) = False) ∧ ((¬ True) = False) ∧ ((¬ False) = True) :=
  ⟨fun a b => by simp, fun a b => by simp, fun b => by simp, fun a b => by simp, fun a b => by cases a <;> simp, fun _ _ _ a b => by simp, fun _ _ _ a b => by simp, fun _ _ _ a b => by simp, fun _ _ _ a b => by simp,
   fun _ _ => by simp, fun _ _ => by simp, fun _ _ _ => by simp, fun b => by simp, fun b => by simp, rfl, rfl, by simp, by simp, by simp⟩
/-! ### regions that draw their order -/
variable {P : Program} {K : Value → World → Prop} {Z : List PanicEntry → World → Prop}
abbrev isV (x : Value) : Value → World → Prop := fun v _ => v = x
theorem kI {x : Value} : ∀ (v : Value) (w w' : World), isV x v w → Keep [] w w' → isV x v w' := fun _ _ _ h _ => h
theorem sp_skipD {o : Oper} {ops : List Oper} {F1 : Fr} {w1 : World} {R : Prop} {j t : Nat} {b v : Bool} (hg : o.guard = some (j, b)) (hd : (ops[j]?).bind (·.dst) = some t) (e : F1 t = .bool v) (hv : v = !b) (h : R) :
    (Region.wanted o (yieldF ops F1) = true → OpW P o.op o.type F1 w1 K Z) ∧ (Region.wanted o (yieldF ops F1) = false → R) :=
  sp_skip hg (by unfold yieldF; rw [hd]; simp only [e, hv]) h
theorem sp_undefD {o : Oper} {ops : List Oper} {F1 : Fr} {w1 : World} {R : Prop} {j t : Nat} {b : Bool} (hg : o.guard = some (j, b)) (hd : (ops[j]?).bind (·.dst) = some t) (e : F1 t = undef) (h : R) :
    (Region.wanted o (yieldF ops F1) = true → OpW P o.op o.type F1 w1 K Z) ∧ (Region.wanted o (yieldF ops F1) = false → R) :=
  sp_undef hg (by unfold yieldF; rw [hd]; simp only [e, undef]) h
end Go.Fw
