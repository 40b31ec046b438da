/- Regions that draw their order, whose last operations may change places where they only take a tuple apart. Program-independent. -/
import Derived.Test.YtjpniibleelgiaaFwV
set_option linter.unusedSimpArgs false
set_option linter.unusedVariables false
namespace Go.Fw
open Go.RowKit

section
variable {P : Program} {n : Nat} {Q : Exit → Fr → World → Prop}
/-- What an operation yields that only looks at its frame. -/
def pureVal (op : Op) (F : Fr) : Option Value :=
  match op with
  | .extract x i => (match evF F x with | .tuple vs => vs[i]? | _ => none)
  | .move x => some (evF F x)
  | .assign x => some (evF F x)
  | _ => none
/-- It only looks at its frame, and not at d. -/
def pureOp (op : Op) (d : Tmp) : Bool :=
  match op with
  | .extract (.tmp s) _ => !Nat.beq s d
  | .move (.tmp s) => !Nat.beq s d
  | .assign (.tmp s) => !Nat.beq s d
  | .assign (.const _) => true
  | _ => false
theorem opw_pure {op : Op} {d : Tmp} {ty : TypeId} {F : Fr} {w : World} {K : Value → World → Prop} {Z : List PanicEntry → World → Prop} (hp : pureOp op d = true) (h : OpW P op ty F w K Z) : ∃ v, pureVal op F = some v ∧ K v w := by
  unfold pureOp at hp
  split at hp
  · rename_i s i
    unfold OpW at h
    have e : evF F (.tmp s) = F s := rfl
    simp only [execOp, e] at h
    unfold pureVal
    simp only [e]
    cases hF : F s with
    | tuple vs =>
      rw [hF] at h
      cases hv : vs[i]? with
      | some v => refine ⟨v, hv, ?_⟩; simpa [Instr.extract, hv, uponF] using h
      | none => exfalso; simp [Instr.extract, hv, uponF] at h
    | _ => exfalso; rw [hF] at h; simp [Instr.extract, uponF] at h
  · unfold OpW at h; simp only [execOp] at h; exact ⟨_, rfl, by simpa [uponF] using h⟩
  · unfold OpW at h; simp only [execOp] at h; exact ⟨_, rfl, by simpa [uponF] using h⟩
  · unfold OpW at h; simp only [execOp] at h; exact ⟨_, rfl, by simpa [uponF] using h⟩
  · cases hp
theorem opw_of_pure {op : Op} {v : Value} {ty : TypeId} {F : Fr} {w : World} {K : Value → World → Prop} {Z : List PanicEntry → World → Prop} (hv : pureVal op F = some v) (h : K v w) : OpW P op ty F w K Z := by
  unfold pureVal at hv
  split at hv
  · split at hv
    · rename_i vs e; exact o_extract (vs := vs) v e hv h
    · cases hv
  · exact o_move v (Option.some.inj hv) h
  · exact o_assign v (Option.some.inj hv) h
  · cases hv
/-- Two operations that only look at their frames, and do not touch each other. -/
def exOk (ops : List Oper) (a b : Nat) : Bool :=
  match ops[a]?, ops[b]? with
  | some oa, some ob => oa.guard.isNone && ob.guard.isNone && (match oa.dst, ob.dst with
    | some da, some db => !Nat.beq da db && pureOp oa.op db && pureOp ob.op da
    | _, _ => false)
  | _, _ => false
theorem nbeq {a b : Nat} (h : (!Nat.beq a b) = true) : a ≠ b := fun e => by subst e; simp at h
theorem beq_ne {a b : Nat} (h : a ≠ b) : Nat.beq a b = false := by
  cases e : Nat.beq a b with
  | false => rfl
  | true => exact absurd (Nat.eq_of_beq_eq_true e) h
theorem upd_other {F : Fr} {d t : Nat} {v : Value} (h : t ≠ d) : upd F d v t = F t := by
  unfold upd; rw [beq_ne h]; rfl
theorem upd_swap {F : Fr} {a b : Nat} {v u : Value} (h : a ≠ b) : upd (upd F a v) b u = upd (upd F b u) a v := by
  funext t
  unfold upd
  cases e1 : Nat.beq t a with
  | false => cases e2 : Nat.beq t b <;> rfl
  | true =>
    have h1 := Nat.eq_of_beq_eq_true e1
    subst h1
    rw [beq_ne h]; rfl
theorem pureVal_upd {op : Op} {d : Tmp} {F : Fr} {u : Value} (hp : pureOp op d = true) : pureVal op (upd F d u) = pureVal op F := by
  unfold pureOp at hp
  unfold pureVal
  have e : ∀ s : Tmp, (!Nat.beq s d) = true → evF (upd F d u) (.tmp s) = evF F (.tmp s) := fun s hs => upd_other (nbeq hs)
  split at hp
  · simp only [e _ hp]
  · simp only [e _ hp]
  · simp only [e _ hp]
  · rfl
  · cases hp
/-- Behind the first part: one order, up to neighbours that take tuples apart. -/
def forcedC (ops : List Oper) : Nat → List Nat → Bool
  | _, [] => true
  | 0, _ => false
  | _ + 1, [a] => (aft ops a).all fun j => !Nat.beq j a
  | f + 1, a :: b :: t => (aft ops a).all (fun j => !(a :: b :: t).contains j) && t.all (fun x => waitsB ops x a) && forcedC ops f (b :: t) &&
      (waitsB ops b a || (exOk ops a b && (aft ops b).all (fun j => !(a :: b :: t).contains j) && forcedC ops f (a :: t)))
theorem run_step {ops : List Oper} (hok : ops.all (okO n ops) = true) {i fuel : Nat} {listed : Array Bool} {F1 : Fr} {w1 : World} {rest : List Oper} (hil : i < ops.length) (h : WL false P ops Q (ops[i] :: rest) F1 w1)
    (ih : ∀ F w, WL false P ops Q rest F w → wpAny P .any ops.toArray (lift n Q) fuel (listed.setIfInBounds i true) (mk n F) w) : wpOp P ops.toArray (lift n Q) i (wpAny P .any ops.toArray (lift n Q) fuel (listed.setIfInBounds i true)) (mk n F1) w1 := by
  have ho : ops[i]? = some ops[i] := List.getElem?_eq_getElem hil
  refine wpOp_F (K := fun F w => WL false P ops Q rest F w) hok ho ih (fun hw => ?_) (fun hw => ?_)
  · unfold WL at h; rw [if_pos hw] at h; exact h.resolve_right (fun e => by cases e.1)
  · unfold WL at h; rw [if_neg (by rw [hw]; simp)] at h; exact h
theorem seqOps_cons {ops : List Oper} {i : Nat} {t : List Nat} (hil : i < ops.length) : seqOps ops (i :: t) = ops[i] :: seqOps ops t := by
  unfold seqOps; rw [List.filterMap_cons, List.getElem?_eq_getElem hil]
def drawOkC (ops : List Oper) (m : Nat) : Bool :=
  (List.range m).all (fun i => (List.range m).all fun j => Nat.beq i j || (match (ops[i]?).bind (·.dst), (ops[j]?).bind (·.dst) with | some a, some b => !Nat.beq a b | _, _ => true)) &&
  ((List.range ops.length).drop m).all (fun k => (List.range m).all fun j => waitsB ops k j) &&
  (List.range ops.length).all (fun k => (aft ops k).all fun j => Nat.blt j k) && Nat.ble m ops.length && forcedC ops ops.length ((List.range ops.length).drop m)
end
end Go.Fw
