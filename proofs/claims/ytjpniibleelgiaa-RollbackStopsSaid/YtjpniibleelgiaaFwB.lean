/- One lemma an operation: the operations that look at no memory, and calls. Program-independent. -/
import Derived.Test.YtjpniibleelgiaaFwA
set_option linter.unusedSimpArgs false
set_option linter.unusedVariables false
namespace Go.Fw
open Go.RowKit

abbrev vI (n : Int) : Value := .int .i64 n
abbrev vB (b : UInt8) : Value := .int .u8 (b.toNat : Int)

section
variable {r : Bool} {P : Program} {ops rest : List Oper} {Q : Exit → Fr → World → Prop} {F : Fr} {w : World}

/-! ### the list -/
theorem wl_nil (h : Q .normal F w) : WL r P ops Q [] F w := h
theorem wl_s {d : Tmp} {op : Op} {ty : TypeId} {pos : String} {af : Array Edge}
    (h : OpW P op ty F w (fun v w' => WL r P ops Q rest (upd F d v) w') (fun c w' => Q (.panic c) F w')) : WL r P ops Q (⟨some d, op, ty, pos, af, none⟩ :: rest) F w := by
  unfold WL; rw [if_pos (show Region.wanted _ _ = true from rfl)]; exact .inl h
theorem wl_n {op : Op} {ty : TypeId} {pos : String} {af : Array Edge}
    (h : OpW P op ty F w (fun _ w' => WL r P ops Q rest F w') (fun c w' => Q (.panic c) F w')) : WL r P ops Q (⟨none, op, ty, pos, af, none⟩ :: rest) F w := by
  unfold WL; rw [if_pos (show Region.wanted _ _ = true from rfl)]; exact .inl h
/-- A guarded operation that is carried out. -/
theorem wl_t {d : Tmp} {op : Op} {ty : TypeId} {pos : String} {af : Array Edge} {j : Nat} {b : Bool} (hy : yieldF ops F j = some b)
    (h : OpW P op ty F w (fun v w' => WL r P ops Q rest (upd F d v) w') (fun c w' => Q (.panic c) F w')) : WL r P ops Q (⟨some d, op, ty, pos, af, some (j, b)⟩ :: rest) F w := by
  unfold WL
  rw [if_pos (by simp [Region.wanted, hy])]; exact .inl h
/-- A guarded operation that is passed over. -/
theorem wl_k {d : Tmp} {op : Op} {ty : TypeId} {pos : String} {af : Array Edge} {j : Nat} {b : Bool} (hy : yieldF ops F j = some (!b))
    (h : WL r P ops Q rest (upd F d undef) w) : WL r P ops Q (⟨some d, op, ty, pos, af, some (j, b)⟩ :: rest) F w := by
  unfold WL
  rw [if_neg (by cases b <;> simp [Region.wanted, hy])]; exact h
end

section
variable {P : Program} {ty : TypeId} {F : Fr} {w : World} {K : Value → World → Prop} {Z : List PanicEntry → World → Prop}

theorem opw_run {op : Op} {v : Value} {w' : World} (hr : (execOp (evF F) ⟨none, op, ty, "", #[], none⟩).run P w = .ok (.value v) w') (h : K v w') : OpW P op ty F w K Z := by
  unfold OpW; rw [hr]; exact h
theorem opw_skip {op : Op} {w' : World} (hr : (execOp (evF F) ⟨none, op, ty, "", #[], none⟩).run P w = .ok .skip w') (h : K undef w') : OpW P op ty F w K Z := by
  unfold OpW; rw [hr]; exact h

theorem o_move {x : Operand} (v : Value) (hx : evF F x = v) (h : K v w) : OpW P (.move x) ty F w K Z := opw_run (by simp [execOp, hx]) h
theorem o_assign {x : Operand} (v : Value) (hx : evF F x = v) (h : K v w) : OpW P (.assign x) ty F w K Z := opw_run (by simp [execOp, hx]) h
theorem o_pickT {c a b : Operand} (x : Value) (hc : evF F c = .bool true) (ha : evF F a = x) (h : K x w) : OpW P (.pick c a b) ty F w K Z :=
  opw_run (by simp [execOp, hc, ha, asBool]) h
theorem o_pickF {c a b : Operand} (x : Value) (hc : evF F c = .bool false) (ha : evF F b = x) (h : K x w) : OpW P (.pick c a b) ty F w K Z :=
  opw_run (by simp [execOp, hc, ha, asBool]) h
theorem o_not {t : TypeId} {x : Operand} (b : Bool) (hx : evF F x = .bool b) (h : K (.bool (!b)) w) : OpW P (.unOp .not t x) ty F w K Z :=
  opw_run (by simp [execOp, hx, Op.unary]) h
theorem o_extract {x : Operand} {i : Nat} {vs : Array Value} (v : Value) (hx : evF F x = .tuple vs) (hi : vs[i]? = some v) (h : K v w) : OpW P (.extract x i) ty F w K Z :=
  opw_run (by simp [execOp, hx, Instr.extract, hi]) h
theorem o_makeFunc {fn : Fn} {first captured : List Operand} (fs cs : List Value) (hf : first.map (evF F) = fs) (hc : captured.map (evF F) = cs) (h : K (.func fn fs.toArray cs.toArray) w) : OpW P (.makeFunc fn first.toArray captured.toArray) ty F w K Z :=
  opw_run (by simp [execOp, Instr.makeFunc, ← hf, ← hc]) h

/-! ### integers -/
variable {t yt : TypeId} {x y : Operand}
theorem o_add (k : IntKind) (a b : Int) (z : Int) (hx : evF F x = .int k a) (hy : evF F y = .int k b) (hz : k.wrap (a + b) = z) (h : K (.int k z) w) : OpW P (.binOp .add t x y yt) ty F w K Z :=
  opw_run (by simp [execOp, hx, hy, eqGuard, binOp, Op.intArith, hz]) h
theorem o_sub (k : IntKind) (a b : Int) (z : Int) (hx : evF F x = .int k a) (hy : evF F y = .int k b) (hz : k.wrap (a - b) = z) (h : K (.int k z) w) : OpW P (.binOp .sub t x y yt) ty F w K Z :=
  opw_run (by simp [execOp, hx, hy, eqGuard, binOp, Op.intArith, hz]) h
theorem o_rem (k : IntKind) (a b : Int) (z : Int) (hx : evF F x = .int k a) (hy : evF F y = .int k b) (h0 : b ≠ 0) (hz : a.tmod b = z) (h : K (.int k z) w) : OpW P (.binOp .rem t x y yt) ty F w K Z :=
  opw_run (by simp [execOp, hx, hy, eqGuard, binOp, Op.intDiv, h0, hz]) h
theorem o_lss (k : IntKind) (a b : Int) (hx : evF F x = .int k a) (hy : evF F y = .int k b) (h : K (.bool (decide (a < b))) w) : OpW P (.binOp .lss t x y yt) ty F w K Z :=
  opw_run (by simp [execOp, hx, hy, eqGuard, binOp, Op.intCmp]) h
theorem o_leq (k : IntKind) (a b : Int) (hx : evF F x = .int k a) (hy : evF F y = .int k b) (h : K (.bool (decide (a ≤ b))) w) : OpW P (.binOp .leq t x y yt) ty F w K Z :=
  opw_run (by simp [execOp, hx, hy, eqGuard, binOp, Op.intCmp]) h
theorem o_gtr (k : IntKind) (a b : Int) (hx : evF F x = .int k a) (hy : evF F y = .int k b) (h : K (.bool (decide (b < a))) w) : OpW P (.binOp .gtr t x y yt) ty F w K Z :=
  opw_run (by simp [execOp, hx, hy, eqGuard, binOp, Op.intCmp]) h
theorem o_geq (k : IntKind) (a b : Int) (hx : evF F x = .int k a) (hy : evF F y = .int k b) (h : K (.bool (decide (b ≤ a))) w) : OpW P (.binOp .geq t x y yt) ty F w K Z :=
  opw_run (by simp [execOp, hx, hy, eqGuard, binOp, Op.intCmp]) h
theorem o_eql (k : IntKind) (a b : Int) (hx : evF F x = .int k a) (hy : evF F y = .int k b) (h : K (.bool (a == b)) w) : OpW P (.binOp .eql t x y yt) ty F w K Z :=
  opw_run (by simp [execOp, hx, hy, eqGuard, binOp, Op.intCmp]) h
theorem o_neq (k : IntKind) (a b : Int) (hx : evF F x = .int k a) (hy : evF F y = .int k b) (h : K (.bool (a != b)) w) : OpW P (.binOp .neq t x y yt) ty F w K Z :=
  opw_run (by simp [execOp, hx, hy, eqGuard, binOp, Op.intCmp]) h

theorem o_conv (k k' : IntKind) {src dst : TypeId} {ds : TypeDesc} (hs : P.underlying src = some ds) (hd : P.underlying dst = some (.int k')) (a : Int) (z : Int) (hx : evF F x = .int k a) (hz : k'.wrap a = z) (h : K (.int k' z) w) : OpW P (.convert src dst x) ty F w K Z :=
  opw_run (by simp [execOp, convert, run_underlying hs, run_underlying hd, hx, Conv.intToInt, hz]) h

theorem run_equalB (d : Nat) (a b : Bool) (ht : P.underlying t = some .bool) : (Op.equalIn (d + 1) t (.bool a) (.bool b)).run P w = .ok (a == b) w := by
  simp [Op.equalIn, run_underlying ht]
/-- '==' on bools. -/
theorem o_eqlB (a b : Bool) (ht : P.underlying t = some .bool) (hx : evF F x = .bool a) (hy : evF F y = .bool b) (h : K (.bool (a == b)) w) : OpW P (.binOp .eql t x y yt) ty F w K Z :=
  opw_run (by
    simp only [execOp, hx, hy, eqGuard, binOp]
    simp [Op.equal, Op.maxDepth, run_equalB (w := w) 9999 a b ht]) h
theorem o_neqB (a b : Bool) (ht : P.underlying t = some .bool) (hx : evF F x = .bool a) (hy : evF F y = .bool b) (h : K (.bool (a != b)) w) : OpW P (.binOp .neq t x y yt) ty F w K Z :=
  opw_run (by
    simp only [execOp, hx, hy, eqGuard, binOp]
    simp [Op.equal, Op.maxDepth, run_equalB (w := w) 9999 a b ht, bne]) h

/-! ### len, min -/
theorem o_len {t : TypeId} {e : TypeId} (A : Option Addr) (n c : Nat) (ht : P.underlying t = some (.slice e)) (hx : evF F x = .slice A n c) (h : K (vI n) w) :
    OpW P (.call { callee := .builtin .len, args := #[x], argTypes := #[t] }) ty F w K Z :=
  opw_run (by simp [execOp, resolve, invoke, builtin, hx, Builtin.len_, run_underlying ht, goInt]) h
/-! ### calls -/
theorem o_call {f : FuncId} {xs : List Operand} {ats : Array TypeId} (vs : List Value) (R : Ending → World → Prop) (he : ∀ (as : Array Value) (w : World), (callFunc f as).run P w = .ok (.enter f as) w)
    (hv : xs.map (evF F) = vs) (hc : Calls P f vs.toArray w R) (hk : ∀ e w', R e w' → ∃ v, e = .returned v ∧ K v w') :
    OpW P (.call { callee := .value (.func f), args := xs.toArray, argTypes := ats }) ty F w K Z := by
  unfold OpW
  have : (execOp (evF F) ⟨none, .call { callee := .value (.func f), args := xs.toArray, argTypes := ats }, ty, "", #[], none⟩).run P w = .ok (.enter f vs.toArray) w := by
    simp [execOp, resolve, Deferred.ofValue, evF, invoke, hv, he]
  rw [this]
  exact hc.mono fun e w' hr => by obtain ⟨v, rfl, h⟩ := hk e w' hr; exact h
/-- A call of a closure that is known. -/
theorem o_callv {f : FuncId} {xf : Operand} {xs : List Operand} {ats : Array TypeId} (fs cs vs : List Value) (R : Ending → World → Prop) (he : ∀ (as : Array Value) (w : World), (callFunc f as).run P w = .ok (.enter f as) w)
    (hf : evF F xf = .func (.func f) fs.toArray cs.toArray) (hv : xs.map (evF F) = vs) (hc : Calls P f (fs ++ vs ++ cs).toArray w R) (hk : ∀ e w', R e w' → ∃ v, e = .returned v ∧ K v w') :
    OpW P (.call { callee := .value xf, args := xs.toArray, argTypes := ats }) ty F w K Z := by
  unfold OpW
  have : (execOp (evF F) ⟨none, .call { callee := .value xf, args := xs.toArray, argTypes := ats }, ty, "", #[], none⟩).run P w = .ok (.enter f (fs ++ vs ++ cs).toArray) w := by
    simp [execOp, resolve, Deferred.ofValue, invoke, hf, hv, he]
  rw [this]
  exact hc.mono fun e w' hr => by obtain ⟨v, rfl, h⟩ := hk e w' hr; exact h
end
end Go.Fw
