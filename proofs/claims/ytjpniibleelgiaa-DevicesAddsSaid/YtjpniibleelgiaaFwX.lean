/- Calls that may panic, a function with one deferred closure, the closure that recovers; results of any kind; interfaces; maps of functions. Program-independent. -/
import Derived.Test.YtjpniibleelgiaaFwT
import Derived.Recover
import Derived.DefersIn
set_option linter.unusedSimpArgs false
set_option linter.unusedVariables false
namespace Go.Fw
open Go.RowKit

section
variable {P : Program} {ty : TypeId} {F : Fr} {w : World} {K : Value → World → Prop} {Z : List PanicEntry → World → Prop} {x y : Operand}

/-! ### calls that may panic -/
/-- What is asked of a call: of what it returns, of its panic. -/
def both (K : Value → World → Prop) (Z : List PanicEntry → World → Prop) : Ending → World → Prop
  | .returned v, w => K v w
  | .panicked c, w => Z c w
  | .outgrown, _ => False
theorem both_r {v : Value} (h : K v w) : both K Z (.returned v) w := h
theorem both_p {c : List PanicEntry} (h : Z c w) : both K Z (.panicked c) w := h
theorem o_callX {f : FuncId} {xs : List Operand} {ats : Array TypeId} (vs : List Value) (he : ∀ (as : Array Value) (w : World), (callFunc f as).run P w = .ok (.enter f as) w)
    (hv : xs.map (evF F) = vs) (hc : Calls P f vs.toArray w (both K Z)) :
    OpW P (.call { callee := .value (.func f), args := xs.toArray, argTypes := ats }) ty F w K Z := by
  unfold OpW
  have : (execOp (evF F) ⟨none, .call { callee := .value (.func f), args := xs.toArray, argTypes := ats }, ty, "", #[], none⟩).run P w = .ok (.enter f vs.toArray) w := by
    simp [execOp, resolve, Deferred.ofValue, evF, invoke, hv, he]
  rw [this]
  exact hc.mono fun e w' hr => by cases e <;> exact hr
theorem o_callvX {f : FuncId} {xf : Operand} {xs : List Operand} {ats : Array TypeId} (fs cs vs : List Value) (he : ∀ (as : Array Value) (w : World), (callFunc f as).run P w = .ok (.enter f as) w)
    (hf : evF F xf = .func (.func f) fs.toArray cs.toArray) (hv : xs.map (evF F) = vs) (hc : Calls P f (fs ++ vs ++ cs).toArray w (both K Z)) :
    OpW P (.call { callee := .value xf, args := xs.toArray, argTypes := ats }) ty F w K Z := by
  unfold OpW
  have : (execOp (evF F) ⟨none, .call { callee := .value xf, args := xs.toArray, argTypes := ats }, ty, "", #[], none⟩).run P w = .ok (.enter f (fs ++ vs ++ cs).toArray) w := by
    simp [execOp, resolve, hf, Deferred.ofValue, invoke, hv, he]
  rw [this]
  exact hc.mono fun e w' hr => by cases e <;> exact hr

/-! ### interfaces, panics -/
theorem o_iface {t : TypeId} {D : TypeDesc} (v : Value) (ht : P.underlying t = some D) (hD : (match D with | .interface _ => false | _ => true) = true) (hx : evF F x = v) (h : K (.iface t v) w) : OpW P (.makeInterface t x) ty F w K Z :=
  opw_run (by
    simp only [execOp, hx, Instr.makeInterface]
    cases D <;> first | (simp at hD; done) | simp [run_underlying ht]) h
theorem o_panic {t : TypeId} {v : Value} (hx : evF F x = .iface t v) (h : Z [{ v := .iface t v, recovered := false }] w) : OpW P (.panic x) ty F w K Z := by
  unfold OpW
  have : (execOp (evF F) ⟨none, .panic x, ty, "", #[], none⟩).run P w = .halt (.panic (.iface t v)) w := by
    simp [execOp, hx, Instr.panic, goPanic]
  rw [this]; exact h
theorem o_nilCheck (a : Addr) (hx : evF F x = .pointer (some a)) (h : K (.pointer (some a)) w) : OpW P (.nilCheck x) ty F w K Z :=
  opw_run (by simp [execOp, hx]) h
theorem run_eqNil1 {t d : TypeId} {v : Value} {ms : _} (n : Nat) (ht : P.underlying t = some (.interface ms)) : (Op.equalIn (n + 1) t (.iface d v) .nilIface).run P w = .ok false w := by
  simp [Op.equalIn, run_underlying ht]
theorem run_eqNil2 {t : TypeId} {ms : _} (n : Nat) (ht : P.underlying t = some (.interface ms)) : (Op.equalIn (n + 1) t .nilIface .nilIface).run P w = .ok true w := by
  simp [Op.equalIn, run_underlying ht]
theorem run_eqNilS {t e : TypeId} {A : Option Addr} {m c : Nat} (n : Nat) (ht : P.underlying t = some (.slice e)) : (Op.equalIn (n + 1) t (.slice A m c) (.slice none 0 0)).run P w = .ok A.isNone w := by
  cases A <;> simp [Op.equalIn, run_underlying ht]
theorem o_field0 {s k : Nat} {a : Addr} (hF : fieldOff P s k = some 0) (hx : evF F x = .pointer (some a)) (h : K (.pointer (some a)) w) : OpW P (.fieldAddr s x k) ty F w K Z := by
  have ha : a.add 0 = a := by simp [Addr.add]
  exact opw_run (v := .pointer (some (a.add 0))) (w' := w) (by simp [execOp, hx, run_fieldAt a hF]) (by rw [ha]; exact h)
theorem o_shrU {t yt : TypeId} (yk : IntKind) (a s : Nat) (hs : s < 64) (hx : evF F x = .int .u64 (a : Int)) (hy : evF F y = .int yk (s : Int)) (h : K (.int .u64 ((a / 2 ^ s : Nat) : Int)) w) : OpW P (.binOp .shr t x y yt) ty F w K Z :=
  opw_run (by
    simp only [execOp, hx, hy, eqGuard, binOp, Op.shift]
    have h1 : ¬ ((s : Int) < 0) := by omega
    have h2 : (a : Int).fdiv (2 ^ (min (s : Int).toNat IntKind.u64.bits)) = ((a / 2 ^ s : Nat) : Int) := by
      have : min (s : Int).toNat IntKind.u64.bits = s := by simp [IntKind.bits]; omega
      rw [this]
      have e : ((2 : Int) ^ s) = ((2 ^ s : Nat) : Int) := by simp
      rw [e, Int.fdiv_eq_ediv_of_nonneg _ (Int.natCast_nonneg _)]
      rfl
    simp only [h1, if_false, h2]
    rfl) h
theorem wrap_u64 {a : Nat} (h : a < 18446744073709551616) : IntKind.u64.wrap (a : Int) = (a : Int) := by
  simp [IntKind.wrap, IntKind.bits, IntKind.signed]; omega
theorem o_neqNil {t yt d : TypeId} {v : Value} {ms : _} (ht : P.underlying t = some (.interface ms)) (hx : evF F x = .iface d v) (h : K (.bool true) w) : OpW P (.binOp .neq t x (.const .nilIface) yt) ty F w K Z :=
  opw_run (by
    have := run_eqNil1 (P := P) (w := w) (d := d) (v := v) 9999 ht
    have hy : evF F (.const .nilIface) = .nilIface := rfl
    simp only [execOp, hx, hy, eqGuard, binOp]
    simp [Op.equal, Op.maxDepth, this]) h
theorem o_neqNil' {t yt : TypeId} {ms : _} (ht : P.underlying t = some (.interface ms)) (hx : evF F x = .nilIface) (h : K (.bool false) w) : OpW P (.binOp .neq t x (.const .nilIface) yt) ty F w K Z :=
  opw_run (by
    have := run_eqNil2 (P := P) (w := w) 9999 ht
    have hy : evF F (.const .nilIface) = .nilIface := rfl
    simp only [execOp, hx, hy, eqGuard, binOp]
    simp [Op.equal, Op.maxDepth, this]) h
theorem o_assertOk {t T : TypeId} {D : TypeDesc} {v : Value} (ht : P.underlying T = some D) (hD : (match D with | .interface _ => false | _ => true) = true) (hx : evF F x = .iface T v) (h : K (.tuple #[v, .bool true]) w) : OpW P (.typeAssert x t T true) ty F w K Z :=
  opw_run (by
    simp only [execOp, hx, Instr.typeAssert]
    cases D <;> first | (simp at hD; done) | simp [run_underlying ht]) h
theorem o_eqlNilS {t yt e : TypeId} {A : Option Addr} {n c : Nat} (ht : P.underlying t = some (.slice e)) (hx : evF F x = .slice A n c) (hy : evF F y = .slice none 0 0) (h : K (.bool A.isNone) w) : OpW P (.binOp .eql t x y yt) ty F w K Z :=
  opw_run (by
    have := run_eqNilS (P := P) (w := w) (A := A) (m := n) (c := c) 9999 ht
    simp only [execOp, hx, hy, eqGuard, binOp]
    simp [Op.equal, Op.maxDepth, this]) h
theorem o_eqlNilR {α : Type} {E : Enc α} {O : List Nat} {l : List α} {v : Value} {t yt e : TypeId} (ht : P.underlying t = some (.slice e)) (hx : evF F x = v) (hy : evF F y = .slice none 0 0) (hl : RdL E w O v l) (h : ∀ b : Bool, (b = true → l = []) → K (.bool b) w) : OpW P (.binOp .eql t x y yt) ty F w K Z := by
  obtain ⟨A, c, rfl, h2, h3, h4⟩ := hl
  refine o_eqlNilS ht hx hy (h _ fun hb => ?_)
  cases l with
  | nil => rfl
  | cons a r => obtain ⟨ad, _, e, _⟩ := h4 0 a rfl; rw [e] at hb; cases hb
theorem o_eqlNilF {α : Type} {E : Enc α} {O : List Nat} {l : List α} {v : Value} {t yt e : TypeId} (ht : P.underlying t = some (.slice e)) (hx : evF F x = v) (hy : evF F y = .slice none 0 0) (hl : RdL E w O v l) (h0 : 0 < l.length) (h : K (.bool false) w) : OpW P (.binOp .eql t x y yt) ty F w K Z :=
  o_eqlNilR ht hx hy hl fun b hb => by
    cases b with
    | false => exact h
    | true => rw [hb rfl] at h0; exact absurd h0 (by simp)
end

/-! ### results -/
section
variable {P : Program} {n : Nat} {fn : Func} {F : Fr} {w : World}
def rv (tmps : Array Value) : ResultVar → Sem Value
  | .tmp t => pure (tmps.getD t undef)
  | .cell a t => do loadVar t (← asAddr (tmps.getD a undef))
theorem rv_t {t : Nat} {v : Value} (ht : Nat.blt t n = true) (hv : F t = v) : (rv (mk n F).tmps (.tmp t)).run P w = .ok v w := by
  have := mk_get n F t (blt ht)
  simp [rv, Array.getD_eq_getD_getElem?, this, hv]
theorem rv_c {t T b o T0 : Nat} {D : TypeDesc} {cs : List Value} {v : Value} (ht : Nat.blt t n = true) (hT : P.underlying T = some D) (hD : notAgg D = true) (hx : F t = .pointer (some ⟨b, o, none⟩)) (hb : Box w b T0 cs) (hv : cs[o]? = some v) : (rv (mk n F).tmps (.cell t T)).run P w = .ok v w := by
  have := mk_get n F t (blt ht)
  have h3 : (loadVar T ⟨b, o, none⟩).run P w = .ok v w := by
    simp [loadVar, run_isAgg hT, hD, show w.cell? ⟨b, o, none⟩ = some v from by rw [hb.cell]; exact hv]
  simp [rv, Array.getD_eq_getD_getElem?, this, hx, asAddr, h3]
theorem rv_A {t T b o T0 : Nat} {D : TypeDesc} {cs vs : List Value} (ht : Nat.blt t n = true) (hT : P.underlying T = some D) (hD : notAgg D = false) (hs : sizeT P T = some vs.length) (hx : F t = .pointer (some ⟨b, o, none⟩)) (hb : Box w b T0 cs) (hv : (cs.drop o).take vs.length = vs) : (rv (mk n F).tmps (.cell t T)).run P w = .ok (.agg vs.toArray) w := by
  have := mk_get n F t (blt ht)
  have h3 : (loadVar T ⟨b, o, none⟩).run P w = .ok (.agg vs.toArray) w := by
    have h := run_loadA (P := P) (w := w) hT hD (a := ⟨b, o, none⟩) hs (fun j v hj => by
      rw [add0, hb.cell, ← hj, ← hv, List.getElem?_take]
      have : j < vs.length := (List.getElem?_eq_some_iff.1 hj).1
      rw [if_pos this, List.getElem?_drop])
    simpa [Instr.loadAt, run_sureAddr] using h
  simp [rv, Array.getD_eq_getD_getElem?, this, hx, asAddr, h3]
theorem rv_eq (r : ResultVar) (tmps : Array Value) : (match r with | .tmp t => (pure (tmps.getD t undef) : Sem Value) | .cell a t => do loadVar t (← asAddr (tmps.getD a undef))) = rv tmps r := by cases r <;> rfl
theorem results_rv (fn : Func) (tmps : Array Value) : results fn tmps = (do let vs ← fn.results.mapM (rv tmps); pure (if h : vs.size = 1 then vs[0] else .tuple vs)) := by
  unfold results
  congr 1
theorem resv1 {r : ResultVar} {v : Value} (h : fn.results = #[r]) (h1 : (rv (mk n F).tmps r).run P w = .ok v w) : (results fn (mk n F).tmps).run P w = .ok v w := by
  simp [results_rv, h, h1]
theorem resv2 {r s : ResultVar} {v u : Value} (h : fn.results = #[r, s]) (h1 : (rv (mk n F).tmps r).run P w = .ok v w) (h2 : (rv (mk n F).tmps s).run P w = .ok u w) : (results fn (mk n F).tmps).run P w = .ok (.tuple #[v, u]) w := by
  simp [results_rv, h, h1, h2]
theorem resv3 {r s t : ResultVar} {v u x : Value} (h : fn.results = #[r, s, t]) (h1 : (rv (mk n F).tmps r).run P w = .ok v w) (h2 : (rv (mk n F).tmps s).run P w = .ok u w) (h3 : (rv (mk n F).tmps t).run P w = .ok x w) : (results fn (mk n F).tmps).run P w = .ok (.tuple #[v, u, x]) w := by
  simp [results_rv, h, h1, h2, h3]
theorem end_p {R : Ending → World → Prop} {c : List PanicEntry} (hd : F n = undef) (h : R (.panicked c) w) : endQ P fn n R (.panic c) F w := ⟨by rw [hd]; rfl, h⟩

/-! ### one deferred closure -/
def endD (P : Program) (fn : Func) (n : Nat) (R : Ending → World → Prop) : Exit → Fr → World → Prop
  | .normal, F, w | .ret, F, w => Leaves P fn (mk n F).tmps R (dec (F n)) .returning w
  | .panic chain, F, w => Leaves P fn (mk n F).tmps R (dec (F n)) (.panicking chain) w
  | _, _, _ => False
theorem calls_of_cwD {f : FuncId} {c : Code} {args : List Value} {R : Ending → World → Prop} (n : Nat) (hf : P.funcs[f]? = some fn) (hb : fn.body = some c) (hn : fn.ntmps = n) (hle : args.length ≤ n)
    (h : ∀ F, CW P (ro := none) n c (endD P fn n R) (argsF args 0 (upd F n undef)) w) : Calls P f args.toArray w R := by
  refine calls_of_wp_defers hf hb ?_
  subst hn
  rw [enter_act hle, argsF_undef fn.ntmps]
  refine wpIn_wide.1 (wpIn_mono (h _) fun e _ _ ⟨F, ha, hQ⟩ => ?_)
  subst ha
  cases e <;> simp only [endD] at hQ <;> first | exact hQ | exact hQ.elim
theorem endD_n {R : Ending → World → Prop} {v : Value} (hd : F n = undef) (hr : (results fn (mk n F).tmps).run P w = .ok v w) (h : R (.returned v) w) : endD P fn n R .normal F w := by
  show Leaves _ _ _ _ (dec (F n)) _ _; rw [hd]; exact ⟨v, hr, h⟩
theorem endD_r {R : Ending → World → Prop} {v : Value} (hd : F n = undef) (hr : (results fn (mk n F).tmps).run P w = .ok v w) (h : R (.returned v) w) : endD P fn n R .ret F w := by
  show Leaves _ _ _ _ (dec (F n)) _ _; rw [hd]; exact ⟨v, hr, h⟩
theorem endD_p {R : Ending → World → Prop} {c : List PanicEntry} (hd : F n = undef) (h : R (.panicked c) w) : endD P fn n R (.panic c) F w := by
  show Leaves _ _ _ _ (dec (F n)) _ _; rw [hd]; exact h

/-- 'defer f()', where f is a closure just made. -/
theorem cw_defer {Q : Exit → Fr → World → Prop} {id d g : Nat} {caps : List Operand} {ty ty2 : TypeId} {pos pos2 : String} {af af2 : Array Edge} {ats : Array TypeId} (cs : List Value) (hd : Nat.blt d n = true) (hok : caps.all (okX n) = true) (hn : F n = undef) (hc : caps.map (evF F) = cs)
    (h : Q .normal (upd (upd F d (.func (.func g) #[] cs.toArray)) n (.tuple #[.func (.func g) #[] cs.toArray])) w) :
    CW P (ro := none) n (.region id #[⟨some d, .makeFunc (.func g) #[] caps.toArray, ty, pos, af, none⟩, ⟨none, .defer { callee := .value (.tmp d), args := #[], argTypes := ats }, ty2, pos2, af2, none⟩] false) Q F w := by
  refine wpIn_region ?_
  obtain ⟨o1, ho1⟩ : ∃ o1 : Oper, o1 = ⟨some d, .makeFunc (.func g) #[] caps.toArray, ty, pos, af, none⟩ := ⟨_, rfl⟩
  obtain ⟨o2, ho2⟩ : ∃ o2 : Oper, o2 = ⟨none, .defer { callee := .value (.tmp d), args := #[], argTypes := ats }, ty2, pos2, af2, none⟩ := ⟨_, rfl⟩
  rw [← ho1, ← ho2]
  have hlt : d < n := blt hd
  have e1 : (execOp (mk n F).eval o1).run P w = .ok (.value (.func (.func g) #[] cs.toArray)) w := by
    have : caps.map (mk n F).eval = cs := by rw [← hc]; exact List.map_congr_left fun x hx => evF_map caps hok x hx
    rw [ho1]; simp [execOp, Instr.makeFunc, ← this]
  obtain ⟨F1, hF1⟩ : ∃ F1, F1 = upd F d (.func (.func g) #[] cs.toArray) := ⟨_, rfl⟩
  have e2 : (execOp (mk n F1).eval o2).run P w = .ok (.defer ⟨.fn (.func g) cs.toArray, #[]⟩) w := by
    have : (mk n F1).eval (.tmp d) = .func (.func g) #[] cs.toArray := by
      rw [mk_eval n F1 (.tmp d) (fun t ht => by cases ht; exact hlt), hF1]; exact upd_same _ _ _
    rw [ho2]; simp [execOp, resolve, this, Deferred.ofValue]
  show wpOpsIn (fen none) 0 P #[o1, o2] (lift n Q) [0, 1] (mk n F) w
  unfold wpOpsIn
  have hw1 : Region.wanted o1 (yielded #[o1, o2] (mk n F).tmps) = true := by rw [ho1]; rfl
  have hg1 : (#[o1, o2] : Array Oper)[0]? = some o1 := rfl
  rw [hg1]
  simp only [hw1, if_true]
  refine ⟨fun _ _ => trivial, ?_⟩
  rw [Oper.semAt_eq _ _ _ (by rw [ho1]; intro c; simp), e1]
  have hp : (mk n F).put o1.dst (.func (.func g) #[] cs.toArray) = mk n F1 := by rw [mk_put _ _ _ _ (by rw [ho1]; exact hd), ho1, hF1]; rfl
  rw [Oper.uponIn_value, hp]
  unfold wpOpsIn
  have hg2 : (#[o1, o2] : Array Oper)[1]? = some o2 := rfl
  have hw2 : Region.wanted o2 (yielded #[o1, o2] (mk n F1).tmps) = true := by rw [ho2]; rfl
  rw [hg2]
  simp only [hw2, if_true]
  refine ⟨fun _ _ => trivial, ?_⟩
  have hs : Oper.semAt (fen none).round (mk n F1).eval o2 = execOp (mk n F1).eval o2 := rfl
  rw [hs, e2, Oper.uponIn_defer]
  refine ⟨upd F1 n (.tuple #[.func (.func g) #[] cs.toArray]), ?_, by rw [hF1]; exact h⟩
  have hdst : o2.dst = none := by rw [ho2]
  rw [hdst]
  show (⟨(mk n F1).tmps, ⟨.fn (.func g) cs.toArray, #[]⟩ :: dec (F1 n)⟩ : Act) = mk n _
  have hn1 : F1 n = undef := by rw [hF1, upd_ne _ _ _ (Nat.ne_of_gt hlt)]; exact hn
  rw [hn1]
  have e2 : (mk n (upd F1 n (.tuple #[.func (.func g) #[] cs.toArray]))).tmps = (mk n F1).tmps := by
    apply Array.ext_getElem?
    intro i
    by_cases hi : i < n
    · rw [mk_get _ _ i hi, mk_get _ _ i hi, upd_ne _ _ _ (Nat.ne_of_lt hi)]
    · have a1 : (mk n F1).tmps[i]? = none := by simp [mk]; omega
      have a2 : (mk n (upd F1 n (.tuple #[.func (.func g) #[] cs.toArray]))).tmps[i]? = none := by simp [mk]; omega
      rw [a1, a2]
  rw [← e2]
  show (⟨_, _⟩ : Act) = ⟨_, dec (upd F1 n (.tuple #[.func (.func g) #[] cs.toArray]) n)⟩
  rw [upd_same]; rfl

/-- What 'recover()' yields in a deferred call, by the mode of the frame that leaves; and that frame's mode behind it. -/
def recV : FrameMode → Value
  | .panicking ({ v, recovered := false, goexit := false } :: _) => v
  | _ => .nilIface
def recU : FrameMode → FrameMode
  | .panicking ({ v, recovered := false, goexit := false } :: older) => .panicking ({ v, recovered := true } :: older)
  | u => u
theorem recoverD_eq (c : Frame) (cs : List Frame) (u : FrameMode) (hu : c.mode = u) :
    recoverD (c :: cs) = some (recV u, { c with mode := recU u } :: cs) ∨ (recoverD (c :: cs) = none ∧ recV u = .nilIface ∧ recU u = u) := by
  subst hu
  cases hm : c.mode with
  | run => exact .inr ⟨by simp [recoverD, hm], rfl, rfl⟩
  | returning => exact .inr ⟨by simp [recoverD, hm], rfl, rfl⟩
  | panicking chain =>
    cases chain with
    | nil => exact .inr ⟨by simp [recoverD, hm], rfl, rfl⟩
    | cons p older =>
      obtain ⟨v, r, g⟩ := p
      cases r <;> cases g
      · exact .inl (by simp [recoverD, hm, recV, recU])
      all_goals exact .inr ⟨by simp [recoverD, hm], rfl, rfl⟩

theorem wpS_rec {Q : Exit → Act → List Frame → World → Prop} {id d d2 : Nat} {ty ty2 : TypeId} {pos pos2 : String} {af af2 : Array Edge} {ats : Array TypeId} {c : Frame} {cs : List Frame} (u : FrameMode) (hd : Nat.blt d n = true) (hd2 : Nat.blt d2 n = true) (hu : c.mode = u)
    (h : Q .normal (mk n (upd (upd F d (recV u)) d2 (recV u))) ({ c with mode := recU u } :: cs) w) :
    (Code.region id #[⟨some d, .call { callee := .builtin .recover, args := #[], argTypes := ats }, ty, pos, af, none⟩, ⟨some d2, .assign (.tmp d), ty2, pos2, af2, none⟩] false).wpS P Q (mk n F) (c :: cs) w := by
  refine wpS_region ?_
  obtain ⟨o1, ho1⟩ : ∃ o1 : Oper, o1 = ⟨some d, .call { callee := .builtin .recover, args := #[], argTypes := ats }, ty, pos, af, none⟩ := ⟨_, rfl⟩
  obtain ⟨o2, ho2⟩ : ∃ o2 : Oper, o2 = ⟨some d2, .assign (.tmp d), ty2, pos2, af2, none⟩ := ⟨_, rfl⟩
  rw [← ho1, ← ho2]
  have e1 : (execOp (mk n F).eval o1).run P w = .ok .recover w := by rw [ho1]; simp [execOp, resolve, invoke, builtin]
  have hp1 : ∀ v, (mk n F).put o1.dst v = mk n (upd F d v) := fun v => by rw [mk_put _ _ _ _ (by rw [ho1]; exact hd), ho1]; rfl
  have e2 : ∀ v, (execOp (mk n (upd F d v)).eval o2).run P w = .ok (.value v) w := fun v => by
    have : (mk n (upd F d v)).eval (.tmp d) = v := by rw [mk_eval n _ (.tmp d) (fun t ht => by cases ht; exact blt hd)]; exact upd_same _ _ _
    rw [ho2]; simp [execOp, this]
  have hp2 : ∀ v, (mk n (upd F d v)).put o2.dst v = mk n (upd (upd F d v) d2 v) := fun v => by rw [mk_put _ _ _ _ (by rw [ho2]; exact hd2), ho2]; rfl
  have hw1 : ∀ a : Act, Region.wanted o1 (yielded #[o1, o2] a.tmps) = true := fun a => by rw [ho1]; rfl
  have hw2 : ∀ a : Act, Region.wanted o2 (yielded #[o1, o2] a.tmps) = true := fun a => by rw [ho2]; rfl
  have hg1 : (#[o1, o2] : Array Oper)[0]? = some o1 := rfl
  have hg2 : (#[o1, o2] : Array Oper)[1]? = some o2 := rfl
  have last : ∀ v cs', Q .normal (mk n (upd (upd F d v) d2 v)) cs' w → wpOpsS P #[o1, o2] Q [1] (mk n (upd F d v)) cs' w := fun v cs' hq => by
    unfold wpOpsS
    rw [hg2]
    simp only [hw2, if_true, e2, Oper.upon, hp2]
    exact hq
  show wpOpsS P #[o1, o2] Q [0, 1] (mk n F) (c :: cs) w
  unfold wpOpsS
  rw [hg1]
  simp only [hw1, if_true, e1, hp1]
  rcases recoverD_eq c cs u hu with hr | ⟨hr, hv, hU⟩
  · rw [hr]; exact last _ _ h
  · rw [hr]
    have hc : ({ c with mode := recU u } : Frame) = c := by rw [hU]; subst hu; rfl
    rw [hc, hv] at h
    exact last _ _ h

/-- The deferred closure of a function that leaves: it recovers first. -/
theorem callsD_rec {f : FuncId} {id d d2 : Nat} {ty ty2 : TypeId} {pos pos2 : String} {af af2 : Array Edge} {ats : Array TypeId} {rest : Code} {args : List Value} {R : Ending → World → Prop} (n : Nat) (u : FrameMode) (hf : P.funcs[f]? = some fn)
    (hb : fn.body = some (.seq (.region id #[⟨some d, .call { callee := .builtin .recover, args := #[], argTypes := ats }, ty, pos, af, none⟩, ⟨some d2, .assign (.tmp d), ty2, pos2, af2, none⟩] false) rest)) (hn : fn.ntmps = n) (hle : args.length ≤ n) (hd : Nat.blt d n = true) (hd2 : Nat.blt d2 n = true)
    (h : ∀ F, CW P (ro := none) n rest (endQ P fn n R) (upd (upd (argsF args 0 (upd F n undef)) d (recV u)) d2 (recV u)) w) : CallsD P f args.toArray u w (fun e u' w' => u' = recU u ∧ R e w') := by
  refine callsD_of_wpS hf hb ?_
  intro c0 cs hu
  subst hn
  rw [enter_act hle, argsF_undef fn.ntmps]
  refine wpS_seq (wpS_rec u hd hd2 hu ?_)
  refine wpS_of_wp (wpIn_wide.1 (wpIn_mono (h _) fun e _ _ ⟨F, ha, hQ⟩ => ?_))
  subst ha
  cases e <;> simp only [endQ] at hQ
  case normal => exact ⟨hQ.1, _, rfl, let ⟨v, h1, h2⟩ := hQ.2; ⟨v, h1, rfl, h2⟩⟩
  case ret => exact ⟨hQ.1, _, rfl, let ⟨v, h1, h2⟩ := hQ.2; ⟨v, h1, rfl, h2⟩⟩
  case panic ch => exact ⟨hQ.1, _, rfl, rfl, hQ.2⟩

/-- What is asked when the closure that recovers has returned. -/
def leftQ (P : Program) (fn : Func) (n : Nat) (F : Fr) (R : Ending → World → Prop) : Ending → World → Prop
  | .returned _, w' => ∃ v, (results fn (mk n F).tmps).run P w' = .ok v w' ∧ R (.returned v) w'
  | _, _ => False
theorem leave_rec {R : Ending → World → Prop} {f : FuncId} {fn1 : Func} {id d d2 : Nat} {ty ty2 : TypeId} {pos pos2 : String} {af af2 : Array Edge} {ats : Array TypeId} {rest : Code} (caps : List Value) (m : Nat) (u : FrameMode) (hu : settle (recU u) = .returning) (hur : u ≠ .run) (hdn : F n = .tuple #[.func (.func f) #[] caps.toArray])
    (he : ∀ (as : Array Value) (w : World), (callFunc f as).run P w = .ok (.enter f as) w) (hf : P.funcs[f]? = some fn1)
    (hb : fn1.body = some (.seq (.region id #[⟨some d, .call { callee := .builtin .recover, args := #[], argTypes := ats }, ty, pos, af, none⟩, ⟨some d2, .assign (.tmp d), ty2, pos2, af2, none⟩] false) rest)) (hn : fn1.ntmps = m) (hle : caps.length ≤ m) (hd : Nat.blt d m = true) (hd2 : Nat.blt d2 m = true)
    (h : ∀ F1, CW P (ro := none) m rest (endQ P fn1 m (leftQ P fn n F R)) (upd (upd (argsF caps 0 (upd F1 m undef)) d (recV u)) d2 (recV u)) w) : Leaves P fn (mk n F).tmps R (dec (F n)) u w := by
  rw [hdn]
  show Leaves P fn (mk n F).tmps R [⟨.fn (.func f) caps.toArray, #[]⟩] u w
  refine leaves_cons (f := f) (args := caps.toArray) hur (by simp [invoke, he]) ?_
  refine CallsD.mono (callsD_rec m u hf hb hn hle hd hd2 h) fun e u' w' ⟨hu', hR⟩ => ?_
  subst hu'
  cases e with
  | returned v => simp only [leftQ] at hR; simp only; rw [hu]; exact hR
  | panicked c => exact hR.elim
  | outgrown => exact hR.elim
theorem leave_con {R R1 : Ending → World → Prop} {f : FuncId} (caps : List Value) (u : FrameMode) (hu : settle (recU u) = .returning) (hur : u ≠ .run) (hdn : F n = .tuple #[.func (.func f) #[] caps.toArray])
    (he : ∀ (as : Array Value) (w : World), (callFunc f as).run P w = .ok (.enter f as) w) (hc : CallsD P f caps.toArray u w (fun e u' w' => u' = recU u ∧ R1 e w')) (h : ∀ e w', R1 e w' → leftQ P fn n F R e w') : Leaves P fn (mk n F).tmps R (dec (F n)) u w := by
  rw [hdn]
  show Leaves P fn (mk n F).tmps R [⟨.fn (.func f) caps.toArray, #[]⟩] u w
  refine leaves_cons (f := f) (args := caps.toArray) hur (by simp [invoke, he]) ?_
  refine CallsD.mono hc fun e u' w' ⟨hu', hR⟩ => ?_
  subst hu'
  have hR := h e w' hR
  cases e with
  | returned v => simp only [leftQ] at hR; simp only; rw [hu]; exact hR
  | panicked c => exact hR.elim
  | outgrown => exact hR.elim
theorem nin1 {a b : Nat} (h : a ≠ b) : a ∉ ([b] : List Nat) := by simpa using h
theorem nin2 {a b c : Nat} (h : a ≠ b) (k : a ≠ c) : a ∉ ([b, c] : List Nat) := by simp [h, k]
theorem endD_nl {R : Ending → World → Prop} (h : Leaves P fn (mk n F).tmps R (dec (F n)) .returning w) : endD P fn n R .normal F w := h
theorem endD_rl {R : Ending → World → Prop} (h : Leaves P fn (mk n F).tmps R (dec (F n)) .returning w) : endD P fn n R .ret F w := h
theorem endD_pl {R : Ending → World → Prop} {c : List PanicEntry} (h : Leaves P fn (mk n F).tmps R (dec (F n)) (.panicking c) w) : endD P fn n R (.panic c) F w := h
end

/-! ### maps from numbers to values -/
def MapF (w : World) (r : Nat) (l : List (Int × Value)) : Prop :=
  ∃ es c, Ob w r (.map es c) ∧ es.toList.map (fun e => (e.key, e.val)) = l.map fun x => (vI x.1, x.2)
theorem MapF.lt {w : World} {r : Nat} {l : List (Int × Value)} (h : MapF w r l) : r < w.heap.size := let ⟨_, _, h, _⟩ := h; h.lt
theorem MapF.keep {w w' : World} {r : Nat} {l : List (Int × Value)} {O : List Nat} (h : MapF w r l) (k : Keep O w w') (hb : r ∉ O) : MapF w' r l := let ⟨es, c, h1, h2⟩ := h; ⟨es, c, h1.keep k hb, h2⟩
theorem findNowF (k : Int) : ∀ (l : List (Int × Value)) (es : List MapEntry) (i : Nat), es.map (fun e => (e.key, e.val)) = l.map (fun x => (vI x.1, x.2)) →
    Instr.findNow (.int .i64) (vI k) es i = some ((l.findIdx? (fun x => k == x.1)).bind fun j => (l[j]?).map fun x => (i + j, x.2))
  | [], [], i, _ => rfl
  | [], e :: es, i, h => by simp at h
  | x :: l, [], i, h => by simp at h
  | x :: l, e :: es, i, h => by
    simp only [List.map_cons, List.cons.injEq, Prod.mk.injEq] at h
    obtain ⟨⟨h1, h2⟩, h3⟩ := h
    unfold Instr.findNow
    rw [h1]
    simp only [Instr.sameNow, if_true]
    rw [List.findIdx?_cons]
    cases hk : (k == x.1) with
    | true => simp [h2]
    | false =>
      simp only [Bool.false_eq_true, if_false]
      rw [findNowF k l es (i + 1) h3]
      cases hf : l.findIdx? (fun x => k == x.1) with
      | none => simp
      | some j => simp; congr 1; funext y; congr 1; omega
section
variable {P : Program} {ty : TypeId} {F : Fr} {w w0 : World} {B O0 : List Nat} {K : Value → World → Prop} {Z : List PanicEntry → World → Prop} {x y z : Operand}
theorem o_makeMapF {t : TypeId} (s : St w0 O0 w B) (h : ∀ r w', r = w.heap.size → St w0 O0 w' (r :: B) → Mv B w (r :: B) w' → Keep [] w w' → MapF w' r [] → K (.map (some r)) w') : OpW P (.makeMap t none) ty F w K Z := by
  refine o_makeMap s fun r w' e s' m k hm => h r w' e s' m k ?_
  obtain ⟨es, c, ho, he⟩ := hm
  exact ⟨es, c, ho, he⟩
theorem run_checkF {kt : TypeId} {k : Int} (hk : P.underlying kt = some (.int .i64)) (b : Bool) : (Instr.checkKey b 10000 kt (vI k)).run P w = .ok () w := by
  rw [show (10000 : Nat) = 9999 + 1 from rfl, Instr.checkKey]
  simp [run_underlying hk]
theorem run_findF {kt r : Nat} {k : Int} {l : List (Int × Value)} {es : Array MapEntry} (hk : P.underlying kt = some (.int .i64)) (he : es.toList.map (fun e => (e.key, e.val)) = l.map fun x => (vI x.1, x.2)) :
    (Instr.findKey kt (vI k) es.toList).run P w = .ok ((l.findIdx? (fun x => k == x.1)).bind fun j => (l[j]?).map fun x => (j, x.2)) w := by
  unfold Instr.findKey
  simp [run_underlying hk, findNowF k l es.toList 0 he]
theorem o_lookupF {t kt et r : Nat} {k : Int} {l : List (Int × Value)} (v : Value) (ht : P.underlying t = some (.map kt et)) (hk : P.underlying kt = some (.int .i64)) (hx : evF F x = .map (some r)) (hy : evF F y = vI k) (hm : MapF w r l)
    (hf : (l.findIdx? (fun x => k == x.1)).bind (fun j => (l[j]?).map fun x => x.2) = some v) (h : K (.tuple #[v, .bool true]) w) : OpW P (.lookup t x y true) ty F w K Z := by
  obtain ⟨es, c, ho, he⟩ := hm
  refine opw_run ?_ h
  have h1 := run_findF (P := P) (w := w) (r := r) hk he (k := k)
  cases hj : l.findIdx? (fun x => k == x.1) with
  | none => rw [hj] at hf; simp at hf
  | some j =>
    rw [hj] at hf h1
    simp only [Option.bind_some] at hf h1
    cases hl : l[j]? with
    | none => rw [hl] at hf; simp at hf
    | some q =>
      rw [hl] at hf h1
      simp only [Option.map_some, Option.some.injEq] at hf h1
      simp [execOp, Instr.lookup, run_underlying ht, hx, hy, run_getMap ho, run_checkF hk, h1, hf]
theorem o_lookupN {t kt et r : Nat} {k : Int} {l : List (Int × Value)} {z : Value} (ht : P.underlying t = some (.map kt et)) (hk : P.underlying kt = some (.int .i64)) (hz : zeroT P et = some z) (hx : evF F x = .map (some r)) (hy : evF F y = vI k) (hm : MapF w r l)
    (hf : l.findIdx? (fun x => k == x.1) = none) (h : K (.tuple #[z, .bool false]) w) : OpW P (.lookup t x y true) ty F w K Z := by
  obtain ⟨es, c, ho, he⟩ := hm
  refine opw_run ?_ h
  have h1 := run_findF (P := P) (w := w) (r := r) hk he (k := k)
  rw [hf] at h1
  simp [execOp, Instr.lookup, run_underlying ht, hx, hy, run_getMap ho, run_checkF hk, h1, run_zero hz]
theorem o_insertF {t kt et r : Nat} {k : Int} {v : Value} {l : List (Int × Value)} (ht : P.underlying t = some (.map kt et)) (hk : P.underlying kt = some (.int .i64)) (hx : evF F x = .map (some r)) (hy : evF F y = vI k) (hv : evF F z = v) (hm : MapF w r l) (hr : r ∈ B) (s : St w0 O0 w B)
    (hf : l.findIdx? (fun x => k == x.1) = none) (h : ∀ w', St w0 O0 w' B → Mv B w B w' → Keep [r] w w' → MapF w' r (l ++ [(k, v)]) → K undef w') : OpW P (.insert t x y z) ty F w K Z := by
  obtain ⟨es, c, ho, he⟩ := hm
  have h1 := run_findF (P := P) (w := w) (r := r) hk he (k := k)
  rw [hf] at h1
  have h2 : Keep [r] w (w.putObj r (.map (es.push { key := vI k, val := v, born := c }) (c + 1))) := Keep.putObj _ _ _
  refine opw_skip (w' := w.putObj r (.map (es.push { key := vI k, val := v, born := c }) (c + 1))) ?_ (h _ (s.keepB h2 (by simpa using hr)) (Mv.keepB h2 (by simpa using hr)) h2 ⟨_, _, ho.putObj _, by simp [he]⟩)
  simp [execOp, Instr.mapUpdate, run_underlying ht, hx, hy, hv, run_getMap ho, run_checkF hk, h1, run_setMap _ ho]
end
end Go.Fw
