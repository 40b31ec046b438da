/- Where the parts of a body meet; the frame at a loop's head. Program-independent. -/
import Derived.Test.YtjpniibleelgiaaFwE
set_option linter.unusedSimpArgs false
set_option linter.unusedVariables false
namespace Go.Fw
open Go.RowKit

section
variable {P : Program} {ro : Option Nat} {n : Nat} {Q : Exit → Fr → World → Prop} {next : Fr → World → Prop} {F : Fr} {w : World} {i j : Nat} {c : List PanicEntry}
theorem thenQ_n (h : next F w) : thenQ next Q .normal F w := h
theorem thenQ_x (h : Q (.exit i) F w) : thenQ next Q (.exit i) F w := h
theorem thenQ_r (h : Q .ret F w) : thenQ next Q .ret F w := h
theorem blockQ_n (h : Q .normal F w) : blockQ i Q .normal F w := h
theorem blockQ_x (h : Q .normal F w) : blockQ i Q (.exit i) F w := by unfold blockQ; simp only [if_true]; exact h
theorem blockQ_r (h : Q .ret F w) : blockQ i Q .ret F w := h
def upds (F : Fr) : List (Nat × Value) → Fr
  | [] => F
  | p :: r => upd (upds F r) p.1 p.2
def agrees (F : Fr) : List (Nat × Value) → Prop
  | [] => True
  | p :: r => F p.1 = p.2 ∧ agrees F r
theorem upds_self : ∀ (l : List (Nat × Value)), agrees F l → F = upds F l
  | [], _ => rfl
  | p :: r, h => by
    unfold upds
    rw [← upds_self r h.2]
    funext t
    by_cases ht : t = p.1
    · subst ht; rw [upd_same]; exact h.1
    · rw [upd_ne _ _ _ ht]

theorem end_n {fn : Func} {R : Ending → World → Prop} {v : Value} (hd : F n = undef) (hr : (results fn (mk n F).tmps).run P w = .ok v w) (h : R (.returned v) w) : endQ P fn n R .normal F w := ⟨by rw [hd]; rfl, v, hr, h⟩
theorem end_r {fn : Func} {R : Ending → World → Prop} {v : Value} (hd : F n = undef) (hr : (results fn (mk n F).tmps).run P w = .ok v w) (h : R (.returned v) w) : endQ P fn n R .ret F w := ⟨by rw [hd]; rfl, v, hr, h⟩

/-- A contract, proved. -/
theorem callsK_of {f : FuncId} {fn : Func} {c : Code} {vs : List Value} {R : Value → World → Prop} (n : Nat) (hf : P.funcs[f]? = some fn) (hb : fn.body = some c) (hn : fn.ntmps = n) (hle : vs.length ≤ n)
    (h : ∀ F, CW P (ro := none) n c (endQ P fn n (fun e w' => ∃ v, e = .returned v ∧ Keep [] w w' ∧ R v w')) (argsF vs 0 (upd F n undef)) w) : CallsK P f vs w R := calls_of_cw n hf hb hn hle h
/-- A call by its contract. -/
theorem o_callK {ty : TypeId} {K : Value → World → Prop} {Z : List PanicEntry → World → Prop} {f : FuncId} {xs : List Operand} {ats : Array TypeId} {vs : List Value} {R : Value → World → Prop} {w0 : World} {O0 B : List Nat} (he : ∀ (as : Array Value) (w : World), (callFunc f as).run P w = .ok (.enter f as) w)
    (hc : CallsK P f vs w R) (hv : xs.map (evF F) = vs) (s : St w0 O0 w B) (hk : ∀ v w', St w0 O0 w' B → Mv B w B w' → Keep [] w w' → R v w' → K v w') : OpW P (.call { callee := .value (.func f), args := xs.toArray, argTypes := ats }) ty F w K Z :=
  o_call vs (fun e w' => ∃ v, e = .returned v ∧ Keep [] w w' ∧ R v w') he hv hc fun _ w' ⟨v, he, hk', hr⟩ => ⟨v, he, hk v w' (s.call hk') (Mv.of_keep hk') hk' hr⟩
theorem o_callvK {ty : TypeId} {K : Value → World → Prop} {Z : List PanicEntry → World → Prop} {f : FuncId} {xf : Operand} {xs : List Operand} {ats : Array TypeId} {vs : List Value} {R : Value → World → Prop} {w0 : World} {O0 B : List Nat} (fs cs as : List Value) (he : ∀ (as : Array Value) (w : World), (callFunc f as).run P w = .ok (.enter f as) w)
    (hf : evF F xf = .func (.func f) fs.toArray cs.toArray) (hc : CallsK P f vs w R) (hv : xs.map (evF F) = as) (hvs : vs = fs ++ as ++ cs) (s : St w0 O0 w B) (hk : ∀ v w', St w0 O0 w' B → Mv B w B w' → Keep [] w w' → R v w' → K v w') : OpW P (.call { callee := .value xf, args := xs.toArray, argTypes := ats }) ty F w K Z :=
  o_callv fs cs as (fun e w' => ∃ v, e = .returned v ∧ Keep [] w w' ∧ R v w') he hf hv (by subst hvs; exact hc) fun _ w' ⟨v, he, hk', hr⟩ => ⟨v, he, hk v w' (s.call hk') (Mv.of_keep hk') hk' hr⟩
end

theorem w64 {a z : Int} (h : -9223372036854775808 ≤ z ∧ z ≤ 9223372036854775807) (e : a = z) : IntKind.i64.wrap a = z := by subst e; exact IntWalk.i64_in _ h
/-- Go's 'byte(n)'. -/
def u8of (a : Int) : UInt8 := UInt8.ofNat (a % 256).toNat
theorem run_enterF {P : Program} {f : FuncId} {fn : Func} {c : Code} (hf : P.funcs[f]? = some fn) (hname : (fn.name == "runtime.NumGoroutine") = false) (hb : fn.body = some c) (xs : Array Value) (w : World) : (callFunc f xs).run P w = .ok (.enter f xs) w := by
  have h1 : fn.name ≠ "runtime.NumGoroutine" := by simpa using hname
  simp [callFunc, hf, h1, hb]
section
variable {P : Program} {ty : TypeId} {F : Fr} {w w0 : World} {O0 B : List Nat} {K : Value → World → Prop} {Z : List PanicEntry → World → Prop} {x y : Operand}
theorem o_idx {α : Type} [Inhabited α] {E : Enc α} {O : List Nat} {l : List α} {v : Value} {t e : TypeId} (ht : P.underlying t = some (.slice e)) (hs : sizeT P e = some E.size) (k : IntKind) (n : Int) (j : Nat)
    (hx : evF F x = v) (hy : evF F y = .int k n) (hn : n = (j : Int)) (hl : RdL E w O v l) (hj : j < l.length) (h : ∀ a, PT E w O (.pointer (some a)) l[j]! → K (.pointer (some a)) w) : OpW P (.indexAddr t x y) ty F w K Z :=
  o_indexR ht hs k n j hx hy hn hl hj (by rw [← getElem!_pos l j hj]; exact h)
theorem Own.pub {α : Type} {E : Enc α} {e : TypeId} {v : Value} {l : List α} (h : Own E e w0.heap.size (B ++ O0) w v l) (s : St w0 O0 w B) : RdL E w O0 v l :=
  h.rd (fun b hb => .inl (by simp [hb])) (fun b hb hO => by have h1 := (h.lt b hb).1; have h2 := s.old b hO; omega)
theorem RdL.out {α : Type} {E : Enc α} {v : Value} {l : List α} (h : RdL E w (B ++ O0) v l) : RdL E w O0 v l := h.sub (fun b hb => .inl (by simp [hb]))
theorem Val.out {α : Type} {E : Enc α} {v : Value} {l : α} (h : Val E w (B ++ O0) v l) : Val E w O0 v l := h.sub (fun b hb => .inl (by simp [hb]))
theorem Enc.out {α : Type} {E : Enc α} {cs : List Value} {l : α} (h : E.rd w (B ++ O0) cs l) : E.rd w O0 cs l := E.sub h (fun b hb => .inl (by simp [hb]))
/-- To read what is one's own for a moment, with no regard to who may write. -/
theorem Own.rd0 {α : Type} {E : Enc α} {e base : Nat} {O : List Nat} {v : Value} {l : List α} (h : Own E e base O w v l) : RdL E w [] v l := h.rd (fun _ h => by cases h) (fun _ _ h => by cases h)
theorem RdL.rd0 {α : Type} {E : Enc α} {O : List Nat} {v : Value} {l : List α} (h : RdL E w O v l) : RdL E w [] v l := h.sub (fun _ h => by cases h)
theorem Own.oneCell {α : Type} {E : Enc α} {e base : Nat} {O : List Nat} {v : Value} {l : List α} (h : Own E e base O w v l) : v.oneCell' = true := by
  obtain ⟨A, c, rfl, _⟩ := h.form; rfl
theorem no_blocks {w : World} : ∀ b ∈ ([] : List Nat), b < w.heap.size := fun _ h => by cases h

theorem o_remN {t yt : TypeId} (a b : Nat) (hb : 0 < b) (hx : evF F x = vI a) (hy : evF F y = vI b) (h : K (vI ((a % b : Nat) : Int)) w) : OpW P (.binOp .rem t x y yt) ty F w K Z :=
  o_rem .i64 a b _ hx hy (by omega) (by rw [Int.tmod_eq_emod_of_nonneg (Int.natCast_nonneg _)]; rfl) h
end
end Go.Fw
