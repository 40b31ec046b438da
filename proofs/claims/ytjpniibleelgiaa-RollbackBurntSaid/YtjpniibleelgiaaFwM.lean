/- A map of bytes to 'true', of one's own. Program-independent. -/
import Derived.Test.YtjpniibleelgiaaFwR
set_option linter.unusedSimpArgs false
set_option linter.unusedVariables false
namespace Go.Fw
open Go.RowKit

def MapB (w : World) (r : Nat) (l : List UInt8) : Prop :=
  ∃ es c, Ob w r (.map es c) ∧ es.toList.map (fun e => (e.key, e.val)) = l.map fun x => (vB x, Value.bool true)
theorem MapB.lt {w : World} {r : Nat} {l : List UInt8} (h : MapB w r l) : r < w.heap.size := by obtain ⟨_, _, h, _⟩ := h; exact h.lt
theorem MapB.keep {w w' : World} {r : Nat} {l : List UInt8} {O : List Nat} (h : MapB w r l) (k : Keep O w w') (hb : r ∉ O) : MapB w' r l := by
  obtain ⟨es, c, h1, h2⟩ := h; exact ⟨es, c, h1.keep k hb, h2⟩
section
variable {P : Program} {ty : TypeId} {F : Fr} {w w0 : World} {O0 B : List Nat} {K : Value → World → Prop} {Z : List PanicEntry → World → Prop} {x y v : Operand}
theorem run_getMap {r : Nat} {es : Array MapEntry} {c : Nat} (h : Ob w r (.map es c)) : (getObj r).run P w = .ok (.map es c) w := by
  unfold Ob at h; simp [getObj, Sem.run, h]
theorem run_setMap {r : Nat} {es : Array MapEntry} {c : Nat} (o : Obj) (h : Ob w r (.map es c)) : (setObj r o).run P w = .ok () (w.putObj r o) := by
  unfold Ob at h; simp [setObj, Sem.run, h, World.putObj]
theorem o_makeMap {t : TypeId} (s : St w0 O0 w B) (h : ∀ r w', r = w.heap.size → St w0 O0 w' (r :: B) → Mv B w (r :: B) w' → Keep [] w w' → MapB w' r [] → K (.map (some r)) w') : OpW P (.makeMap t none) ty F w K Z := by
  refine opw_run (v := .map (some w.heap.size)) (w' := w.alloc (.map #[] 0)) ?_ (h _ _ rfl (s.alloc _) (Mv.alloc _ _ _) (Keep.alloc _ _ _) ⟨#[], 0, World.alloc_heap_new w _, rfl⟩)
  simp [execOp, Instr.makeMap, run_newObj_alloc]
end
end Go.Fw
