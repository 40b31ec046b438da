/- A map of bytes to 'true', of one's own. Program-independent. -/
import Derived.Test.YtjpniibleelgiaaFwR
set_option linter.unusedSimpArgs false
set_option linter.unusedVariables false
namespace Go.Fw
open Go.RowKit

def MapB (w : World) (r : Nat) (l : List UInt8) : Prop :=
  ∃ es c, Ob w r (.map es c) ∧ es.toList.map (fun e => (e.key, e.val)) = l.map fun x => (vB x, Value.bool true)
theorem MapB.lt {w : World} {r : Nat} {l : List UInt8} (h : MapB w r l) : r < w.heap.size := by obtain ⟨_, _, h, _⟩ := h; exact h.lt
theorem MapB.keep {w w' : World} {r : Nat} {l : List UInt8} {O : List Nat} (h : MapB w r l) (k : Keep O w w') (hb : r ∉ O) : MapB w' r l := by
  obtain ⟨es, c, h1, h2⟩ := h; exact ⟨es, c, h1.keep k hb, h2⟩
theorem findNow_u8 (x : UInt8) : ∀ (es : List MapEntry) (l : List UInt8) (i : Nat), es.map (fun e => (e.key, e.val)) = l.map (fun x => (vB x, Value.bool true)) →
    (if l.contains x then ∃ j, Instr.findNow (.int .u8) (vB x) es i = some (some (j, .bool true)) else Instr.findNow (.int .u8) (vB x) es i = some none)
  | [], [], i, _ => by simp [Instr.findNow]
  | [], _ :: _, _, h => by simp at h
  | _ :: _, [], _, h => by simp at h
  | e :: es, y :: l, i, h => by
    simp only [List.map_cons, List.cons.injEq, Prod.mk.injEq] at h
    obtain ⟨⟨hk, hv⟩, hr⟩ := h
    have ih := findNow_u8 x es l (i + 1) hr
    have hs : Instr.sameNow (.int .u8) (vB x) e.key = some (decide (x = y)) := by
      rw [hk]; simp only [Instr.sameNow, vB, if_true]
      congr 1
      rw [Bool.eq_iff_iff]
      simp only [beq_iff_eq, decide_eq_true_eq]
      exact ⟨fun e => UInt8.toNat_inj.1 (Int.ofNat.inj e), fun e => by rw [e]⟩
    simp only [List.contains_cons]
    unfold Instr.findNow
    rw [hs]
    by_cases hxy : x = y
    · subst hxy; simp [hv]
    · have : (x == y) = false := by simp [hxy]
      simp only [hxy, decide_false, this, Bool.false_or]
      exact ih

section
variable {P : Program} {ty : TypeId} {F : Fr} {w w0 : World} {O0 B : List Nat} {K : Value → World → Prop} {Z : List PanicEntry → World → Prop} {x y v : Operand}
theorem run_getMap {r : Nat} {es : Array MapEntry} {c : Nat} (h : Ob w r (.map es c)) : (getObj r).run P w = .ok (.map es c) w := by
  unfold Ob at h; simp [getObj, Sem.run, h]
theorem run_setMap {r : Nat} {es : Array MapEntry} {c : Nat} (o : Obj) (h : Ob w r (.map es c)) : (setObj r o).run P w = .ok () (w.putObj r o) := by
  unfold Ob at h; simp [setObj, Sem.run, h, World.putObj]
theorem run_findB {kt : TypeId} {b : UInt8} {l : List UInt8} {es : Array MapEntry} (hk : P.underlying kt = some (.int .u8)) (he : es.toList.map (fun e => (e.key, e.val)) = l.map fun x => (vB x, Value.bool true)) :
    if l.contains b then ∃ j, (Instr.findKey kt (vB b) es.toList).run P w = .ok (some (j, .bool true)) w else (Instr.findKey kt (vB b) es.toList).run P w = .ok none w := by
  have h := findNow_u8 b es.toList l 0 he
  split
  · rename_i hc
    rw [if_pos hc] at h
    obtain ⟨j, hj⟩ := h
    exact ⟨j, by simp [Instr.findKey, run_underlying hk, hj]⟩
  · rename_i hc
    rw [if_neg hc] at h
    simp [Instr.findKey, run_underlying hk, h]
theorem run_checkB {kt : TypeId} {b : UInt8} {e : Bool} (hk : P.underlying kt = some (.int .u8)) : (Instr.checkKey e 10000 kt (vB b)).run P w = .ok () w := by
  rw [show (10000 : Nat) = 9999 + 1 from rfl, Instr.checkKey]
  simp [run_underlying hk]
theorem o_makeMap {t : TypeId} (s : St w0 O0 w B) (h : ∀ r w', r = w.heap.size → St w0 O0 w' (r :: B) → Mv B w (r :: B) w' → Keep [] w w' → MapB w' r [] → K (.map (some r)) w') : OpW P (.makeMap t none) ty F w K Z := by
  refine opw_run (v := .map (some w.heap.size)) (w' := w.alloc (.map #[] 0)) ?_ (h _ _ rfl (s.alloc _) (Mv.alloc _ _ _) (Keep.alloc _ _ _) ⟨#[], 0, World.alloc_heap_new w _, rfl⟩)
  simp [execOp, Instr.makeMap, run_newObj_alloc]
theorem o_lookupB {t kt et r : Nat} {b : UInt8} {l : List UInt8} (ht : P.underlying t = some (.map kt et)) (hk : P.underlying kt = some (.int .u8)) (hz : zeroT P et = some (.bool false)) (hx : evF F x = .map (some r)) (hy : evF F y = vB b) (hm : MapB w r l) (h : K (.bool (l.contains b)) w) : OpW P (.lookup t x y false) ty F w K Z := by
  obtain ⟨es, c, ho, he⟩ := hm
  refine opw_run (v := .bool (l.contains b)) (w' := w) ?_ h
  have hf := run_findB (P := P) (w := w) (b := b) hk he
  split at hf
  · rename_i hc
    obtain ⟨j, hj⟩ := hf
    simp [execOp, Instr.lookup, run_underlying ht, hx, hy, run_getMap ho, run_checkB hk, hj]
    simpa using hc
  · rename_i hc
    have hc' : l.contains b = false := by simpa using hc
    simp only [execOp, Instr.lookup, hx, hy]
    simp [run_underlying ht, run_getMap ho, run_checkB hk, hf, run_zero hz]
    simpa using hc'
theorem o_updateB {t kt et r : Nat} {b : UInt8} {l : List UInt8} (ht : P.underlying t = some (.map kt et)) (hk : P.underlying kt = some (.int .u8)) (hx : evF F x = .map (some r)) (hy : evF F y = vB b) (hv : evF F v = .bool true) (hn : l.contains b = false) (hm : MapB w r l) (hr : r ∈ B) (s : St w0 O0 w B)
    (h : ∀ w', St w0 O0 w' B → Mv B w B w' → Keep [r] w w' → MapB w' r (l ++ [b]) → K undef w') : OpW P (.mapUpdate t x y v) ty F w K Z := by
  obtain ⟨es, c, ho, he⟩ := hm
  have hf := run_findB (P := P) (w := w) (b := b) hk he
  rw [if_neg (by rw [hn]; simp)] at hf
  have k : Keep [r] w (w.putObj r (.map (es.push { key := vB b, val := .bool true, born := c }) (c + 1))) := Keep.putObj _ _ _
  refine opw_skip (w' := w.putObj r (.map (es.push { key := vB b, val := .bool true, born := c }) (c + 1))) ?_ (h _ (s.keepB k hr) (Mv.keepB k hr) k ⟨_, _, ho.putObj _, by simp [he]⟩)
  simp only [execOp, Instr.mapUpdate, hx, hy, hv]
  simp [run_underlying ht, run_getMap ho, run_checkB hk, hf, run_setMap _ ho]
end
end Go.Fw
