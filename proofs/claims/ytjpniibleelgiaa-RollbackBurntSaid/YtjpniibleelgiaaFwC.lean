/- What memory holds, said of lists and structures; what is kept from one world to the next. Program-independent. -/
import Derived.Test.YtjpniibleelgiaaFwB
import Derived.Maps.AppendAt
import Derived.Deep.AppendLies
import Derived.Deep.Slices
set_option linter.unusedSimpArgs false
set_option linter.unusedVariables false
namespace Go.Fw
open Go.RowKit

/-- All blocks of 'w' but those of 'O' are in 'w'' as they were. -/
structure Keep (O : List Nat) (w w' : World) : Prop where
  os : w'.os = w.os
  tape : w'.tape = w.tape
  output : w'.output = w.output
  size : w.heap.size ≤ w'.heap.size
  block : ∀ k, k < w.heap.size → k ∉ O → w'.heap[k]? = w.heap[k]?

theorem Keep.refl (O : List Nat) (w : World) : Keep O w w := ⟨rfl, rfl, rfl, Nat.le_refl _, fun _ _ _ => rfl⟩
theorem Keep.trans {O : List Nat} {a b c : World} (h : Keep O a b) (k : Keep O b c) : Keep O a c :=
  ⟨k.os.trans h.os, k.tape.trans h.tape, k.output.trans h.output, Nat.le_trans h.size k.size, fun i hi ho => (k.block i (Nat.lt_of_lt_of_le hi h.size) ho).trans (h.block i hi ho)⟩
theorem Keep.mono {O O' : List Nat} {w w' : World} (h : Keep O w w') (hs : ∀ b ∈ O, b ∈ O' ∨ w.heap.size ≤ b) : Keep O' w w' :=
  ⟨h.os, h.tape, h.output, h.size, fun k hk ho => h.block k hk (fun hO => by rcases hs k hO with h1 | h1; exact ho h1; omega)⟩
theorem Keep.nil {O : List Nat} {w w' : World} (h : Keep [] w w') : Keep O w w' := h.mono (fun _ hb => by cases hb)
theorem Keep.drew (O : List Nat) (w : World) : Keep O w w.drew := ⟨rfl, rfl, rfl, Nat.le_refl _, fun _ _ _ => rfl⟩
theorem Keep.alloc (O : List Nat) (w : World) (o : Obj) : Keep O w (w.alloc o) := ⟨rfl, rfl, rfl, by simp, fun k hk _ => Below.heap_alloc w o k hk⟩
theorem Keep.setCell {O : List Nat} (w : World) (a : Addr) (u : Value) (h : a.block ∈ O) : Keep O w (w.setCell a u) :=
  ⟨rfl, rfl, rfl, by simp [World.setCell], fun k _ ho => Below.heap_setCell w a u k (fun e => ho (e ▸ h))⟩
theorem Keep.of_grown {w w' : World} {row : Option Nat} (h : w.grownBy w' row) : Keep row.toList w w' :=
  ⟨h.os, h.tape, h.output, h.size, fun k hk ho => h.block k hk (fun e => ho (by rw [← e]; simp))⟩
theorem Keep.below {w w' : World} (h : Keep [] w w') : Below w.heap.size w w' := ⟨h.os, h.tape, h.output, h.size, fun k hk => h.block k hk (by simp)⟩
/-- Cells 'cs' lie at 'a', outside of 'O'. -/
def Cells (w : World) (O : List Nat) (a : Addr) (cs : List Value) : Prop :=
  a.block < w.heap.size ∧ a.block ∉ O ∧ ∀ (j : Nat) (v : Value), cs[j]? = some v → w.cell? (a.add j) = some v

theorem add_block (a : Addr) (n : Nat) : (a.add n).block = a.block := by unfold Addr.add; split <;> rfl
theorem add_add (a : Addr) (i j : Nat) : (a.add i).add j = a.add (i + j) := Go.Deep.add_add a i j
theorem add0 (b o i : Nat) : (⟨b, o, none⟩ : Addr).add i = ⟨b, o + i, none⟩ := by unfold Addr.add; split <;> simp_all

/-- From (w, B) to (w', B'): what does not lie in B is kept; B' has at most blocks that are new besides. -/
structure Mv (B : List Nat) (w : World) (B' : List Nat) (w' : World) : Prop where
  keep : Keep B w w'
  new : ∀ b ∈ B', b ∈ B ∨ w.heap.size ≤ b
theorem Mv.refl (B : List Nat) (w : World) : Mv B w B w := ⟨Keep.refl _ _, fun _ h => .inl h⟩
theorem Mv.of_keep {B : List Nat} {w w' : World} (h : Keep [] w w') : Mv B w B w' := ⟨h.nil, fun _ h => .inl h⟩
theorem Mv.trans {B B' B'' : List Nat} {w w' w'' : World} (h : Mv B w B' w') (k : Mv B' w' B'' w'') : Mv B w B'' w'' :=
  ⟨⟨k.keep.os.trans h.keep.os, k.keep.tape.trans h.keep.tape, k.keep.output.trans h.keep.output, Nat.le_trans h.keep.size k.keep.size, fun i hi ho => by
    refine (k.keep.block i (Nat.lt_of_lt_of_le hi h.keep.size) (fun hB => ?_)).trans (h.keep.block i hi ho)
    rcases h.new i hB with h1 | h1
    · exact ho h1
    · omega⟩,
   fun b hb => by
    rcases k.new b hb with h1 | h1
    · exact h.new b h1
    · exact .inr (Nat.le_trans h.keep.size h1)⟩

theorem Cells.mv {w w' : World} {B B' O : List Nat} {a : Addr} {cs : List Value} (h : Cells w (B ++ O) a cs) (m : Mv B w B' w') : Cells w' (B' ++ O) a cs := by
  obtain ⟨h1, h2, h3⟩ := h
  simp only [List.mem_append, not_or] at h2
  refine ⟨Nat.lt_of_lt_of_le h1 m.keep.size, ?_, fun j v hj => ?_⟩
  · simp only [List.mem_append, not_or]
    refine ⟨fun hb => ?_, h2.2⟩
    rcases m.new _ hb with h4 | h4
    · exact h2.1 h4
    · omega
  · rw [World.cell?_of_block (w := w) (m.keep.block (a.add j).block (by rw [add_block]; exact h1) (by rw [add_block]; exact h2.1))]
    exact h3 j v hj
theorem Cells.sub {w : World} {O O' : List Nat} {a : Addr} {cs : List Value} (h : Cells w O a cs) (hs : ∀ b ∈ O', b ∈ O ∨ w.heap.size ≤ b) : Cells w O' a cs :=
  ⟨h.1, fun hb => by rcases hs _ hb with h1 | h1; exact h.2.1 h1; have := h.1; omega, h.2.2⟩

/-- How data of a type lie in cells. -/
structure Enc (α : Type) where
  size : Nat
  rd : World → List Nat → List Value → α → Prop
  len : ∀ {w O cs x}, rd w O cs x → cs.length = size
  one : ∀ {w O cs x}, rd w O cs x → ∀ u ∈ cs, u.oneCell' = true
  mv : ∀ {w w' : World} {B B' O : List Nat} {cs x}, rd w (B ++ O) cs x → Mv B w B' w' → rd w' (B' ++ O) cs x
  sub : ∀ {w : World} {O O' : List Nat} {cs x}, rd w O cs x → (∀ b ∈ O', b ∈ O ∨ w.heap.size ≤ b) → rd w O' cs x

def Enc.int : Enc Int where
  size := 1
  rd := fun _ _ cs x => cs = [vI x]
  len := fun h => by subst h; rfl
  one := fun h u hu => by subst h; simp at hu; subst hu; rfl
  mv := fun h _ => h
  sub := fun h _ => h
def Enc.u8 : Enc UInt8 where
  size := 1
  rd := fun _ _ cs x => cs = [vB x]
  len := fun h => by subst h; rfl
  one := fun h u hu => by subst h; simp at hu; subst hu; rfl
  mv := fun h _ => h
  sub := fun h _ => h
def Enc.bool : Enc Bool where
  size := 1
  rd := fun _ _ cs x => cs = [.bool x]
  len := fun h => by subst h; rfl
  one := fun h u hu => by subst h; simp at hu; subst hu; rfl
  mv := fun h _ => h
  sub := fun h _ => h

/-- The slice 'v' reads as the list 'l'. -/
def RdL {α : Type} (E : Enc α) (w : World) (O : List Nat) (v : Value) (l : List α) : Prop :=
  ∃ (A : Option Addr) (c : Nat), v = .slice A l.length c ∧ l.length ≤ c ∧ c ≤ maxLen ∧
    ∀ (i : Nat) (x : α), l[i]? = some x → ∃ (ad : Addr) (cs : List Value), A = some ad ∧ Cells w O (ad.add (i * E.size)) cs ∧ E.rd w O cs x
theorem RdL.mv {α : Type} {E : Enc α} {w w' : World} {B B' O : List Nat} {v : Value} {l : List α} (h : RdL E w (B ++ O) v l) (m : Mv B w B' w') : RdL E w' (B' ++ O) v l := by
  obtain ⟨A, c, h1, h2, h3, h4⟩ := h
  exact ⟨A, c, h1, h2, h3, fun i x hi => by obtain ⟨ad, cs, e, hc, hr⟩ := h4 i x hi; exact ⟨ad, cs, e, hc.mv m, E.mv hr m⟩⟩
theorem RdL.sub {α : Type} {E : Enc α} {w : World} {O O' : List Nat} {v : Value} {l : List α} (h : RdL E w O v l) (hs : ∀ b ∈ O', b ∈ O ∨ w.heap.size ≤ b) : RdL E w O' v l := by
  obtain ⟨A, c, h1, h2, h3, h4⟩ := h
  exact ⟨A, c, h1, h2, h3, fun i x hi => by obtain ⟨ad, cs, e, hc, hr⟩ := h4 i x hi; exact ⟨ad, cs, e, hc.sub hs, E.sub hr hs⟩⟩
theorem RdL.nil {α : Type} (E : Enc α) (w : World) (O : List Nat) : RdL E w O (.slice none 0 0) [] := ⟨none, 0, rfl, Nat.le_refl _, by simp [maxLen], fun i x h => by simp at h⟩
theorem RdL.len_le {α : Type} {E : Enc α} {w : World} {O : List Nat} {v : Value} {l : List α} (h : RdL E w O v l) : l.length ≤ 9223372036854775807 := by
  obtain ⟨A, c, h1, h2, h3, h4⟩ := h
  simp only [maxLen] at h3; omega
theorem RdL.oneCell {α : Type} {E : Enc α} {w : World} {O : List Nat} {v : Value} {l : List α} (h : RdL E w O v l) : v.oneCell' = true := by
  obtain ⟨A, c, h1, _⟩ := h; subst h1; rfl

def Enc.slice {α : Type} (E : Enc α) : Enc (List α) where
  size := 1
  rd := fun w O cs x => ∃ v, cs = [v] ∧ RdL E w O v x
  len := fun ⟨v, h, _⟩ => by subst h; rfl
  one := fun ⟨v, h, hr⟩ u hu => by subst h; simp at hu; subst hu; exact hr.oneCell
  mv := fun ⟨v, h, hr⟩ m => ⟨v, h, hr.mv m⟩
  sub := fun ⟨v, h, hr⟩ hs => ⟨v, h, hr.sub hs⟩

/-- 'p' points to cells that read as 'x'. -/
def PT {α : Type} (E : Enc α) (w : World) (O : List Nat) (p : Value) (x : α) : Prop :=
  ∃ (a : Addr) (cs : List Value), p = .pointer (some a) ∧ Cells w O a cs ∧ E.rd w O cs x
theorem PT.mv {α : Type} {E : Enc α} {w w' : World} {B B' O : List Nat} {p : Value} {x : α} (h : PT E w (B ++ O) p x) (m : Mv B w B' w') : PT E w' (B' ++ O) p x := by
  obtain ⟨a, cs, h1, h2, h3⟩ := h; exact ⟨a, cs, h1, h2.mv m, E.mv h3 m⟩
theorem PT.sub {α : Type} {E : Enc α} {w : World} {O O' : List Nat} {p : Value} {x : α} (h : PT E w O p x) (hs : ∀ b ∈ O', b ∈ O ∨ w.heap.size ≤ b) : PT E w O' p x := by
  obtain ⟨a, cs, h1, h2, h3⟩ := h; exact ⟨a, cs, h1, h2.sub hs, E.sub h3 hs⟩

/-- A field of what is pointed to. -/
theorem PT.field {α β : Type} {E : Enc α} {E' : Enc β} {w : World} {O : List Nat} {a : Addr} {x : α} {y : β} (off : Nat) (h : PT E w O (.pointer (some a)) x)
    (hf : ∀ cs, E.rd w O cs x → E'.rd w O ((cs.drop off).take E'.size) y) : PT E' w O (.pointer (some (a.add off))) y := by
  obtain ⟨a', cs, h1, ⟨h2, h3, h4⟩, h5⟩ := h
  cases h1
  refine ⟨_, _, rfl, ⟨by rw [add_block]; exact h2, by rw [add_block]; exact h3, fun j v hj => ?_⟩, hf cs h5⟩
  rw [add_add]
  apply h4
  rw [List.getElem?_take] at hj
  split at hj
  · rwa [List.getElem?_drop] at hj
  · cases hj

/-- A structure as a value. -/
def Val {α : Type} (E : Enc α) (w : World) (O : List Nat) (v : Value) (x : α) : Prop := ∃ cs : List Value, v = .agg cs.toArray ∧ E.rd w O cs x
theorem Val.mv {α : Type} {E : Enc α} {w w' : World} {B B' O : List Nat} {v : Value} {x : α} (h : Val E w (B ++ O) v x) (m : Mv B w B' w') : Val E w' (B' ++ O) v x := by
  obtain ⟨cs, h1, h2⟩ := h; exact ⟨cs, h1, E.mv h2 m⟩
theorem Val.sub {α : Type} {E : Enc α} {w : World} {O O' : List Nat} {v : Value} {x : α} (h : Val E w O v x) (hs : ∀ b ∈ O', b ∈ O ∨ w.heap.size ≤ b) : Val E w O' v x := by
  obtain ⟨cs, h1, h2⟩ := h; exact ⟨cs, h1, E.sub h2 hs⟩

/-- The state of a call: where it began ('w0', 'O0' the blocks that its callers may write), where it stands, its own blocks. -/
structure St (w0 : World) (O0 : List Nat) (w : World) (B : List Nat) : Prop where
  keep : Keep [] w0 w
  new : ∀ b ∈ B, w0.heap.size ≤ b ∧ b < w.heap.size
  old : ∀ b ∈ O0, b < w0.heap.size
theorem St.start {w : World} {O : List Nat} (h : ∀ b ∈ O, b < w.heap.size) : St w O w [] := ⟨Keep.refl _ _, (fun _ h => by cases h), h⟩
theorem St.step {w0 w w' : World} {O0 B B' : List Nat} (s : St w0 O0 w B) (m : Mv B w B' w') (hn : ∀ b ∈ B', b < w'.heap.size) : St w0 O0 w' B' := by
  refine ⟨⟨m.keep.os.trans s.keep.os, m.keep.tape.trans s.keep.tape, m.keep.output.trans s.keep.output, Nat.le_trans s.keep.size m.keep.size, fun k hk _ => ?_⟩, fun b hb => ⟨?_, hn b hb⟩, s.old⟩
  · refine (m.keep.block k (Nat.lt_of_lt_of_le hk s.keep.size) (fun hB => ?_)).trans (s.keep.block k hk (by simp))
    have := (s.new k hB).1; omega
  · rcases m.new b hb with h1 | h1
    · exact (s.new b h1).1
    · exact Nat.le_trans s.keep.size h1
theorem St.call {w0 w w' : World} {O0 B : List Nat} (s : St w0 O0 w B) (k : Keep [] w w') : St w0 O0 w' B :=
  s.step (Mv.of_keep k) (fun b hb => Nat.lt_of_lt_of_le (s.new b hb).2 k.size)
theorem St.lt {w0 w : World} {O0 B : List Nat} (s : St w0 O0 w B) : ∀ b ∈ B ++ O0, b < w.heap.size := fun b hb => by
  rcases List.mem_append.1 hb with h | h
  · exact (s.new b h).2
  · exact Nat.lt_of_lt_of_le (s.old b h) s.keep.size
theorem St.drop {w0 w : World} {O0 B B' : List Nat} (s : St w0 O0 w B) (h : ∀ b ∈ B', b ∈ B) : St w0 O0 w B' := ⟨s.keep, fun b hb => s.new b (h b hb), s.old⟩
theorem Mv.drop {B B' : List Nat} {w : World} (h : ∀ b ∈ B', b ∈ B) : Mv B w B' w := ⟨Keep.refl _ _, fun b hb => .inl (h b hb)⟩

/-- A call that returns, and leaves all that was there as it was. -/
def CallsK (P : Program) (f : FuncId) (vs : List Value) (w : World) (R : Value → World → Prop) : Prop :=
  Calls P f vs.toArray w fun e w' => ∃ v, e = .returned v ∧ Keep [] w w' ∧ R v w'
theorem CallsK.mono {P : Program} {f : FuncId} {vs : List Value} {w : World} {R R' : Value → World → Prop} (h : CallsK P f vs w R) (hr : ∀ v w', R v w' → R' v w') : CallsK P f vs w R' :=
  Calls.mono h fun _ _ ⟨v, he, hk, h⟩ => ⟨v, he, hk, hr _ _ h⟩

/-! ### an array of cells of one's own -/
def Box (w : World) (b : Nat) (t : TypeId) (cs : List Value) : Prop := w.heap[b]? = some (.cells cs.toArray t (0, 0))
theorem Box.lt {w : World} {b : Nat} {t : TypeId} {cs : List Value} (h : Box w b t cs) : b < w.heap.size := (Array.getElem?_eq_some_iff.1 h).1
theorem Box.keep {w w' : World} {b : Nat} {t : TypeId} {cs : List Value} {O : List Nat} (h : Box w b t cs) (k : Keep O w w') (hb : b ∉ O) : Box w' b t cs := (k.block b h.lt hb).trans h
theorem Box.cell {w : World} {b : Nat} {t : TypeId} {cs : List Value} (h : Box w b t cs) (i : Nat) : w.cell? ⟨b, i, none⟩ = cs[i]? := by
  rw [cell_of_row w b i cs.toArray t (0, 0) h]; simp
theorem Box.frozen {w : World} {b : Nat} {t : TypeId} {cs : List Value} (h : Box w b t cs) (i : Nat) : w.frozen? ⟨b, i, none⟩ = false := by
  unfold Box at h; simp [World.frozen?, h]
theorem Box.new (w : World) (t : TypeId) (cs : List Value) : Box (w.alloc (.cells cs.toArray t)) w.heap.size t cs := heap_alloc_new w _
theorem Box.set {w : World} {b : Nat} {t : TypeId} {cs : List Value} (h : Box w b t cs) (i : Nat) (u : Value) : Box (w.setCell ⟨b, i, none⟩ u) b t (cs.set i u) := by
  unfold Box at h ⊢
  simp [World.setCell, Array.getElem?_modify, h]

/-! ### a slice of one's own -/
def Own {α : Type} (E : Enc α) (e : TypeId) (base : Nat) (O : List Nat) (w : World) (v : Value) (l : List α) : Prop :=
  ∃ css : List (List Value), css.length = l.length ∧ w.ownsRow base e E.size v l.length css.flatten ∧
    ∀ (i : Nat) (cs : List Value) (x : α), css[i]? = some cs → l[i]? = some x → E.rd w O cs x

theorem flat_get {n : Nat} : ∀ (css : List (List Value)) (i j : Nat), (∀ cs ∈ css, cs.length = n) → j < n → css.flatten[i * n + j]? = (css[i]?).bind (·[j]?)
  | [], i, j, _, _ => by simp
  | cs :: css, 0, j, h, hj => by
    have hc := h cs (by simp)
    rw [List.flatten_cons, Nat.zero_mul, Nat.zero_add, List.getElem?_append_left (by omega)]
    simp
  | cs :: css, i + 1, j, h, hj => by
    have hc := h cs (by simp)
    rw [List.flatten_cons, List.getElem?_append_right (by rw [Nat.succ_mul]; omega)]
    have : (i + 1) * n + j - cs.length = i * n + j := by rw [Nat.succ_mul]; omega
    rw [this, flat_get css i j (fun c hc' => h c (by simp [hc'])) hj]
    simp
theorem flat_len {n : Nat} : ∀ (css : List (List Value)), (∀ cs ∈ css, cs.length = n) → css.flatten.length = css.length * n
  | [], _ => by simp
  | cs :: css, h => by
    rw [List.flatten_cons, List.length_append, flat_len css (fun c hc => h c (by simp [hc])), h cs (by simp), List.length_cons, Nat.succ_mul]; omega

theorem Own.lens {α : Type} {E : Enc α} {O : List Nat} {w : World} {l : List α} {css : List (List Value)} (hl : css.length = l.length) (h : ∀ (i : Nat) (cs : List Value) (x : α), css[i]? = some cs → l[i]? = some x → E.rd w O cs x) : ∀ cs ∈ css, cs.length = E.size := by
  intro cs hcs
  obtain ⟨i, hi, rfl⟩ := List.getElem_of_mem hcs
  exact E.len (h i _ l[i] (List.getElem?_eq_getElem hi) (List.getElem?_eq_getElem (by omega)))

theorem Own.nil {α : Type} (E : Enc α) (e : TypeId) (base : Nat) (O : List Nat) (w : World) : Own E e base O w (.slice none 0 0) [] :=
  ⟨[], rfl, World.ownsRow_nil _ _ _ _, fun i cs x h => by simp at h⟩
theorem Own.form {α : Type} {E : Enc α} {e : TypeId} {base : Nat} {O : List Nat} {w : World} {v : Value} {l : List α} (h : Own E e base O w v l) :
    ∃ A c, v = .slice A l.length c ∧ l.length ≤ c ∧ c ≤ maxLen := by
  obtain ⟨css, h1, h2, h3⟩ := h
  rcases h2.2 with ⟨rfl, h0⟩ | ⟨g, cap, cur, rfl, _, _, hc, hm, _⟩
  · exact ⟨none, 0, by rw [h0], by omega, by simp [maxLen]⟩
  · exact ⟨_, cap, rfl, hc, hm⟩
/-- What is one's own, read. -/
theorem Own.rd {α : Type} {E : Enc α} {e : TypeId} {base : Nat} {O O' : List Nat} {w : World} {v : Value} {l : List α} (h : Own E e base O w v l) (hs : ∀ b ∈ O', b ∈ O ∨ w.heap.size ≤ b) (hb : ∀ b, v.ownBlock = some b → b ∉ O') : RdL E w O' v l := by
  obtain ⟨css, h1, h2, h3⟩ := h
  have hlens := Own.lens h1 h3
  rcases h2.2 with ⟨rfl, h0⟩ | ⟨g, cap, cur, rfl, hbg, hg, hc, hm, hsz, htk⟩
  · have : l = [] := List.eq_nil_of_length_eq_zero h0
    subst this; exact RdL.nil E w O'
  · refine ⟨_, cap, rfl, hc, hm, fun i x hi => ?_⟩
    have hil : i < l.length := (List.getElem?_eq_some_iff.1 hi).1
    have hcs : css[i]? = some css[i] := List.getElem?_eq_getElem (by omega)
    refine ⟨_, css[i], rfl, ⟨?_, ?_, fun j v hj => ?_⟩, E.sub (h3 i _ x hcs hi) hs⟩
    · rw [add_block]; exact (Array.getElem?_eq_some_iff.1 hg).1
    · rw [add_block]; exact hb g rfl
    · rw [add_add]
      refine h2.cells (g := g) rfl _ v ?_
      have hjl : j < E.size := by rw [← hlens _ (List.getElem_mem (by omega : i < css.length))]; exact (List.getElem?_eq_some_iff.1 hj).1
      rw [flat_get css i j hlens hjl, hcs]; exact hj
theorem Own.mv {α : Type} {E : Enc α} {e : TypeId} {base : Nat} {w w' : World} {B B' O C : List Nat} {v : Value} {l : List α} (h : Own E e base (B ++ O) w v l) (m : Mv B w B' w') (k : Keep C w w') (hb : ∀ b, v.ownBlock = some b → b ∉ C) : Own E e base (B' ++ O) w' v l := by
  obtain ⟨css, h1, h2, h3⟩ := h
  refine ⟨css, h1, ⟨h2.1, ?_⟩, fun i cs x hi hx => E.mv (h3 i cs x hi hx) m⟩
  rcases h2.2 with h | ⟨g, cap, cur, rfl, hbg, hg, r⟩
  · exact .inl h
  · exact .inr ⟨g, cap, cur, rfl, hbg, (k.block g (Array.getElem?_eq_some_iff.1 hg).1 (hb g rfl)).trans hg, r⟩
theorem Own.lt {α : Type} {E : Enc α} {e : TypeId} {base : Nat} {O : List Nat} {w : World} {v : Value} {l : List α} (h : Own E e base O w v l) : ∀ b, v.ownBlock = some b → base ≤ b ∧ b < w.heap.size := by
  obtain ⟨css, h1, h2, h3⟩ := h; exact h2.lt
theorem Own.sub {α : Type} {E : Enc α} {e : TypeId} {base : Nat} {O O' : List Nat} {w : World} {v : Value} {l : List α} (h : Own E e base O w v l) (hs : ∀ b ∈ O', b ∈ O ∨ w.heap.size ≤ b) : Own E e base O' w v l := by
  obtain ⟨css, h1, h2, h3⟩ := h; exact ⟨css, h1, h2, fun i cs x hi hx => E.sub (h3 i cs x hi hx) hs⟩
end Go.Fw
