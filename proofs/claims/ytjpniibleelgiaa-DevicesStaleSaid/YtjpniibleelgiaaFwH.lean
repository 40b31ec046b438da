/- More operations: publishing what is one's own, variables that are only read, structures built, results in cells. Program-independent. -/
import Derived.Test.YtjpniibleelgiaaFwM
import Derived.Laws.Tables
set_option linter.unusedSimpArgs false
set_option linter.unusedVariables false
namespace Go.Fw
open Go.RowKit

theorem RdL.step {α : Type} {E : Enc α} {w w' : World} {O : List Nat} {v : Value} {l : List α} (h : RdL E w O v l) (k : Keep [] w w') : RdL E w' O v l := h.mv (B := []) (B' := []) (Mv.of_keep k)
theorem PT.step {α : Type} {E : Enc α} {w w' : World} {O : List Nat} {v : Value} {l : α} (h : PT E w O v l) (k : Keep [] w w') : PT E w' O v l := h.mv (B := []) (B' := []) (Mv.of_keep k)
theorem Enc.step {α : Type} {E : Enc α} {w w' : World} {O : List Nat} {cs : List Value} {x : α} (h : E.rd w O cs x) (k : Keep [] w w') : E.rd w' O cs x := E.mv (B := []) (B' := []) h (Mv.of_keep k)
/-- What is said of a later world, where others may write O'. -/
theorem RdL.on {α : Type} {E : Enc α} {w w' : World} {O O' : List Nat} {v : Value} {l : List α} (h : RdL E w O v l) (hs : ∀ b ∈ O', b ∈ O ∨ w.heap.size ≤ b) (k : Keep [] w w') : RdL E w' O' v l := (h.sub hs).step k
theorem PT.on {α : Type} {E : Enc α} {w w' : World} {O O' : List Nat} {v : Value} {l : α} (h : PT E w O v l) (hs : ∀ b ∈ O', b ∈ O ∨ w.heap.size ≤ b) (k : Keep [] w w') : PT E w' O' v l := (h.sub hs).step k
theorem Enc.on {α : Type} {E : Enc α} {w w' : World} {O O' : List Nat} {cs : List Value} {x : α} (h : E.rd w O cs x) (hs : ∀ b ∈ O', b ∈ O ∨ w.heap.size ≤ b) (k : Keep [] w w') : E.rd w' O' cs x := Enc.step (E.sub h hs) k

section
variable {P : Program} {ty : TypeId} {F : Fr} {w w0 : World} {O0 B : List Nat} {K : Value → World → Prop} {Z : List PanicEntry → World → Prop} {x y : Operand}

/-- What is one's own is given up: from here on it is only read. -/
theorem Own.publish {α : Type} {E : Enc α} {e : TypeId} {v : Value} {l : List α} (h : Own E e w0.heap.size (B ++ O0) w v l) (s : St w0 O0 w B) :
    ∃ B', St w0 O0 w B' ∧ Mv B w B' w ∧ RdL E w (B' ++ O0) v l ∧ ∀ b ∈ B, v.ownBlock ≠ some b → b ∈ B' := by
  have hsub : ∀ b ∈ B.filter (fun b => v.ownBlock ≠ some b), b ∈ B := fun b hb => (List.mem_filter.1 hb).1
  refine ⟨B.filter (fun b => v.ownBlock ≠ some b), s.drop hsub, Mv.drop hsub, h.rd (fun b hb => .inl ?_) (fun b hb hO => ?_), fun b hb hn => List.mem_filter.2 ⟨hb, by simpa using hn⟩⟩
  · rcases List.mem_append.1 hb with h1 | h1
    · exact List.mem_append_left _ (hsub b h1)
    · exact List.mem_append_right _ h1
  · rcases List.mem_append.1 hO with h1 | h1
    · have := (List.mem_filter.1 h1).2; simp [hb] at this
    · have h2 := (h.lt b hb).1; have h3 := s.old b h1; omega
/-- A variable is given up: from here on it is only read. -/
theorem Box.publish {α : Type} {E : Enc α} {b T : Nat} {cs : List Value} {u : α} (hb : Box w b T cs) (hr : E.rd w (B ++ O0) cs u) (s : St w0 O0 w B) (hin : b ∈ B) :
    ∃ B', St w0 O0 w B' ∧ Mv B w B' w ∧ PT E w (B' ++ O0) (.pointer (some ⟨b, 0, none⟩)) u ∧ ∀ c ∈ B, c ≠ b → c ∈ B' := by
  have hsub : ∀ c ∈ B.filter (fun c => c ≠ b), c ∈ B := fun c hc => (List.mem_filter.1 hc).1
  refine ⟨B.filter (fun c => c ≠ b), s.drop hsub, Mv.drop hsub, PT.of_box hb (E.sub hr (fun c hc => .inl ?_)) (fun hO => ?_), fun c hc hn => List.mem_filter.2 ⟨hc, by simpa using hn⟩⟩
  · rcases List.mem_append.1 hc with h1 | h1
    · exact List.mem_append_left _ (hsub c h1)
    · exact List.mem_append_right _ h1
  · rcases List.mem_append.1 hO with h1 | h1
    · have := (List.mem_filter.1 h1).2; simp at this
    · have h2 := (s.new b hin).1; have h3 := s.old b h1; omega
/-- A variable that nobody writes behind its making. -/
theorem o_boxR {α : Type} {E : Enc α} {t : TypeId} (v : Value) (cs : List Value) (u : α) (hx : evF F x = v) (hc : v.cells = cs.toArray) (hr : E.rd w (B ++ O0) cs u) (s : St w0 O0 w B)
    (h : ∀ (a : Addr) w', St w0 O0 w' B → Mv B w B w' → Keep [] w w' → PT E w' (B ++ O0) (.pointer (some a)) u → K (.pointer (some a)) w') : OpW P (.box t x) ty F w K Z := by
  refine opw_run (v := .pointer (some ⟨w.heap.size, 0, none⟩)) (w' := w.alloc (.cells v.cells t)) ?_ (h _ _ (s.alloc' _) (Mv.alloc' _ _ _) (Keep.alloc _ _ _) ?_)
  · simp [execOp, Instr.box, hx, newVar, newRow]
  · exact PT.of_box (T := t) (cs := cs) (by rw [hc]; exact Box.new w t cs) (E.mv hr (Mv.alloc' _ _ _)) (fun hb => Nat.lt_irrefl _ (s.lt _ hb))

/-- A guarded operation that is passed over, because its guard was passed over. -/
theorem wl_u {r : Bool} {ops rest : List Oper} {Q : Exit → Fr → World → Prop} {d : Tmp} {op : Op} {pos : String} {af : Array Edge} {j : Nat} {b : Bool} (hy : yieldF ops F j = none)
    (h : WL r P ops Q rest (upd F d undef) w) : WL r P ops Q (⟨some d, op, ty, pos, af, some (j, b)⟩ :: rest) F w := by
  unfold WL
  rw [if_neg (by cases b <;> simp [Region.wanted, hy])]; exact h
theorem sp_undef {o : Oper} {ops : List Oper} {F1 : Fr} {w1 : World} {R : Prop} {j : Nat} {b : Bool} (hg : o.guard = some (j, b)) (hy : yieldF ops F1 j = none) (h : R) :
    (Region.wanted o (yieldF ops F1) = true → OpW P o.op o.type F1 w1 K Z) ∧ (Region.wanted o (yieldF ops F1) = false → R) :=
  ⟨fun hw => by unfold Region.wanted at hw; rw [hg] at hw; cases b <;> simp [hy] at hw, fun _ => h⟩

/-! ### facts of an elder world -/
theorem cell_old {u w : World} (k : Keep [] u w) {a : Addr} {v : Value} (h : u.cell? a = some v) : w.cell? a = some v := (World.cell?_of_block (w := u) (k.block a.block (World.block_lt_of_cell? u _ h) (by simp))).trans h
theorem o_idxU {u : World} {α : Type} [Inhabited α] {E : Enc α} {O : List Nat} {l : List α} {v : Value} {t e : TypeId} (ht : P.underlying t = some (.slice e)) (hs : sizeT P e = some E.size) (k : IntKind) (n : Int) (j : Nat)
    (hx : evF F x = v) (hy : evF F y = .int k n) (hn : n = (j : Int)) (hl : RdL E u O v l) (hj : j < l.length) (h : ∀ a, PT E u O (.pointer (some a)) l[j]! → K (.pointer (some a)) w) : OpW P (.indexAddr t x y) ty F w K Z := by
  obtain ⟨A, c, rfl, h2, h3, h4⟩ := hl
  obtain ⟨ad, cs, rfl, hc, hr⟩ := h4 j l[j] (List.getElem?_eq_getElem hj)
  subst hn
  refine opw_run (v := .pointer (some (ad.add (j * E.size)))) ?_ (h _ ?_)
  · simp [execOp, hx, hy, run_indexSlice ht hs k ad l.length c j hj]
  · rw [getElem!_pos l j hj]; exact ⟨_, cs, rfl, hc, hr⟩
theorem o_loadRU {u : World} {α : Type} {E : Enc α} {O : List Nat} {z : α} {a : Addr} {t : TypeId} {D : TypeDesc} (ht : P.underlying t = some D) (hD : notAgg D = true) (hE : E.size = 1) (hx : evF F x = .pointer (some a)) (hp : PT E u O (.pointer (some a)) z) (k : Keep [] u w)
    (h : ∀ v, E.rd u O [v] z → K v w) : OpW P (.load t x) ty F w K Z := by
  obtain ⟨v, hc, hr⟩ := PT.one hE hp
  exact opw_run (v := v) (by simp [execOp, hx, run_loadC ht hD (cell_old k hc)]) (h v hr)
theorem o_loadIU {u : World} {O : List Nat} {z : Int} {a : Addr} {t : TypeId} {D : TypeDesc} (ht : P.underlying t = some D) (hD : notAgg D = true) (hx : evF F x = .pointer (some a)) (hp : PT Enc.int u O (.pointer (some a)) z) (k : Keep [] u w) (h : K (vI z) w) : OpW P (.load t x) ty F w K Z :=
  o_loadRU ht hD rfl hx hp k fun v hv => by have : [v] = [vI z] := hv; cases this; exact h
theorem o_loadBU {u : World} {O : List Nat} {z : UInt8} {a : Addr} {t : TypeId} {D : TypeDesc} (ht : P.underlying t = some D) (hD : notAgg D = true) (hx : evF F x = .pointer (some a)) (hp : PT Enc.u8 u O (.pointer (some a)) z) (k : Keep [] u w) (h : K (vB z) w) : OpW P (.load t x) ty F w K Z :=
  o_loadRU ht hD rfl hx hp k fun v hv => by have : [v] = [vB z] := hv; cases this; exact h
theorem o_loadTU {u : World} {O : List Nat} {z : Bool} {a : Addr} {t : TypeId} {D : TypeDesc} (ht : P.underlying t = some D) (hD : notAgg D = true) (hx : evF F x = .pointer (some a)) (hp : PT Enc.bool u O (.pointer (some a)) z) (k : Keep [] u w) (h : K (.bool z) w) : OpW P (.load t x) ty F w K Z :=
  o_loadRU ht hD rfl hx hp k fun v hv => by have : [v] = [.bool z] := hv; cases this; exact h
theorem o_loadLU {u : World} {α : Type} {E : Enc α} {O : List Nat} {z : List α} {a : Addr} {t : TypeId} {D : TypeDesc} (ht : P.underlying t = some D) (hD : notAgg D = true) (hx : evF F x = .pointer (some a)) (hp : PT E.slice u O (.pointer (some a)) z) (k : Keep [] u w) (h : ∀ v, RdL E u O v z → K v w) : OpW P (.load t x) ty F w K Z :=
  o_loadRU ht hD rfl hx hp k fun v hv => by obtain ⟨v', h1, h2⟩ := hv; cases h1; exact h v h2
theorem o_loadSU {u : World} {α : Type} {E : Enc α} {O : List Nat} {z : α} {a : Addr} {t : TypeId} {D : TypeDesc} (ht : P.underlying t = some D) (hD : notAgg D = false) (hs : sizeT P t = some E.size) (hx : evF F x = .pointer (some a)) (hp : PT E u O (.pointer (some a)) z) (k : Keep [] u w)
    (h : ∀ cs : List Value, E.rd u O cs z → K (.agg cs.toArray) w) : OpW P (.load t x) ty F w K Z := by
  obtain ⟨a', cs, h1, ⟨h2, h3, h4⟩, h5⟩ := hp
  cases h1
  exact opw_run (v := .agg cs.toArray) (by simp [execOp, hx, run_loadA ht hD (by rw [hs, E.len h5]) (fun j v hj => cell_old k (h4 j v hj))]) (h cs h5)
theorem o_fieldRU {u : World} {α β : Type} {E : Enc α} {E' : Enc β} {O : List Nat} {z : α} {a : Addr} {s k : Nat} (off : Nat) (hF : fieldOff P s k = some off) (u_ : β) (hx : evF F x = .pointer (some a)) (hp : PT E u O (.pointer (some a)) z)
    (hf : ∀ w O cs, E.rd w O cs z → E'.rd w O ((cs.drop off).take E'.size) u_) (h : ∀ a', PT E' u O (.pointer (some a')) u_ → K (.pointer (some a')) w) : OpW P (.fieldAddr s x k) ty F w K Z :=
  opw_run (v := .pointer (some (a.add off))) (by simp [execOp, hx, run_fieldAt a hF]) (h _ (hp.field off (fun cs hc => hf u O cs hc)))
theorem o_lenRU {u : World} {α : Type} {E : Enc α} {O : List Nat} {l : List α} {v : Value} {t e : TypeId} (ht : P.underlying t = some (.slice e)) (hx : evF F x = v) (hl : RdL E u O v l) (h : K (vI l.length) w) :
    OpW P (.call { callee := .builtin .len, args := #[x], argTypes := #[t] }) ty F w K Z := by
  obtain ⟨A, c, rfl, _⟩ := hl
  exact o_len A l.length c ht hx h
theorem o_sliceRU {u : World} {α : Type} {E : Enc α} {O : List Nat} {l : List α} {v : Value} {t e : TypeId} {lo hi : Option Operand} (ht : P.underlying t = some (.slice e)) (hs : sizeT P e = some E.size) (i k : Nat)
    (hx : evF F x = v) (hlo : (lo = none ∧ i = 0) ∨ ∃ o kk n, lo = some o ∧ evF F o = .int kk n ∧ n = (i : Int)) (hhi : (hi = none ∧ k = l.length) ∨ ∃ o kk n, hi = some o ∧ evF F o = .int kk n ∧ n = (k : Int))
    (hik : i ≤ k) (hk : k ≤ l.length) (hl : RdL E u O v l) (h : ∀ v', RdL E u O v' ((l.take k).drop i) → K v' w) : OpW P (.slice t x lo hi none) ty F w K Z := by
  obtain ⟨A, c, rfl, h2, h3, h4⟩ := hl
  have hb : (Instr.sliceBounds true l.length c (lo.map (evF F)) (hi.map (evF F)) none).run P w = .ok (i, k, c) w := by
    have b1 : ∀ kk code, (Instr.sliceBound (.int kk (k : Int)) c code).run P w = .ok k w := fun kk code => by
      rw [run_sliceBound (P := P) w kk (k : Int) c code (by omega) (by omega)]; rfl
    have b2 : ∀ kk code, (Instr.sliceBound (.int kk (i : Int)) k code).run P w = .ok i w := fun kk code => by
      rw [run_sliceBound (P := P) w kk (i : Int) k code (by omega) (by omega)]; rfl
    rcases hlo with ⟨rfl, rfl⟩ | ⟨o, kk, n, rfl, ho, rfl⟩ <;> rcases hhi with ⟨rfl, rfl⟩ | ⟨o', kk', n', rfl, ho', rfl⟩
    · simp [Instr.sliceBounds]
    · simp [Instr.sliceBounds, ho', b1]
    · simp [Instr.sliceBounds, ho, b2]
    · simp [Instr.sliceBounds, ho, ho', b1, b2]
  have hlen : ((l.take k).drop i).length = k - i := by simp; omega
  refine opw_run (v := .slice (if c = i then A else A.map (·.add (i * E.size))) (k - i) (c - i)) ?_ (h _ ?_)
  · simp [execOp, hx, Instr.sliceAt, run_underlying ht, Instr.slice, hb, run_size hs]
  · refine ⟨_, c - i, by rw [hlen], by rw [hlen]; omega, by omega, fun j q hj => ?_⟩
    have hjl : j < k - i := by rw [← hlen]; exact (List.getElem?_eq_some_iff.1 hj).1
    rw [List.getElem?_drop, List.getElem?_take] at hj
    rw [if_pos (by omega)] at hj
    obtain ⟨ad, cs, rfl, hc, hr⟩ := h4 (i + j) q hj
    refine ⟨ad.add (i * E.size), cs, ?_, ?_, hr⟩
    · rw [if_neg (by omega)]; rfl
    · rw [add_add, ← Nat.add_mul]; exact hc
theorem o_slice3RU {u : World} {α : Type} {E : Enc α} {O : List Nat} {l : List α} {v : Value} {t e : TypeId} {lo : Option Operand} {hi mx : Operand} (ht : P.underlying t = some (.slice e)) (hs : sizeT P e = some E.size) (i k m : Nat)
    (hx : evF F x = v) (hlo : (lo = none ∧ i = 0) ∨ ∃ o kk n, lo = some o ∧ evF F o = .int kk n ∧ n = (i : Int)) (k1 k2 : IntKind) (n1 n2 : Int) (hhi : evF F hi = .int k1 n1) (hn1 : n1 = (k : Int)) (hmx : evF F mx = .int k2 n2) (hn2 : n2 = (m : Int))
    (hik : i ≤ k) (hk : k ≤ m) (hm : m ≤ l.length) (hl : RdL E u O v l) (h : ∀ v', RdL E u O v' ((l.take k).drop i) → K v' w) : OpW P (.slice t x lo (some hi) (some mx)) ty F w K Z := by
  obtain ⟨A, c, rfl, h2, h3, h4⟩ := hl
  subst hn1; subst hn2
  have hb : (Instr.sliceBounds true l.length c (lo.map (evF F)) (some (evF F hi)) (some (evF F mx))).run P w = .ok (i, k, m) w := by
    have b0 : ∀ kk code, (Instr.sliceBound (.int kk (m : Int)) c code).run P w = .ok m w := fun kk code => by
      rw [run_sliceBound (P := P) w kk (m : Int) c code (by omega) (by omega)]; rfl
    have b1 : ∀ kk code, (Instr.sliceBound (.int kk (k : Int)) m code).run P w = .ok k w := fun kk code => by
      rw [run_sliceBound (P := P) w kk (k : Int) m code (by omega) (by omega)]; rfl
    have b2 : ∀ kk code, (Instr.sliceBound (.int kk (i : Int)) k code).run P w = .ok i w := fun kk code => by
      rw [run_sliceBound (P := P) w kk (i : Int) k code (by omega) (by omega)]; rfl
    rcases hlo with ⟨rfl, rfl⟩ | ⟨o, kk, n, rfl, ho, rfl⟩
    · simp [Instr.sliceBounds, hhi, hmx, b0, b1]
    · simp [Instr.sliceBounds, ho, hhi, hmx, b0, b1, b2]
  have hlen : ((l.take k).drop i).length = k - i := by simp; omega
  refine opw_run (v := .slice (if m = i then A else A.map (·.add (i * E.size))) (k - i) (m - i)) ?_ (h _ ?_)
  · simp [execOp, hx, Instr.sliceAt, run_underlying ht, Instr.slice, hb, run_size hs]
  · refine ⟨_, m - i, by rw [hlen], by rw [hlen]; omega, by omega, fun j q hj => ?_⟩
    have hjl : j < k - i := by rw [← hlen]; exact (List.getElem?_eq_some_iff.1 hj).1
    rw [List.getElem?_drop, List.getElem?_take] at hj
    rw [if_pos (by omega)] at hj
    obtain ⟨ad, cs, rfl, hc, hr⟩ := h4 (i + j) q hj
    refine ⟨ad.add (i * E.size), cs, ?_, ?_, hr⟩
    · rw [if_neg (by omega)]; rfl
    · rw [add_add, ← Nat.add_mul]; exact hc


theorem o_add8 {t yt : TypeId} (a b : UInt8) (hx : evF F x = vB a) (hy : evF F y = vB b) (h : K (vB (a + b)) w) : OpW P (.binOp .add t x y yt) ty F w K Z :=
  o_add .u8 _ _ _ hx hy rfl (by
    have : IntKind.u8.wrap ((a.toNat : Int) + (b.toNat : Int)) = ((a + b).toNat : Int) := by
      rw [show (a.toNat : Int) + (b.toNat : Int) = ((a.toNat + b.toNat : Nat) : Int) by simp, wrap_u8_nat, UInt8.toNat_add]
    rw [this]; exact h)

/-! ### a part of a slice of one's own, to copy into -/
def SubOf (v : Value) (off size : Nat) (v' : Value) : Prop := ∃ (A : Option Addr) (n c : Nat), v = .slice A n c ∧ v' = .slice (if c = off then A else A.map (·.add (off * size))) (n - off) (c - off)
theorem o_sliceOwn {α : Type} {E : Enc α} {O : List Nat} {e' base : Nat} {l : List α} {v : Value} {t e : TypeId} {lo : Operand} (ht : P.underlying t = some (.slice e)) (hs : sizeT P e = some E.size) (i : Nat) (kk : IntKind) (nn : Int)
    (hx : evF F x = v) (hlo : evF F lo = .int kk nn) (hn : nn = (i : Int)) (hik : i ≤ l.length) (ho : Own E e' base O w v l) (h : ∀ v', SubOf v i E.size v' → K v' w) : OpW P (.slice t x (some lo) none none) ty F w K Z := by
  obtain ⟨A, c, rfl, h2, h3⟩ := ho.form
  subst hn
  have hb : (Instr.sliceBounds true l.length c (some (.int kk (i : Int))) none none).run P w = .ok (i, l.length, c) w := by
    have b2 : ∀ code, (Instr.sliceBound (.int kk (i : Int)) l.length code).run P w = .ok i w := fun code => by
      rw [run_sliceBound (P := P) w kk (i : Int) l.length code (by omega) (by omega)]; rfl
    simp [Instr.sliceBounds, b2]
  refine opw_run (v := .slice (if c = i then A else A.map (·.add (i * E.size))) (l.length - i) (c - i)) ?_ (h _ ⟨A, l.length, c, rfl, rfl⟩)
  simp [execOp, hx, hlo, Instr.sliceAt, run_underlying ht, Instr.slice, hb, run_size hs]
theorem flat1 (l : List UInt8) : (l.map fun x => [vB x]).flatten = l.map vB := by
  induction l with
  | nil => rfl
  | cons a l ih => simp [ih]
theorem o_copyO {t t2 et e : TypeId} {v v' u : Value} {l m : List UInt8} {off : Nat} {O' : List Nat} (ht : P.underlying t = some (.slice et)) (hs : sizeT P et = some 1) (hx : evF F x = v') (hy : evF F y = u) (hsub : SubOf v off 1 v') (ho : Own Enc.u8 e w0.heap.size (B ++ O0) w v l)
    (hB : ∀ b, v.ownBlock = some b → b ∈ B) (hu : RdL Enc.u8 w O' u m) (hoff : off ≤ l.length) (s : St w0 O0 w B)
    (h : ∀ v2 w', St w0 O0 w' B → Mv B w B w' → Keep v.ownBlock.toList w w' → Own Enc.u8 e w0.heap.size (B ++ O0) w' v (l.take off ++ m.take (l.length - off) ++ l.drop (off + m.length)) → K v2 w') :
    OpW P (.call { callee := .builtin .copy, args := #[x, y], argTypes := #[t, t2] }) ty F w K Z := by
  obtain ⟨A0, n0, c0, e0, rfl⟩ := hsub
  obtain ⟨A, c, e1, h2, h3⟩ := ho.form
  have hx2 : evF F x = .slice (if c = off then A else A.map (fun a : Addr => a.add (off * 1))) (l.length - off) (c - off) := by rw [hx]; rw [e1] at e0; cases e0; rfl
  clear hx e0
  subst e1
  obtain ⟨Au, cu, rfl, k2, k3, k4⟩ := hu
  obtain ⟨css, g1, g2, g3⟩ := ho
  have hcss : css = l.map fun x => [vB x] := by
    apply List.ext_getElem?
    intro i
    by_cases hi : i < l.length
    · have h5 := g3 i css[i] l[i] (List.getElem?_eq_getElem (by omega)) (List.getElem?_eq_getElem hi)
      have h5 : css[i] = [vB l[i]] := h5
      rw [List.getElem?_eq_getElem (by omega), h5]; simp [hi]
    · rw [List.getElem?_eq_none (by omega), List.getElem?_eq_none (by simp; omega)]
  have hl' : l.length = (l.take off ++ m.take (l.length - off) ++ l.drop (off + m.length)).length := by simp; omega
  obtain ⟨ms, hms⟩ : ∃ ms, ms = (m.take (l.length - off)).map vB := ⟨_, rfl⟩
  have hmlen : ms.length = min m.length (l.length - off) := by rw [hms, List.length_map, List.length_take, Nat.min_comm]
  -- the source's cells
  have hsrc : (Builtin.firstCells 1 (min m.length (l.length - off)) (.slice Au m.length cu)).run P w = .ok ms.toArray w := by
    rcases Au with _ | ad
    · have : m = [] := by
        cases m with
        | nil => rfl
        | cons b r => obtain ⟨_, _, h, _⟩ := k4 0 b rfl; cases h
      subst this; subst hms; simp [Builtin.firstCells]
    · have := run_loadCells_list (P := P) (w := w) ad ms (fun j q hj => by
        rw [hms, List.getElem?_map, List.getElem?_take] at hj
        split at hj
        · obtain ⟨y, hy1, hy2⟩ := Option.map_eq_some_iff.1 hj
          obtain ⟨ad', cs, h, hc, hr⟩ := k4 j y hy1
          cases h
          have hr : cs = [vB y] := hr
          subst hr; subst hy2
          have := hc.2.2 0 (vB y) rfl
          simpa [add_add, Enc.u8] using this
        · cases hj)
      rw [hmlen] at this
      simpa [Builtin.firstCells] using this
  have run : ∀ (A' : Option Addr) (w' : World), (if c = off then A else A.map (fun a : Addr => a.add (off * 1))) = A' → (match A' with | some a => storeCells a ms | none => pure ()).run P w = .ok () w' →
      (execOp (evF F) ⟨none, .call { callee := .builtin .copy, args := #[x, y], argTypes := #[t, t2] }, ty, "", #[], none⟩).run P w = .ok (.value (goInt (min m.length (l.length - off) : Nat))) w' := fun A' w' hA hw => by
    have hx' : evF F x = .slice A' (l.length - off) (c - off) := by rw [hx2, ← hA]
    cases A' with
    | none => simp at hw; subst hw; simp [execOp, resolve, invoke, builtin, hx', hy, Builtin.copy_, run_underlying ht, run_size hs, Builtin.lenOf, hsrc]
    | some a => simp at hw; simp [execOp, resolve, invoke, builtin, hx', hy, Builtin.copy_, run_underlying ht, run_size hs, Builtin.lenOf, hsrc, hw]
  rcases g2.2 with ⟨e2, h0⟩ | ⟨g, cap, cur, e2, hbg, hg, hnc, hm, hsz, htk⟩
  · have hl0 : l = [] := List.eq_nil_of_length_eq_zero h0
    subst hl0
    obtain ⟨rfl, rfl⟩ : A = none ∧ c = 0 := by cases e2; exact ⟨rfl, rfl⟩
    have ho0 : off = 0 := by simpa using hoff
    subst ho0
    refine opw_run (run none w (by simp) (by simp)) (h _ w s (Mv.refl _ _) (Keep.refl _ _) ?_)
    have : ([] : List UInt8).take 0 ++ m.take (([] : List UInt8).length - 0) ++ ([] : List UInt8).drop (0 + m.length) = [] := by simp
    rw [this]; exact Own.nil _ _ _ _ _
  · obtain ⟨rfl, hcc⟩ : A = some ⟨g, 0, none⟩ ∧ cap = c := by cases e2; exact ⟨rfl, rfl⟩
    subst hcc
    have hgB : g ∈ B := hB g rfl
    have hsz' : cur.size = cap * 1 := hsz
    by_cases hco : cap = off
    · -- nothing to copy
      have hoff' : off = l.length := by omega
      subst hoff'
      have e9 : l.take l.length ++ m.take (l.length - l.length) ++ l.drop (l.length + m.length) = l := by simp
      have hms0 : ms = [] := List.eq_nil_of_length_eq_zero (by rw [hmlen]; omega)
      refine opw_run (run _ w rfl (by rw [if_pos hco, hms0]; simp [storeCells])) (h _ w s (Mv.refl _ _) (Keep.refl _ _) ?_)
      rw [e9]; exact ⟨css, g1, ⟨g2.1, .inr ⟨g, cap, cur, rfl, hbg, hg, hnc, hm, hsz, htk⟩⟩, g3⟩
    · have hst := run_storeCells_at P g off e ms 0 cur w hg (by rw [hmlen]; omega) (fun v hv => by rw [hms] at hv; obtain ⟨y, _, rfl⟩ := List.mem_map.1 hv; rfl)
      simp only [Nat.add_zero] at hst
      have k : Keep [g] w (w.setRow g (cur.toList.take off ++ ms ++ cur.toList.drop (off + ms.length)).toArray) :=
        ⟨rfl, rfl, rfl, by simp, fun q _ hq => setRow_other w g q _ (fun e => hq (by simp [e]))⟩
      have mm : Mv B w B (w.setRow g (cur.toList.take off ++ ms ++ cur.toList.drop (off + ms.length)).toArray) :=
        ⟨k.mono (fun q hq => by simp at hq; subst hq; exact .inl hgB), fun q hq => .inl hq⟩
      refine opw_run (run (some ⟨g, off, none⟩) _ (by rw [if_neg hco]; simp only [Option.map_some, Addr.add]; simp; intro h; exact h.symm) hst) (h _ _ (s.step mm (fun q hq => Nat.lt_of_lt_of_le (s.new q hq).2 k.size)) mm k ?_)
      subst hms
      refine ⟨(l.take off ++ m.take (l.length - off) ++ l.drop (off + m.length)).map fun x => [vB x], by simp, ⟨?_, .inr ⟨g, cap, (cur.toList.take off ++ (m.take (l.length - off)).map vB ++ cur.toList.drop (off + ((m.take (l.length - off)).map vB).length)).toArray, ?_, hbg, setRow_heap w g cur _ e _ hg, ?_, hm, ?_, ?_⟩⟩, fun i cs y hi hy => ?_⟩
      · rw [flat1]; simp [Enc.u8]
      · rw [← hl']
      · rw [← hl']; exact hnc
      · show _ = cap * 1
        simp; omega
      · rw [flat1, ← hl']
        show List.take (l.length * 1) _ = _
        have hcur : cur.toList.take l.length = l.map vB := by
          have := htk
          rw [hcss, flat1] at this
          simpa [Enc.u8] using this
        apply List.ext_getElem?
        intro i
        have hci : ∀ q, q < l.length → cur.toList[q]? = (l.map vB)[q]? := fun q hq => by
          rw [← hcur, List.getElem?_take, if_pos hq]
        simp only [Nat.mul_one, List.getElem?_take, List.map_append]
        by_cases hi : i < l.length
        · rw [if_pos hi]
          have hlen1 : (cur.toList.take off).length = off := by simp; omega
          have hlen2 : ((l.take off).map vB).length = off := by simp; omega
          rw [List.append_assoc, List.append_assoc]
          by_cases hi1 : i < off
          · rw [List.getElem?_append_left (by omega), List.getElem?_append_left (by omega), List.getElem?_take, if_pos hi1, hci i hi]
            simp [hi1]
          · rw [List.getElem?_append_right (l₁ := cur.toList.take off) (by omega), List.getElem?_append_right (l₁ := (l.take off).map vB) (by omega), hlen1, hlen2]
            by_cases hi2 : i - off < ((m.take (l.length - off)).map vB).length
            · rw [List.getElem?_append_left hi2, List.getElem?_append_left hi2]
            · rw [List.getElem?_append_right (by omega), List.getElem?_append_right (by omega)]
              have hlm : ((m.take (l.length - off)).map vB).length = m.length := by
                simp at hi2 ⊢; omega
              rw [hlm] at hi2 ⊢
              rw [List.getElem?_drop, List.getElem?_map, List.getElem?_drop, show off + m.length + (i - off - m.length) = i by omega, hci i hi, List.getElem?_map]
        · rw [if_neg hi, List.getElem?_eq_none]
          simp; omega
      · rw [List.getElem?_map] at hi
        rw [hy] at hi
        cases hi; rfl

/-! ### structures built -/
def placesB (P : Program) (t : TypeId) : Option (List (Nat × Nat)) :=
  match P.underlying t with
  | some (.struct fs) => fs.toList.mapM (fun f => (P.info? f.type).map fun i => (f.offset, i.size))
  | _ => none
def BuildOk (pl : List (Nat × Nat)) : List Value → List (Nat × Value × List Value) → List Value → Prop
  | cells, [], r => r = cells
  | cells, (i, v, cs) :: rest, r => ∃ off, pl[i]? = some (off, cs.length) ∧ v.cells = cs.toArray ∧ off + cs.length ≤ cells.length ∧ BuildOk pl (cells.take off ++ cs ++ cells.drop (off + cs.length)) rest r
theorem fill_ok {pl : List (Nat × Nat)} : ∀ (l : List (Nat × Value × List Value)) (cells r : List Value), BuildOk pl cells l r → Instr.fill (fun i => pl.toArray[i]?) cells.toArray (l.map fun q => (q.1, q.2.1)) = some r.toArray
  | [], cells, r, h => by
    have h : r = cells := h
    subst h; simp [Instr.fill]
  | (i, v, cs) :: rest, cells, r, ⟨off, h1, h2, h3, h4⟩ => by
    rw [List.map_cons, fill_one (cs := cs) (off := off) (by simpa using h1) h2 (by simpa using h3)]
    exact fill_ok rest _ r (by simpa using h4)
theorem o_build {t : TypeId} {pl : List (Nat × Nat)} {zs : List Value} {l : List (Nat × Operand)} {ps : Array (Nat × Operand)} (hp : placesB P t = some pl) (hz : zeroT P t = some (.agg zs.toArray)) (hps : ps = l.toArray)
    (L : List (Nat × Value × List Value)) (cs : List Value) (hv : l.map (fun p => (p.1, evF F p.2)) = L.map fun q => (q.1, q.2.1)) (hb : BuildOk pl zs L cs) (h : K (.agg cs.toArray) w) : OpW P (.build t ps) ty F w K Z := by
  refine opw_run (v := .agg cs.toArray) ?_ h
  have hbuilt : P.built t (ps.map fun p => (p.1, evF F p.2)).toList = some cs.toArray := by
    unfold zeroT at hz
    obtain ⟨i, hi, hzz⟩ := Option.bind_eq_some_iff.1 hz
    unfold placesB at hp
    unfold Program.built
    rw [hi]
    cases hu : P.underlying t with
    | none => rw [hu] at hp; cases hp
    | some D =>
      rw [hu] at hp
      cases D <;> simp only at hp <;> try cases hp
      case struct fs =>
        simp only [hzz, hp]
        subst hps
        have := fill_ok L zs cs hb
        rw [← hv] at this
        simpa [Value.cells] using this
  simp [execOp, run_build w t _ _ hbuilt]

/-! ### results -/
section
variable {fn : Func} {n : Nat}
/-- A result, a structure that lies in a cell. -/
theorem rescA {t T b o T0 : Nat} {D : TypeDesc} {cs vs : List Value} (hres : fn.results = #[.cell t T]) (ht : Nat.blt t n = true) (hT : P.underlying T = some D) (hD : notAgg D = false) (hs : sizeT P T = some vs.length) (hx : F t = .pointer (some ⟨b, o, none⟩)) (hb : Box w b T0 cs) (hv : (cs.drop o).take vs.length = vs) : (results fn (mk n F).tmps).run P w = .ok (.agg vs.toArray) w := by
  have := mk_get n F t (blt ht)
  have h3 : (loadVar T ⟨b, o, none⟩).run P w = .ok (.agg vs.toArray) w := by
    have h := run_loadA (P := P) (w := w) hT hD (a := ⟨b, o, none⟩) hs (fun j v hj => by
      rw [add0, hb.cell, ← hj, ← hv, List.getElem?_take]
      have : j < vs.length := (List.getElem?_eq_some_iff.1 hj).1
      rw [if_pos this, List.getElem?_drop])
    simpa [Instr.loadAt, run_sureAddr] using h
  simp [results, hres, Array.getD_eq_getD_getElem?, this, hx, asAddr, h3]
end
end
end Go.Fw
