/- Operations that few functions need. -/
import Derived.Test.YtjpniibleelgiaaFwT
set_option linter.unusedSimpArgs false
set_option linter.unusedVariables false
namespace Go.Fw
section
variable {P : Program} {w : World} {F : Fr} {K : Value → World → Prop} {Z : List PanicEntry → World → Prop} {ty : TypeId}
theorem o_compl8 {t : TypeId} {x : Operand} (a : UInt8) (hx : evF F x = vB a) (h : K (vB (a ^^^ 255)) w) : OpW P (.unOp .xor t x) ty F w K Z :=
  opw_run (by
    have e : Op.unary .xor (vB a) = Op.intBits .xor .u8 ((255 : UInt8).toNat : Int) (a.toNat : Int) := rfl
    have : (Op.intBits .xor .u8 ((255 : UInt8).toNat : Int) (a.toNat : Int)) = pure (vB (a ^^^ 255)) := by
      rw [UInt8.xor_comm]
      show pure (Value.int .u8 (IntKind.u8.wrap ((BitVec.ofInt 8 ((255 : UInt8).toNat : Int) ^^^ BitVec.ofInt 8 (a.toNat : Int)).toNat : Int))) = _
      rw [bv_u8, bv_u8, ← UInt8.toBitVec_xor]
      exact congrArg pure (congrArg (Value.int .u8) (u8_wrap _))
    simp only [execOp, hx, e, this]; rfl) h
end
open Go.RowKit
section
variable {P : Program} {ty : TypeId} {F : Fr} {w w0 : World} {O0 B : List Nat} {K : Value → World → Prop} {Z : List PanicEntry → World → Prop} {x y : Operand}
/-- A literal whose cells lie in w, and whose elements read in an elder world u. -/
def RdN {α : Type} (E : Enc α) (u : World) (O : List Nat) (w : World) (v : Value) (l : List α) : Prop :=
  ∃ (A : Addr) (c : Nat), v = .slice (some A) l.length c ∧ l.length ≤ c ∧ c ≤ maxLen ∧ ∃ css : List (List Value), css.length = l.length ∧ (∀ (j : Nat) (cs : List Value) (y : α), css[j]? = some cs → l[j]? = some y → E.rd u O cs y) ∧ ∀ (j : Nat) (q : Value), css.flatten[j]? = some q → w.cell? (A.add j) = some q
theorem RdN.keep {α : Type} {E : Enc α} {u : World} {O : List Nat} {w w' : World} {v : Value} {l : List α} (h : RdN E u O w v l) (k : Keep [] w w') : RdN E u O w' v l := by
  obtain ⟨A, c, h1, h2, h3, css, h4, h5, h6⟩ := h
  exact ⟨A, c, h1, h2, h3, css, h4, h5, fun j q hq => cell_old k (h6 j q hq)⟩
theorem o_litN {α : Type} {E : Enc α} {u : World} {O : List Nat} {t e n : Nat} {z : Value} {ps : Array (Nat × Operand)} {xs : List Operand} (ht : P.underlying t = some (.slice e)) (hs : sizeT P e = some E.size) (hz : zeroT P e = some z) (hpos : 0 < E.size)
    (vs : List Value) (css : List (List Value)) (l : List α) (hps : ps = ((xs.zipIdx 0).map fun p => (p.2, p.1)).toArray) (hv : xs.map (evF F) = vs) (hn : n = l.length) (hp : Parts E u O vs css l) (hsmall : l.length * E.size ≤ 16777216)
    (h : ∀ v w', Keep [] w w' → RdN E u O w' v l → K v w') : OpW P (.buildSlice t n ps) ty F w K Z := by
  have hr := run_lit (P := P) (w := w) ht hs hz hpos vs css (by rw [hp.lv, hp.lc]) (fun i v cs h1 h2 => ⟨hp.cells i v cs h1 h2, by
    have hi : i < l.length := by rw [← hp.lc]; exact (List.getElem?_eq_some_iff.1 h2).1
    exact E.len (hp.rd i cs l[i] h2 (List.getElem?_eq_getElem hi))⟩) (by rw [hp.lv]; exact hsmall)
  rw [hp.lv] at hr
  subst hps; subst hn
  refine opw_run (v := .slice (some ⟨w.heap.size, 0, none⟩) l.length l.length) (w' := w.alloc (.cells css.flatten.toArray e)) (by simp only [execOp, parts_map F xs vs hv]; simp [hr]) (h _ _ (Keep.alloc _ _ _) ?_)
  refine ⟨⟨w.heap.size, 0, none⟩, l.length, rfl, Nat.le_refl _, by simp only [maxLen]; have : l.length ≤ l.length * E.size := Nat.le_mul_of_pos_right _ hpos; omega, css, hp.lc, fun j cs y h1 h2 => hp.rd j cs y h1 h2, fun j q hq => ?_⟩
  rw [add0, Nat.zero_add, (Box.new w e css.flatten).cell]; exact hq
/-- The literal '[]T{}'. -/
theorem o_emp {α : Type} (E : Enc α) {t e n : Nat} {z : Value} {ps : Array (Nat × Operand)} (ht : P.underlying t = some (.slice e)) (hs : sizeT P e = some E.size) (hz : zeroT P e = some z) (hpos : 0 < E.size) (hps : ps = #[]) (hn : n = 0)
    (h : ∀ (A : Addr) w', Keep [] w w' → K (.slice (some A) 0 0) w') : OpW P (.buildSlice t n ps) ty F w K Z := by
  subst hps; subst hn
  exact opw_run (run_litF (P := P) (w := w) (O := []) (xs := []) (E := E) ht hs hz hpos [] [] [] rfl rfl rfl (Parts.nil E w []) (by simp)) (h _ _ (Keep.alloc _ _ _))
theorem o_appendEmp {α : Type} {E : Enc α} {t e : Nat} {z : Value} {bytes : Nat} {u : Value} {m : List α} {O' : List Nat} (b : Addr) (hm : 0 < m.length) (ht : P.underlying t = some (.slice e)) (hi : (P.info? e).map (fun i => (i.zero, i.size, i.bytes)) = some (some z, E.size, bytes)) (hzs : z.cells.size = E.size) (hpos : 0 < E.size)
    (hx : evF F x = .slice (some b) 0 0) (hy : evF F y = u) (hu : RdL E w O' u m) (hO' : ∀ b ∈ B ++ O0, b ∈ O' ∨ w.heap.size ≤ b) (hlen : m.length * bytes ≤ 140737488355328) (hlm : m.length ≤ maxLen) (s : St w0 O0 w B)
    (h : ∀ v' w' B', (∀ b, v'.ownBlock = some b → b ∈ B') → (v'.ownBlock = none ∨ v'.ownBlock = some w.heap.size) → (∀ b ∈ B, b ∈ B') → St w0 O0 w' B' → Mv B w B' w' → Keep [] w w' → Own E e w0.heap.size (B' ++ O0) w' v' m → K v' w') :
    OpW P (.call { callee := .builtin .append, args := #[x, y], argTypes := #[t, t] }) ty F w K Z := by
  have hn := o_append (P := P) (ty := ty) (F := F) (w := w) (w0 := w0) (O0 := O0) (B := B) (K := K) (Z := Z) (x := .const (.slice none 0 0)) (y := .const u) (v := .slice none 0 0) (E := E) (l := ([] : List α)) (m := m) (O' := O') ht hi hzs hpos rfl rfl (Own.nil E e _ _ _) hu hO' (fun b hb => absurd hb (by simp [Value.ownBlock])) (by simpa using hlen) (by simpa using hlm) s
    (fun v' w' B' h1 h2 h3 h4 h5 h6 h7 => h v' w' B' h1 h2 h3 h4 h5 h6 (by simpa using h7))
  obtain ⟨A, c, rfl, h4, h5, h6⟩ := hu
  obtain ⟨ad, cs0, hA, _, _⟩ := h6 0 m[0] (List.getElem?_eq_getElem hm)
  subst hA
  obtain ⟨i, hi1, hi2, hi3, hi4⟩ := info_parts hi
  unfold OpW at hn ⊢
  have e2 : (execOp (evF F) ⟨none, .call { callee := .builtin .append, args := #[x, y], argTypes := #[t, t] }, ty, "", #[], none⟩).run P w = (execOp (evF F) ⟨none, .call { callee := .builtin .append, args := #[.const (.slice none 0 0), .const (.slice (some ad) m.length c)], argTypes := #[t, t] }, ty, "", #[], none⟩).run P w := by
    have hrun : (Builtin.append_ #[t, t] ty #[.slice (some b) 0 0, .slice (some ad) m.length c]).run P w = (Builtin.append_ #[t, t] ty #[.slice none 0 0, .slice (some ad) m.length c]).run P w := by
      have hne : m ≠ [] := by intro h0; rw [h0] at hm; simp at hm
      have hn1 : ¬ (281474976710656 < m.length * i.bytes) := by rw [hi4]; omega
      simp [Builtin.append_, run_underlying ht, sizeOf, typeInfo, hi1, Builtin.lenOf, Builtin.firstCells, loadCells, loadCellsFrom, Builtin.nextslicecap, hm, hn1, hne]
    have ec : ∀ q, evF F (.const q) = q := fun _ => rfl
    simp [execOp, resolve, invoke, builtin, hx, hy, ec, hrun]
  rw [e2]; exact hn
theorem o_appendN {α : Type} {E : Enc α} {t e : Nat} {z : Value} {bytes : Nat} {v u : Value} {l m : List α} {O' : List Nat} {uw : World} (ht : P.underlying t = some (.slice e)) (hi : (P.info? e).map (fun i => (i.zero, i.size, i.bytes)) = some (some z, E.size, bytes)) (hzs : z.cells.size = E.size) (hpos : 0 < E.size)
    (hx : evF F x = v) (hy : evF F y = u) (ho : Own E e w0.heap.size (B ++ O0) w v l) (hu : RdN E uw O' w u m) (hav : ∀ cs y, E.rd uw O' cs y → E.rd w (B ++ O0) cs y) (hv : ∀ b, v.ownBlock = some b → b ∈ B) (hlen : (l.length + m.length) * bytes ≤ 140737488355328) (hlm : l.length + m.length ≤ maxLen) (s : St w0 O0 w B)
    (h : ∀ v' w' B', (∀ b, v'.ownBlock = some b → b ∈ B') → (v'.ownBlock = v.ownBlock ∨ v'.ownBlock = some w.heap.size) → (∀ b ∈ B, b ∈ B') → St w0 O0 w' B' → Mv B w B' w' → Keep v.ownBlock.toList w w' → Own E e w0.heap.size (B' ++ O0) w' v' (l ++ m) → K v' w') :
    OpW P (.call { callee := .builtin .append, args := #[x, y], argTypes := #[t, t] }) ty F w K Z := by
  obtain ⟨i, hi1, hi2, hi3, hi4⟩ := info_parts hi
  obtain ⟨css, h1, h2, h3⟩ := ho
  obtain ⟨ad, c, rfl, h4, h5, css', k1, k2, k3⟩ := hu
  have hlens' : ∀ cs ∈ css', cs.length = E.size := Own.lens k1 k2
  have hones : ∀ u ∈ css'.flatten, u.oneCell' = true := by
    intro u hu
    obtain ⟨cs, hcs, hucs⟩ := List.mem_flatten.1 hu
    obtain ⟨j, hj, rfl⟩ := List.getElem_of_mem hcs
    exact E.one (k2 j _ m[j] (List.getElem?_eq_getElem hj) (List.getElem?_eq_getElem (by omega))) u hucs
  have hlen' : css'.flatten.length = m.length * E.size := by rw [flat_len css' hlens', k1]
  have fin : ∀ v' w' B', w'.ownsRow w0.heap.size e E.size v' (l.length + m.length) (css.flatten ++ css'.flatten) → Mv B w B' w' → Own E e w0.heap.size (B' ++ O0) w' v' (l ++ m) := by
    intro v' w' B' hr hmv
    refine ⟨css ++ css', by simp [h1, k1], by simpa using hr, fun j cs y hj hy => ?_⟩
    by_cases hjl : j < l.length
    · rw [List.getElem?_append_left (by omega)] at hj hy
      exact E.mv (h3 j cs y hj hy) hmv
    · rw [List.getElem?_append_right (by omega)] at hj hy
      rw [h1] at hj
      exact E.mv (hav _ _ (k2 _ cs y hj hy)) hmv
  have step : ∀ v' w', (Builtin.append_ #[t, t] ty #[v, .slice (some ad) m.length c]).run P w = .ok v' w' → w'.ownsRow w0.heap.size e E.size v' (l.length + m.length) (css.flatten ++ css'.flatten) → w.grownBy w' v.ownBlock → (v'.ownBlock = v.ownBlock ∨ v'.ownBlock = some w.heap.size) →
      OpW P (.call { callee := .builtin .append, args := #[x, y], argTypes := #[t, t] }) ty F w K Z := by
    intro v' w' hr hown hg hat
    have hk : Keep v.ownBlock.toList w w' := Keep.of_grown hg
    have hB : Keep B w w' := hk.mono (fun b hb => .inl (hv b (by simpa using hb)))
    have hown' := hown.lt
    rcases hat with hat | hat
    · have mv : Mv B w B w' := ⟨hB, fun b hb => .inl hb⟩
      exact opw_run (v := v') (w' := w') (by simp [execOp, resolve, invoke, builtin, hx, hy, hr]) (h v' w' B (fun b hb => hv b (by rw [← hat]; exact hb)) (.inl hat) (fun b hb => hb) (s.step mv (fun b hb => Nat.lt_of_lt_of_le (s.new b hb).2 hk.size)) mv hk (fin v' w' B hown mv))
    · have mv : Mv B w (w.heap.size :: B) w' := ⟨hB, fun b hb => by rcases List.mem_cons.1 hb with h | h; exact .inr (by omega); exact .inl h⟩
      exact opw_run (v := v') (w' := w') (by simp [execOp, resolve, invoke, builtin, hx, hy, hr]) (h v' w' (w.heap.size :: B) (fun b hb => by rw [hat] at hb; cases hb; simp) (.inr hat) (fun b hb => by simp [hb])
        (s.step mv (fun b hb => by
          rcases List.mem_cons.1 hb with h | h
          · subst h; exact (hown' _ hat).2
          · exact Nat.lt_of_lt_of_le (s.new b h).2 hk.size)) mv hk (fin v' w' _ hown mv))
  obtain ⟨v', w', hr, g1, g2, _, g4⟩ := run_append_own_at (P := P) w w0.heap.size t ty e i z E.size bytes ht hi1 hi2 hi3 hi4 hzs hpos v l.length css.flatten h2 ad m.length c css'.flatten hlen' k3 hones hlm hlen s.keep.size
  exact step v' w' hr g1 g2 g4
theorem o_appendEmpO {α : Type} {E : Enc α} {t e : Nat} {z : Value} {bytes : Nat} {u : Value} {m : List α} {O' : List Nat} (b : Addr) (hm : 0 < m.length) (ht : P.underlying t = some (.slice e)) (hi : (P.info? e).map (fun i => (i.zero, i.size, i.bytes)) = some (some z, E.size, bytes)) (hzs : z.cells.size = E.size) (hpos : 0 < E.size)
    (hx : evF F x = .slice (some b) 0 0) (hy : evF F y = u) (hu : RdL E w O' u m) (hO' : ∀ b ∈ B ++ O0, b ∈ O' ∨ w.heap.size ≤ b) (hlen : m.length * bytes ≤ 140737488355328) (hlm : m.length ≤ maxLen) (s : St w0 O0 w B)
    (h : ∀ v b w', b = w.heap.size → v.ownBlock = some b → St w0 O0 w' (b :: B) → Mv B w (b :: B) w' → Keep [] w w' → Own E e w0.heap.size ((b :: B) ++ O0) w' v m → K v w') :
    OpW P (.call { callee := .builtin .append, args := #[x, y], argTypes := #[t, t] }) ty F w K Z := by
  refine o_appendEmp b hm ht hi hzs hpos hx hy hu hO' hlen hlm s fun v' w' B' h1 h2 h3 h4 h5 h6 h7 => ?_
  have hsome : v'.ownBlock = some w.heap.size := by
    rcases h2 with h2 | h2
    · obtain ⟨css, _, hr, _⟩ := h7
      rcases hr.2 with ⟨_, h0⟩ | ⟨g, cap, cur, rfl, _⟩
      · omega
      · simp [Value.ownBlock] at h2
    · exact h2
  have hlt := (h7.lt _ hsome).2
  refine h v' w.heap.size w' rfl hsome ((s.call h6).adopt s.keep.size hlt) (Mv.adopt h6 (Nat.le_refl _)) h6 ?_
  obtain ⟨css, a1, a2, a3⟩ := h7
  refine ⟨css, a1, a2, fun i cs y q1 q2 => E.sub (a3 i cs y q1 q2) fun c hc => ?_⟩
  rcases List.mem_append.1 hc with hc | hc
  · rcases List.mem_cons.1 hc with rfl | hc
    · exact .inl (List.mem_append_left _ (h1 _ hsome))
    · exact .inl (List.mem_append_left _ (h3 _ hc))
  · exact .inl (List.mem_append_right _ hc)
end
end Go.Fw
