/- A region that draws its order: what its operations make falls into groups; each group's blocks are its own. Program-independent. -/
import Derived.Test.YtjpniibleelgiaaFwP
import Derived.Test.YtjpniibleelgiaaFwV
set_option linter.unusedSimpArgs false
set_option linter.unusedVariables false
namespace Go.Fw
open Go.RowKit

/-- What is known of a value, given the blocks that it does not read. -/
abbrev PrU := List Nat → Value → World → Prop
def prU (Ts : List PrU) (i : Nat) : PrU := (Ts[i]?).getD (fun _ _ _ => True)
/-- Of an operation: its group (0: none); the groups that it reads; those that it takes over; the operations whose values are lost by it; whether it writes; the operations whose values it uses. -/
structure Gr where
  g : Nat
  rs : List Nat
  hs : List Nat
  kills : List Nat
  wr : Bool
  uses : List Nat
def grU (G : List Gr) (i : Nat) : Gr := (G[i]?).getD ⟨0, [], [], [], false, []⟩
def aliveB (G : List Gr) (m i : Nat) : Bool := (List.range m).all fun q => !(grU G q).kills.contains i
theorem nbf {a b : Nat} : Nat.beq a b = false ↔ a ≠ b := by
  constructor
  · intro h e; subst e; rw [Nat.beq_refl] at h; cases h
  · intro h
    cases hb : Nat.beq a b with
    | false => rfl
    | true => exact absurd (Nat.eq_of_beq_eq_true hb) h
def avo (lab : Nat → Nat) (base size g : Nat) : List Nat := (List.range size).filter fun b => Nat.ble base b && !Nat.beq (lab b) g
theorem mem_avo {lab : Nat → Nat} {base size g b : Nat} : b ∈ avo lab base size g ↔ b < size ∧ base ≤ b ∧ lab b ≠ g := by
  unfold avo; simp [List.mem_filter, nbf]
def groupsOk (ops : List Oper) (m : Nat) (G : List Gr) : Bool :=
  (List.range m).all fun i => let r := grU G i
    (Nat.beq r.g 0 || r.rs.all (fun x => Nat.beq x r.g || r.hs.contains x)) && (!r.wr || !Nat.beq r.g 0) && (!Nat.beq r.g 0 || r.hs.isEmpty) && !r.hs.contains r.g && !r.hs.contains 0 &&
    (List.range m).all (fun q => Nat.beq q i || Nat.beq (grU G q).g 0 || r.kills.contains q || waitsB ops q i || (!r.hs.contains (grU G q).g && (!r.wr || !Nat.beq (grU G q).g r.g))) &&
    r.uses.all (fun j => Nat.blt j m && (aft ops i).contains j && (Nat.beq (grU G j).g 0 || r.rs.contains (grU G j).g) && (List.range m).all (fun q => Nat.beq q i || !(grU G q).kills.contains j || waitsB ops q i))
def StabU : List PrU → List Gr → Prop
  | T :: Ts, r :: G => (bif Nat.beq r.g 0 then (∀ B B' v w w', T B v w → T B' v w') else (∀ B B' v w w', T B v w → Mv B w B' w' → T B' v w')) ∧ StabU Ts G
  | _, _ => True
theorem StabU.at_ : ∀ {Ts : List PrU} {G : List Gr}, StabU Ts G → G.length = Ts.length → ∀ i, (bif Nat.beq (grU G i).g 0 then (∀ B B' v w w', prU Ts i B v w → prU Ts i B' v w') else (∀ B B' v w w', prU Ts i B v w → Mv B w B' w' → prU Ts i B' v w'))
  | [], [], _, _, i => by simp only [grU, prU, List.getElem?_nil, Option.getD_none]; exact fun _ _ _ _ _ _ => trivial
  | T :: Ts, r :: G, h, hl, 0 => h.1
  | T :: Ts, r :: G, h, hl, i + 1 => StabU.at_ h.2 (by simpa using hl) i
  | [], _ :: _, _, h, _ => by simp at h
  | _ :: _, [], _, h, _ => by simp at h

section
variable {P : Program} {n : Nat} {Q : Exit → Fr → World → Prop}
def OpSpecU (P : Program) (ops : List Oper) (m : Nat) (Ts : List PrU) (G : List Gr) (F : Fr) (w : World) (B : List Nat) (i : Nat) (o : Oper) (T : PrU) : Prop :=
  ∀ F1 w1 (B1 : List Nat) (Bs : Nat → List Nat), Keep [] w w1 → (∀ b ∈ B, b ∈ B1) → (∀ b ∈ B1, b ∈ B ∨ (w.heap.size ≤ b ∧ b < w1.heap.size)) → (∀ g, (grU G i).rs.contains g = true → ∀ b ∈ B1, b ∈ Bs g) → (∀ g h b, Nat.beq g h = false → w.heap.size ≤ b → b < w1.heap.size → b ∉ Bs g → b ∈ Bs h) → (∀ t, freeAt ops i t = true → F1 t = F t) →
    (∀ j d, (grU G i).uses.contains j = true → depAt' ops j d = true → prU Ts j (Bs (grU G j).g) (F1 d) w1) →
    (Region.wanted o (yieldF ops F1) = true → OpW P o.op o.type F1 w1 (fun v w2 => ∃ C, Keep C w1 w2 ∧ (∀ b ∈ C, (grU G i).wr = true ∧ w.heap.size ≤ b ∧ b < w1.heap.size ∧ b ∉ B1) ∧ T B1 v w2) (fun _ _ => False)) ∧
    (Region.wanted o (yieldF ops F1) = false → T B1 undef w1)
def SpecsU (P : Program) (ops : List Oper) (m : Nat) (Ts : List PrU) (G : List Gr) (F : Fr) (w : World) (B : List Nat) : Nat → List Oper → List PrU → Prop
  | i, o :: r, T :: R => OpSpecU P ops m Ts G F w B i o T ∧ SpecsU P ops m Ts G F w B (i + 1) r R
  | _, _, _ => True
theorem SpecsU.at_ {ops : List Oper} {m : Nat} {Ts : List PrU} {G : List Gr} {F : Fr} {w : World} {B : List Nat} : ∀ (l : List Oper) (R : List PrU) (k i : Nat) (o : Oper) (T : PrU), SpecsU P ops m Ts G F w B k l R → l[i]? = some o → R[i]? = some T → OpSpecU P ops m Ts G F w B (k + i) o T
  | [], _, _, _, _, _, _, h, _ => by simp at h
  | _ :: _, [], _, _, _, _, _, _, h => by simp at h
  | o' :: l, T' :: R, k, 0, o, T, h, h1, h2 => by
    simp at h1 h2; subst h1; subst h2; exact h.1
  | o' :: l, T' :: R, k, i + 1, o, T, h, h1, h2 => by
    have := SpecsU.at_ l R (k + 1) i o T h.2 (by simpa using h1) (by simpa using h2)
    rwa [show k + 1 + i = k + (i + 1) by omega] at this

structure UInv (ops : List Oper) (m : Nat) (Ts : List PrU) (G : List Gr) (F : Fr) (w : World) (B : List Nat) (listed : Array Bool) (F1 : Fr) (w1 : World) : Prop where
  keep : Keep [] w w1
  down : ∀ i, listed[i]? = some true → ∀ j ∈ aft ops i, listed[j]? = some true
  free : ∀ (t : Tmp), (∀ (j : Nat) (o : Oper), listed[j]? = some true → ops[j]? = some o → o.dst ≠ some t) → F1 t = F t
  fact : ∃ lab : Nat → Nat, ∀ (i : Nat) (o : Oper) (d : Tmp), i < m → listed[i]? = some true → (∀ q, q < m → listed[q]? = some true → i ∉ (grU G q).kills) → ops[i]? = some o → o.dst = some d → prU Ts i (avo lab w.heap.size w1.heap.size (grU G i).g ++ B) (F1 d) w1
theorem Keep.behind {a b c : World} {C : List Nat} (h : Keep [] a b) (k : Keep C b c) (hC : ∀ x ∈ C, a.heap.size ≤ x) : Keep [] a c :=
  ⟨k.os.trans h.os, k.tape.trans h.tape, k.output.trans h.output, Nat.le_trans h.size k.size, fun i hi ho => (k.block i (Nat.lt_of_lt_of_le hi h.size) (fun hc => by have := hC i hc; omega)).trans (h.block i hi ho)⟩

theorem stepU {ops : List Oper} {F : Fr} {w : World} {m : Nat} {Ts : List PrU} {G : List Gr} {B : List Nat} (hdo : ∀ (i j : Nat) (oi oj : Oper), i < m → j < m → i ≠ j → ops[i]? = some oi → ops[j]? = some oj → oi.dst ≠ none → oi.dst ≠ oj.dst)
    (hTl : Ts.length = m) (hGl : G.length = Ts.length) (hle : m ≤ ops.length) (hgr : groupsOk ops m G = true) (hst : StabU Ts G)
    (hs : SpecsU P ops m Ts G F w B 0 (ops.take m) Ts) {listed : Array Bool} {F1 : Fr} {w1 : World} {i : Nat} {o : Oper} (hsz : listed.size = ops.length) (hi : UInv ops m Ts G F w B listed F1 w1) (him : i < m) (ho : ops[i]? = some o) (hnl : listed[i]? = some false) (haft : ∀ j ∈ aft ops i, listed[j]? = some true) :
    (Region.wanted o (yieldF ops F1) = true → OpW P o.op o.type F1 w1 (fun v w2 => UInv ops m Ts G F w B (listed.setIfInBounds i true) (putF F1 o.dst v) w2) (fun _ _ => False)) ∧
    (Region.wanted o (yieldF ops F1) = false → UInv ops m Ts G F w B (listed.setIfInBounds i true) (putF F1 o.dst undef) w1) := by
  have hil : i < ops.length := by omega
  have hg := List.all_eq_true.1 hgr i (by simpa using him)
  simp only [Bool.and_eq_true] at hg
  obtain ⟨⟨⟨⟨⟨⟨g1, g2⟩, g3⟩, g4⟩, g5⟩, g6⟩, g7⟩ := hg
  generalize hr : grU G i = r at *
  have c1 : r.g ≠ 0 → ∀ x ∈ r.rs, x = r.g ∨ x ∈ r.hs := fun h0 x hx => by
    rcases (Bool.or_eq_true _ _).mp g1 with h | h
    · exact absurd (Nat.eq_of_beq_eq_true h) h0
    · have := List.all_eq_true.1 h x hx
      rcases (Bool.or_eq_true _ _).mp this with h | h
      · exact .inl (Nat.eq_of_beq_eq_true h)
      · exact .inr (by simpa using h)
  have c2 : r.wr = true → r.g ≠ 0 := fun h h0 => by rw [h, h0] at g2; simp at g2
  have c3 : r.g = 0 → r.hs = [] := fun h0 => by rw [h0] at g3; simpa using g3
  have c4 : r.g ∉ r.hs := by simpa using g4
  have c6 : ∀ q, q < m → q ≠ i → (grU G q).g ≠ 0 → q ∉ r.kills → waitsB ops q i = false → (grU G q).g ∉ r.hs ∧ (r.wr = true → (grU G q).g ≠ r.g) := fun q hq hqi h0 hk hwt => by
    have := List.all_eq_true.1 g6 q (by simpa using hq)
    simp only [Bool.or_eq_true, Bool.and_eq_true] at this
    rcases this with (((h | h) | h) | h) | h
    · exact absurd (Nat.eq_of_beq_eq_true h) hqi
    · exact absurd (Nat.eq_of_beq_eq_true h) h0
    · exact absurd (by simpa using h) hk
    · rw [hwt] at h; cases h
    · exact ⟨by simpa using h.1, fun hw e => by rw [hw, e] at h; simp at h⟩
  have c7 : ∀ j ∈ r.uses, j < m ∧ j ∈ aft ops i ∧ ((grU G j).g ≠ 0 → (grU G j).g ∈ r.rs) ∧ ∀ q, q < m → q ≠ i → j ∈ (grU G q).kills → waitsB ops q i = true := fun j hj => by
    have := List.all_eq_true.1 g7 j hj
    simp only [Bool.and_eq_true] at this
    obtain ⟨⟨⟨h1, h2⟩, h3⟩, h4⟩ := this
    refine ⟨blt h1, by simpa using h2, fun h0 => ?_, fun q hq hqi hk => ?_⟩
    · rcases (Bool.or_eq_true _ _).mp h3 with h | h
      · exact absurd (Nat.eq_of_beq_eq_true h) h0
      · simpa using h
    · have := List.all_eq_true.1 h4 q (by simpa using hq)
      simp only [Bool.or_eq_true] at this
      rcases this with (h | h) | h
      · exact absurd (Nat.eq_of_beq_eq_true h) hqi
      · exact absurd hk (by simpa using h)
      · exact h
  obtain ⟨lab, hfact⟩ := hi.fact
  -- what the operation does not read
  have hL : ∃ L : List Nat, ∀ b, b ∈ L ↔ (b < w1.heap.size ∧ w.heap.size ≤ b ∧ lab b ≠ r.g ∧ lab b ∉ r.hs ∧ lab b ∉ r.rs) :=
    ⟨(List.range w1.heap.size).filter fun b => Nat.ble w.heap.size b && !Nat.beq (lab b) r.g && !r.hs.contains (lab b) && !r.rs.contains (lab b), fun b => by simp [List.mem_filter, and_assoc, nbf]⟩
  obtain ⟨L, hL⟩ := hL
  have hstab : ∀ j, (grU G j).g ≠ 0 → ∀ B B' v w w', prU Ts j B v w → Mv B w B' w' → prU Ts j B' v w' := fun j h0 => by
    have := hst.at_ hGl j
    cases hb : Nat.beq (grU G j).g 0 with
    | true => exact absurd (Nat.eq_of_beq_eq_true hb) h0
    | false => rw [hb] at this; exact this
  have hstat : ∀ j, (grU G j).g = 0 → ∀ B B' v w w', prU Ts j B v w → prU Ts j B' v w' := fun j h0 => by
    have := hst.at_ hGl j
    rw [h0] at this; exact this
  have dep : ∀ (j d : Nat), depAt' ops j d = true → ∃ oj, ops[j]? = some oj ∧ oj.dst = some d := fun j d h => by
    unfold depAt' at h
    cases ho : ops[j]? with
    | none => rw [ho] at h; cases h
    | some o =>
      rw [ho] at h
      simp only [Option.bind_some] at h
      cases hd' : o.dst with
      | none => rw [hd'] at h; cases h
      | some e =>
        rw [hd'] at h
        have := Nat.eq_of_beq_eq_true h
        subst this
        exact ⟨o, rfl, hd'⟩
  have hT : Ts[i]? = some Ts[i] := List.getElem?_eq_getElem (by omega)
  have hTi : prU Ts i = Ts[i] := by unfold prU; rw [hT]; rfl
  have hcl : ∀ q j, listed[q]? = some true → waitsB ops q j = true → listed[j]? = some true := fun q j hq hj => by
    unfold waitsB at hj
    exact grow_sub (D := fun j => listed[j]? = some true) hi.down _ _ (hi.down q hq) j (by simpa using hj)
  have hsp := hs.at_ (ops.take m) Ts 0 i o Ts[i] (by rw [List.getElem?_take, if_pos him]; exact ho) hT
  rw [Nat.zero_add] at hsp
  have hsep : ∀ g h b, Nat.beq g h = false → w.heap.size ≤ b → b < w1.heap.size → b ∉ avo lab w.heap.size w1.heap.size g ++ B → b ∈ avo lab w.heap.size w1.heap.size h ++ B := fun g h b hgh h1 h2 hb => by
    refine List.mem_append_left _ (mem_avo.2 ⟨h2, h1, fun e => ?_⟩)
    refine hb (List.mem_append_left _ (mem_avo.2 ⟨h2, h1, fun e' => ?_⟩))
    rw [← e', e, Nat.beq_refl] at hgh; cases hgh
  have hsp := hsp F1 w1 (L ++ B) (fun g => avo lab w.heap.size w1.heap.size g ++ B) hi.keep (fun b hb => List.mem_append_right _ hb) (fun b hb => by
      rcases List.mem_append.1 hb with h | h
      · exact .inr ⟨((hL b).1 h).2.1, ((hL b).1 h).1⟩
      · exact .inl h) (fun g hg b hb => by
      rw [hr] at hg
      have hg : g ∈ r.rs := by simpa using hg
      rcases List.mem_append.1 hb with h | h
      · obtain ⟨a1, a2, a3, a4, a5⟩ := (hL b).1 h
        exact List.mem_append_left _ (mem_avo.2 ⟨a1, a2, fun e => a5 (by rw [e]; exact hg)⟩)
      · exact List.mem_append_right _ h) hsep (fun t ht => hi.free t (fun j oj hj hoj => by
        intro e
        unfold freeAt at ht
        have h1 := List.all_eq_true.1 ht j (by simp; exact (List.getElem?_eq_some_iff.1 hoj).1)
        rw [hoj] at h1
        simp only [e, Bool.or_eq_true, List.contains_iff_mem] at h1
        rcases h1 with h1 | h1
        · simp at h1
        · have := hi.down j hj i h1
          rw [hnl] at this; cases this)) (fun j d hj hdep => by
        rw [hr] at hj
        have hj : j ∈ r.uses := by simpa using hj
        obtain ⟨hjm, hja, hjr, hjk⟩ := c7 j hj
        obtain ⟨oj, hoj, hdj⟩ := dep j d hdep
        have hf := hfact j oj d hjm (haft j hja) (fun q hq hql hk => by
          by_cases hqi : q = i
          · subst hqi; rw [hnl] at hql; cases hql
          · have := hcl q i hql (hjk q hq hqi hk)
            rw [hnl] at this; cases this) hoj hdj
        exact hf)
  have hdist : ∀ (j : Nat) (oj : Oper), j < m → j ≠ i → ops[j]? = some oj → oj.dst ≠ none → oj.dst ≠ o.dst := fun j oj hj hji hoj hne => hdo j i oj o hj him hji hoj ho hne
  have hset : ∀ (j : Nat), (listed.setIfInBounds i true)[j]? = some true → j = i ∨ listed[j]? = some true := by
    intro j hj
    by_cases hji : j = i
    · exact .inl hji
    · rw [Array.getElem?_setIfInBounds, if_neg (fun e => hji e.symm)] at hj; exact .inr hj
  have hmono : ∀ (j : Nat), listed[j]? = some true → (listed.setIfInBounds i true)[j]? = some true := by
    intro j hj
    rw [Array.getElem?_setIfInBounds]
    split
    · rename_i e; subst e
      have : i < listed.size := by omega
      simp [this]
    · exact hj
  have hself : (listed.setIfInBounds i true)[i]? = some true := by
    rw [Array.getElem?_setIfInBounds, if_pos rfl, if_pos (by omega)]
  have use : ∀ v w2, (∃ C, Keep C w1 w2 ∧ (∀ b ∈ C, r.wr = true ∧ w.heap.size ≤ b ∧ b < w1.heap.size ∧ b ∉ L ++ B) ∧ Ts[i] (L ++ B) v w2) → UInv ops m Ts G F w B (listed.setIfInBounds i true) (putF F1 o.dst v) w2 := by
    rintro v w2 ⟨C, hk, hC, hv⟩
    rw [← hTi] at hv
    refine ⟨hi.keep.behind hk (fun x hx => (hC x hx).2.1), fun j hj q hq => ?_, fun t ht => ?_, fun b => if b < w1.heap.size then (if lab b ∈ r.hs then r.g else lab b) else r.g, fun q oq d hqm hql hqk hoq hd => ?_⟩
    · rcases hset j hj with rfl | hj
      · exact hmono q (haft q hq)
      · exact hmono q (hi.down j hj q hq)
    · have h1 : o.dst ≠ some t := ht i o hself ho
      have h2 : F1 t = F t := hi.free t (fun j oj hj hoj => ht j oj (hmono j hj) hoj)
      cases hod : o.dst with
      | none => exact h2
      | some d' =>
        show upd F1 d' v t = F t
        rw [upd_ne _ _ _ (fun e => h1 (by rw [hod, e]))]; exact h2
    · by_cases hqi : q = i
      · subst hqi
        rw [ho] at hoq; cases hoq
        have e : putF F1 o.dst v d = v := by rw [hd]; exact upd_same _ _ _
        rw [e, hr]
        by_cases h0 : r.g = 0
        · exact hstat q (by rw [hr]; exact h0) _ _ _ _ _ hv
        · refine hstab q (by rw [hr]; exact h0) _ _ _ _ _ hv ⟨Keep.refl _ _, fun b hb => .inl ?_⟩
          rcases List.mem_append.1 hb with h | h
          · obtain ⟨a1, a2, a3⟩ := mem_avo.1 h
            by_cases hb1 : b < w1.heap.size
            · rw [if_pos hb1] at a3
              by_cases hbh : lab b ∈ r.hs
              · rw [if_pos hbh] at a3; exact absurd rfl a3
              · rw [if_neg hbh] at a3
                refine List.mem_append_left _ ((hL b).2 ⟨hb1, a2, a3, hbh, fun hrs => ?_⟩)
                rcases c1 h0 _ hrs with h | h
                · exact a3 h
                · exact hbh h
            · rw [if_neg hb1] at a3; exact absurd rfl a3
          · exact List.mem_append_right _ h
      · have hql' : listed[q]? = some true := by rcases hset q hql with h | h; exact absurd h hqi; exact h
        have hf := hfact q oq d hqm hql' (fun x hx hxl => hqk x hx (hmono x hxl)) hoq hd
        have e : putF F1 o.dst v d = F1 d := by
          cases hod : o.dst with
          | none => rfl
          | some d' =>
            have hn : d ≠ d' := fun e => hdist q oq hqm hqi hoq (by rw [hd]; simp) (by rw [hd, hod, e])
            show upd F1 d' v d = F1 d
            rw [upd_ne _ _ _ hn]
        rw [e]
        by_cases h0 : (grU G q).g = 0
        · exact hstat q h0 _ _ _ _ _ hf
        · obtain ⟨b1, b2⟩ := c6 q hqm hqi h0 (by have := hqk i him hself; rwa [hr] at this) (by
            cases hwt : waitsB ops q i with
            | false => rfl
            | true => have := hcl q i hql' hwt; rw [hnl] at this; cases this)
          refine hstab q h0 _ _ _ _ _ hf ⟨hk.mono (fun b hb => .inl ?_), fun b hb => ?_⟩
          · obtain ⟨x1, x2, x3, x4⟩ := hC b hb
            refine List.mem_append_left _ (mem_avo.2 ⟨x3, x2, fun e => x4 (List.mem_append_left _ ((hL b).2 ⟨x3, x2, ?_, ?_, ?_⟩))⟩)
            · rw [e]; exact b2 x1
            · rw [e]; exact b1
            · rw [e]; intro hrs
              rcases c1 (c2 x1) _ hrs with h | h
              · exact b2 x1 h
              · exact b1 h
          · rcases List.mem_append.1 hb with h | h
            · obtain ⟨a1, a2, a3⟩ := mem_avo.1 h
              by_cases hb1 : b < w1.heap.size
              · rw [if_pos hb1] at a3
                refine .inl (List.mem_append_left _ (mem_avo.2 ⟨hb1, a2, fun e => a3 ?_⟩))
                rw [if_neg (by rw [e]; exact b1)]; exact e
              · exact .inr (by omega)
            · exact .inl (List.mem_append_right _ h)
  refine ⟨fun hw => ?_, fun hw => use undef w1 ⟨[], Keep.refl _ _, (fun _ h => by cases h), hsp.2 hw⟩⟩
  have h2 := hsp.1 hw
  rw [hr] at h2
  unfold OpW at h2 ⊢
  generalize (execOp (evF F1) ⟨none, o.op, o.type, "", #[], none⟩).run P w1 = rr at h2 ⊢
  cases rr with
  | ok x w' =>
    cases x <;> simp only [uponF] at h2 ⊢ <;> try exact h2.elim
    case value v => exact use _ _ h2
    case skip => exact use _ _ h2
    case enter f args =>
      exact Calls.mono h2 fun e w'' he => by
        cases e with
        | returned v => exact use _ _ he
        | panicked c => exact he.elim
        | outgrown => exact he.elim
  | halt x w' => cases x <;> simp only [uponF] at h2 ⊢ <;> exact h2.elim

/-- What is known behind the first part. -/
def FinU (ops : List Oper) (m : Nat) (Ts : List PrU) (G : List Gr) (F : Fr) (w : World) (B : List Nat) (ex : List Nat) (K : Fr → World → Prop) : Prop :=
  ∀ F1 w1 (Bs : Nat → List Nat), Keep [] w w1 → (∀ g, ∀ b ∈ B, b ∈ Bs g) → (∀ g, ∀ b ∈ Bs g, b ∈ B ∨ (w.heap.size ≤ b ∧ b < w1.heap.size)) → (∀ g h b, Nat.beq g h = false → w.heap.size ≤ b → b < w1.heap.size → b ∉ Bs g → b ∈ Bs h) →
    (∀ i d, depAt' ops i d = true → i < m → ex.contains i = false → aliveB G m i = true → prU Ts i (Bs (grU G i).g) (F1 d) w1) → (∀ t, outAt ops m t = true → F1 t = F t) → K F1 w1
theorem UInv.fin {ops : List Oper} {m : Nat} {Ts : List PrU} {G : List Gr} {F : Fr} {w : World} {B ex : List Nat} {K : Fr → World → Prop} {listed : Array Bool} {F1 : Fr} {w1 : World} (hi : UInv ops m Ts G F w.drew B listed F1 w1) (hall : ∀ i, i < m → ex.contains i = false → listed[i]? = some true) (hno : ∀ j, m ≤ j → listed[j]? ≠ some true) (fin : FinU ops m Ts G F w B ex K) : K F1 w1 := by
  obtain ⟨lab, hf⟩ := hi.fact
  refine fin F1 w1 (fun g => avo lab w.heap.size w1.heap.size g ++ B) ((Keep.drew [] w).trans hi.keep) (fun g b hb => List.mem_append_right _ hb) (fun g b hb => ?_) (fun g h b hgh h1 h2 hb => ?_) (fun i d hdp him hex hal => ?_) (fun t ht => hi.free t (fun j o hj ho e => ?_))
  · rcases List.mem_append.1 hb with h | h
    · exact .inr ⟨(mem_avo.1 h).2.1, (mem_avo.1 h).1⟩
    · exact .inl h
  · refine List.mem_append_left _ (mem_avo.2 ⟨h2, h1, fun e => ?_⟩)
    exact hb (List.mem_append_left _ (mem_avo.2 ⟨h2, h1, fun e' => by rw [← e', e, Nat.beq_refl] at hgh; cases hgh⟩))
  · unfold depAt' at hdp
    cases ho : ops[i]? with
    | none => rw [ho] at hdp; cases hdp
    | some o =>
      rw [ho] at hdp
      simp only [Option.bind_some] at hdp
      cases hd' : o.dst with
      | none => rw [hd'] at hdp; cases hdp
      | some e =>
        rw [hd'] at hdp
        have := Nat.eq_of_beq_eq_true hdp
        subst this
        refine hf i o e him (hall i him hex) (fun q hq _ => ?_) ho hd'
        have := List.all_eq_true.1 hal q (by simpa using hq)
        simpa using this
  · rcases Nat.lt_or_ge j m with h1 | h1
    · unfold outAt at ht
      have h3 := List.all_eq_true.1 ht o (List.mem_of_getElem? (by rw [List.getElem?_take, if_pos h1]; exact ho))
      rw [e] at h3; simp at h3
    · exact absurd hj (hno j h1)
theorem UInv.start {ops : List Oper} {m : Nat} {Ts : List PrU} {G : List Gr} {F : Fr} {w : World} {B : List Nat} : UInv ops m Ts G F w B (Array.replicate ops.length false) F w := by
  refine ⟨Keep.refl _ _, fun i hi => ?_, fun _ _ => rfl, fun _ => 0, fun i o d _ hi => ?_⟩ <;> simp_all [Array.getElem?_replicate]

/-- A region that draws its order; its values fall into groups. -/
theorem cw_drawU {id : Nat} {ops : List Oper} {F : Fr} {w : World} (m : Nat) (pre tl : List Oper) (Ts : List PrU) (G : List Gr) (B : List Nat) (hm : P.follows .mixedOrders = true) (hok : ops.all (okO n ops) = true) (hd : drawOk ops m = true) (hlen : (Nat.beq Ts.length m && Nat.beq G.length m && Nat.ble m ops.length) = true) (hgr : groupsOk ops m G = true)
    (hpre : ops.take m = pre) (htl : ops.drop m = tl) (hst : StabU Ts G) (hs : SpecsU P ops m Ts G F w.drew B 0 pre Ts)
    (fin : FinU ops m Ts G F w B [] (WL false P ops Q tl)) : CW P (ro := none) n (.region id ops.toArray true) Q F w := by
  subst hpre; subst htl
  simp only [Bool.and_eq_true] at hlen
  have hTl : Ts.length = m := Nat.eq_of_beq_eq_true hlen.1.1
  have hGl : G.length = Ts.length := by rw [hTl]; exact Nat.eq_of_beq_eq_true hlen.1.2
  have hle : m ≤ ops.length := Nat.le_of_ble_eq_true hlen.2
  have hdo := DOk.of hd
  have hdr : ({ w with drawn := w.drawn + 1 } : World) = w.drew := rfl
  refine wpIn_wide.2 (wp_region_any hm ?_)
  rw [hdr, List.size_toArray]
  refine draw_runG (UInv ops m Ts G F w.drew B) hdo hok hle (fun listed F1 w1 h => h.down) (fun listed F1 w1 i o hsz h him ho hnl haft => stepU (fun i j oi oj hi hj hij hoi hoj hne => hdo.dist i j oi oj hi hj hij hoi hoj hne) hTl hGl hle hgr hst hs hsz h him ho hnl haft)
    (fun listed F1 w1 hi hall hno => hi.fin (fun i him _ => hall i him) hno fin) ops.length _ F w.drew (by simp) ?_ (fun j _ => ?_) UInv.start
  · unfold unl; exact Nat.le_trans (List.countP_le_length) (by simp)
  · simp [Array.getElem?_replicate]
/-- The same, where operations of the first part may come behind operation m. -/
theorem cw_drawUL {id : Nat} {ops : List Oper} {F : Fr} {w : World} (m : Nat) (late : List Nat) (pre : List Oper) (om : Oper) (tl : List Oper) (Ts : List PrU) (G : List Gr) (B : List Nat) (hm : P.follows .mixedOrders = true) (hok : ops.all (okO n ops) = true) (hd : lateOk ops m late = true) (hlen : (Nat.beq Ts.length m && Nat.beq G.length m && Nat.ble m ops.length) = true) (hgr : groupsOk ops m G = true) (hnd : late.Nodup)
    (hpre : ops.take m = pre) (hom : ops[m]? = some om) (htl : seqOps ops (tailSeq ops m) = tl) (hst : StabU Ts G) (hs : SpecsU P ops m Ts G F w.drew B 0 pre Ts)
    (fin : FinU ops m Ts G F w B [] (WL false P ops Q (om :: tl))) (finL : ∀ c, c < late.length → FinU ops m Ts G F w B (late.drop c) (WL false P ops Q (om :: (seqOps ops (late.drop c) ++ tl)))) : CW P (ro := none) n (.region id ops.toArray true) Q F w := by
  subst hpre; subst htl
  simp only [Bool.and_eq_true] at hlen
  have hTl : Ts.length = m := Nat.eq_of_beq_eq_true hlen.1.1
  have hGl : G.length = Ts.length := by rw [hTl]; exact Nat.eq_of_beq_eq_true hlen.1.2
  have hle : m ≤ ops.length := Nat.le_of_ble_eq_true hlen.2
  have hdr : ({ w with drawn := w.drawn + 1 } : World) = w.drew := rfl
  have hd' := hd
  unfold lateOk at hd'
  simp only [Bool.and_eq_true] at hd'
  obtain ⟨⟨⟨⟨⟨⟨⟨⟨⟨d1, d2⟩, d3⟩, d4⟩, d5⟩, d6⟩, d7⟩, d8⟩, d9⟩, d10⟩ := hd'
  have hdist : ∀ (i j : Nat) (oi oj : Oper), i < m → j < m → i ≠ j → ops[i]? = some oi → ops[j]? = some oj → oi.dst ≠ none → oi.dst ≠ oj.dst := by
    intro i j oi oj hi hj hij hoi hoj hne
    have := List.all_eq_true.1 (List.all_eq_true.1 d1 i (by simpa using hi)) j (by simpa using hj)
    simp only [Bool.or_eq_true] at this
    rcases this with h5 | h5
    · exact absurd (Nat.eq_of_beq_eq_true h5) hij
    · rw [hoi, hoj] at h5
      intro e
      cases hd : oi.dst with
      | none => exact hne hd
      | some d =>
        rw [hd] at e
        simp only [Option.bind_some, hd, ← e] at h5
        simp at h5
  refine wpIn_wide.2 (wp_region_any hm ?_)
  rw [hdr, List.size_toArray]
  refine draw_runM (UInv ops m Ts G F w.drew B) hd hnd hok hom (fun listed F1 w1 h => h.down) (fun listed F1 w1 i o hsz h him ho hnl haft => stepU hdist hTl hGl hle hgr hst hs hsz h him ho hnl haft)
    (fun listed F1 w1 hi hall hno => hi.fin (fun i him _ => hall i him) hno fin) (fun c hc listed F1 w1 hi hall hno => hi.fin (fun i him hex => (hall i him).2 (by simpa using hex)) hno (finL c hc)) ops.length _ F w.drew (by simp) ?_ (fun j _ => ?_) UInv.start
  · unfold unl; exact Nat.le_trans (List.countP_le_length) (by simp)
  · simp [Array.getElem?_replicate]
/-! ### words of the specs -/
theorem noC {w w1 : World} {B1 : List Nat} {wr : Bool} : ∀ b ∈ ([] : List Nat), wr = true ∧ w.heap.size ≤ b ∧ b < w1.heap.size ∧ b ∉ B1 := fun _ h => by cases h
theorem St.adoptL {w0 w w' : World} {O0 B B1 : List Nat} (s : St w0 O0 w B) (k : Keep [] w w') (hl : ∀ b ∈ B1, b ∈ B ∨ (w.heap.size ≤ b ∧ b < w'.heap.size)) : St w0 O0 w' B1 :=
  ⟨(s.call k).keep, fun b hb => by
    rcases hl b hb with h | h
    · exact ⟨(s.new b h).1, Nat.lt_of_lt_of_le (s.new b h).2 k.size⟩
    · exact ⟨Nat.le_trans s.keep.size h.1, h.2⟩, s.old⟩
theorem Mv.adoptL {w w' : World} {B B1 : List Nat} (k : Keep [] w w') (hl : ∀ b ∈ B1, b ∈ B ∨ (w.heap.size ≤ b ∧ b < w'.heap.size)) : Mv B w B1 w' :=
  ⟨k.nil, fun b hb => (hl b hb).imp id (·.1)⟩
theorem Mv.at_ {w : World} {B B1 : List Nat} (h : ∀ b ∈ B1, b ∈ B) : Mv B w B1 w := ⟨Keep.refl _ _, fun b hb => .inl (h b hb)⟩
/-- A variable that the region has made. -/
def TBx (u : World) (t : TypeId) (cs : List Value) : PrU := fun B v w => ∃ b, v = .pointer (some ⟨b, 0, none⟩) ∧ u.heap.size ≤ b ∧ b ∉ B ∧ Box w b t cs
theorem TBx.st {u : World} {t : TypeId} {cs : List Value} : ∀ B B' v w w', TBx u t cs B v w → Mv B w B' w' → TBx u t cs B' v w' := fun B B' v w w' ⟨b, e, lo, hn, hb⟩ m =>
  ⟨b, e, lo, fun h => by rcases m.new b h with h1 | h1; exact hn h1; have := hb.lt; omega, hb.keep m.keep hn⟩
/-- A slice of one's own that the region has made (nil, or in a block of the region). -/
def TOw {α : Type} (u : World) (base : Nat) (O : List Nat) (E : Enc α) (e : TypeId) (l : List α) : PrU := fun B v w => (∀ b, v.ownBlock = some b → u.heap.size ≤ b ∧ b ∉ B) ∧ Own E e base ((v.ownBlock.toList ++ B) ++ O) w v l
theorem Mv.app {w w' : World} {B B' : List Nat} (m : Mv B w B' w') (L : List Nat) : Mv (L ++ B) w (L ++ B') w' :=
  ⟨m.keep.mono (fun x hx => .inl (List.mem_append_right _ hx)), fun x hx => by
    rcases List.mem_append.1 hx with h | h
    · exact .inl (List.mem_append_left _ h)
    · exact (m.new x h).imp (List.mem_append_right _) id⟩
theorem TOw.st {α : Type} {u : World} {base : Nat} {O : List Nat} {E : Enc α} {e : TypeId} {l : List α} : ∀ B B' v w w', TOw u base O E e l B v w → Mv B w B' w' → TOw u base O E e l B' v w' := fun B B' v w w' ⟨hb, ho⟩ m =>
  ⟨fun b h => ⟨(hb b h).1, fun h2 => by
    rcases m.new b h2 with h1 | h1
    · exact (hb b h).2 h1
    · have := (ho.lt b h).2; omega⟩, ho.mv (m.app _) m.keep (fun c hc => (hb c hc).2)⟩
/-- Read, by those that do not write it any more. -/
theorem TOw.rd {α : Type} {u : World} {base : Nat} {O : List Nat} {E : Enc α} {e : TypeId} {l : List α} {B : List Nat} {v : Value} {w : World} (h : TOw u base O E e l B v w) (hO : ∀ x ∈ O, x < u.heap.size) : RdL E w (B ++ O) v l := by
  refine h.2.rd (fun x hx => .inl ?_) (fun c hc hx => ?_)
  · rcases List.mem_append.1 hx with h1 | h1
    · exact List.mem_append_left _ (List.mem_append_right _ h1)
    · exact List.mem_append_right _ h1
  · rcases List.mem_append.1 hx with h1 | h1
    · exact (h.1 c hc).2 h1
    · have := hO _ h1; have := (h.1 c hc).1; omega
theorem TOw.one {α : Type} {u : World} {base b : Nat} {O B : List Nat} {E : Enc α} {e : TypeId} {l : List α} {v : Value} {w : World} (hb : v.ownBlock = some b) (lo : u.heap.size ≤ b) (hn : b ∉ B) (h : Own E e base ((b :: B) ++ O) w v l) : TOw u base O E e l B v w :=
  ⟨fun c hc => by rw [hb] at hc; cases hc; exact ⟨lo, hn⟩, by rw [hb]; exact h⟩
/-- What an append to one's own gives. -/
theorem TOw.grow {α : Type} {u w1 w2 : World} {base : Nat} {O B1 B' : List Nat} {E : Enc α} {e : TypeId} {l : List α} {v v' : Value} (hv : ∀ b, v.ownBlock = some b → u.heap.size ≤ b ∧ b ∉ B1) (hu : u.heap.size ≤ w1.heap.size) (hlt : ∀ x ∈ B1, x < w1.heap.size)
    (hat : ∀ b, v'.ownBlock = some b → v.ownBlock = some b ∨ w1.heap.size ≤ b) (h7 : Own E e base (B' ++ O) w2 v' l) (hB' : ∀ b, v'.ownBlock = some b → b ∈ B') (hsub : ∀ x ∈ v.ownBlock.toList ++ B1, x ∈ B') : TOw u base O E e l B1 v' w2 :=
  ⟨fun b hb => by
    rcases hat b hb with h | h
    · exact hv b h
    · exact ⟨by omega, fun hx => by have := hlt _ hx; omega⟩, h7.sub fun x hx => .inl (by
    rcases List.mem_append.1 hx with h | h
    · rcases List.mem_append.1 h with h | h
      · exact List.mem_append_left _ (hB' x (by simpa using h))
      · exact List.mem_append_left _ (hsub _ (List.mem_append_right _ h))
    · exact List.mem_append_right _ h)⟩
theorem at_app {v v' : Value} {n : Nat} (h : v'.ownBlock = v.ownBlock ∨ v'.ownBlock = some n) : ∀ b, v'.ownBlock = some b → v.ownBlock = some b ∨ n ≤ b := fun b hb => by
  rcases h with h | h
  · exact .inl (h ▸ hb)
  · rw [h] at hb; cases hb; exact .inr (Nat.le_refl _)
theorem wrote {v : Value} {w w1 : World} {B1 : List Nat} (hv : ∀ b, v.ownBlock = some b → w.heap.size ≤ b ∧ b ∉ B1) (hi : ∀ b, v.ownBlock = some b → b < w1.heap.size) : ∀ c ∈ v.ownBlock.toList, true = true ∧ w.heap.size ≤ c ∧ c < w1.heap.size ∧ c ∉ B1 := fun c hc => by
  have hc : v.ownBlock = some c := by simpa using hc
  exact ⟨rfl, (hv c hc).1, hi c hc, (hv c hc).2⟩
theorem lt_of {w1 : World} {B1 : List Nat} {w0 : World} {O0 : List Nat} (s : St w0 O0 w1 B1) : ∀ x ∈ B1, x < w1.heap.size := fun x hx => (s.new x hx).2
/-- With the block of a slice of one's own. -/
theorem own_l {v : Value} {w w1 : World} {B B1 Bx : List Nat} (hv : ∀ b, v.ownBlock = some b → w.heap.size ≤ b ∧ b ∉ Bx) (hi : ∀ b, v.ownBlock = some b → b < w1.heap.size) (hl : ∀ b ∈ B1, b ∈ B ∨ (w.heap.size ≤ b ∧ b < w1.heap.size)) : ∀ x ∈ v.ownBlock.toList ++ B1, x ∈ B ∨ (w.heap.size ≤ x ∧ x < w1.heap.size) := fun x hx => by
  rcases List.mem_append.1 hx with h | h
  · have h : v.ownBlock = some x := by simpa using h
    exact .inr ⟨(hv x h).1, hi x h⟩
  · exact hl x h
theorem own_q {v : Value} {w w1 : World} {B1 Bg Bh : List Nat} (hv : ∀ b, v.ownBlock = some b → w.heap.size ≤ b ∧ b ∉ Bg) (hi : ∀ b, v.ownBlock = some b → b < w1.heap.size) (sep : ∀ b, w.heap.size ≤ b → b < w1.heap.size → b ∉ Bg → b ∈ Bh) (hr : ∀ b ∈ B1, b ∈ Bh) : ∀ x ∈ v.ownBlock.toList ++ B1, x ∈ Bh := fun x hx => by
  rcases List.mem_append.1 hx with h | h
  · have h : v.ownBlock = some x := by simpa using h
    exact sep x (hv x h).1 (hi x h) (hv x h).2
  · exact hr x h
/-- What a call made that gives a slice of one's own. -/
theorem TOw.call {α : Type} {u w1 w2 : World} {base : Nat} {O B1 : List Nat} {E : Enc α} {e : TypeId} {l : List α} {v : Value} (hu : u.heap.size ≤ w1.heap.size) (hbase : base ≤ w1.heap.size) (hlt : ∀ x ∈ B1, x < w1.heap.size) (hv : ∀ b, v.ownBlock = some b → w1.heap.size ≤ b) (h : Own E e w1.heap.size (v.ownBlock.toList ++ (B1 ++ O)) w2 v l) : TOw u base O E e l B1 v w2 :=
  ⟨fun b hb => ⟨Nat.le_trans hu (hv b hb), fun hx => by have := hlt _ hx; have := hv b hb; omega⟩, by
    obtain ⟨css, h1, h2, h3⟩ := h
    refine ⟨css, h1, ⟨h2.1, ?_⟩, fun i cs x hi hx => by rw [List.append_assoc]; exact h3 i cs x hi hx⟩
    rcases h2.2 with h | ⟨g, cap, cur, rfl, hbg, r⟩
    · exact .inl h
    · exact .inr ⟨g, cap, cur, rfl, Nat.le_trans hbase hbg, r⟩⟩
section
variable {ty : TypeId} {F : Fr} {w : World} {K : Value → World → Prop} {Z : List PanicEntry → World → Prop} {x y : Operand}
end
end
end Go.Fw
