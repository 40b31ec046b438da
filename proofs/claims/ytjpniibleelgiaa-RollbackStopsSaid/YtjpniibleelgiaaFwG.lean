/- A region that draws its order: each operation said by itself, whatever comes ahead of it. Program-independent. -/
import Derived.Test.YtjpniibleelgiaaFwF
set_option linter.unusedSimpArgs false
set_option linter.unusedVariables false
namespace Go.Fw
open Go.RowKit

abbrev Pr := Value → World → Prop
def prT (Ts : List Pr) (i : Nat) : Pr := (Ts[i]?).getD (fun _ _ => True)
def aft (ops : List Oper) (i : Nat) : List Nat := match ops[i]? with | some o => (o.after.toList.filter (Region.binds .any)).map (·.on) | none => []
/-- Nobody writes t that may come ahead of operation i. -/
def freeAt (ops : List Oper) (i t : Nat) : Bool := (List.range ops.length).all fun j => (match ops[j]? with | some o => (match o.dst with | some d => !Nat.beq d t | none => true) | none => true) || (aft ops j).contains i
def depAt (ops : List Oper) (m i j d : Nat) : Bool := (match (ops[j]?).bind (·.dst) with | some e => Nat.beq e d | none => false) && (aft ops i).contains j && Nat.blt j m
def depAt' (ops : List Oper) (j d : Nat) : Bool := match (ops[j]?).bind (·.dst) with | some e => Nat.beq e d | none => false
/-- None of the first m operations writes t. -/
def outAt (ops : List Oper) (m t : Nat) : Bool := (ops.take m).all fun o => match o.dst with | some d => !Nat.beq d t | none => true
def grow (ops : List Oper) (L : List Nat) : List Nat := (List.range ops.length).filter fun j => L.contains j || L.any fun l => (aft ops l).contains j
def grows (ops : List Oper) : Nat → List Nat → List Nat
  | 0, L => L
  | n + 1, L => grows ops n (grow ops L)
/-- The checks: edges that bind, the first m operations write different slots, each of the others waits for all ahead of it. -/
def drawOk (ops : List Oper) (m : Nat) : Bool :=
  (List.range m).all (fun i => (List.range m).all fun j => Nat.beq i j || (match (ops[i]?).bind (·.dst), (ops[j]?).bind (·.dst) with | some a, some b => !Nat.beq a b | _, _ => true)) &&
  (List.range ops.length).all (fun k => Nat.blt k m || (List.range k).all fun j => (grows ops ops.length (aft ops k)).contains j) &&
  (List.range ops.length).all (fun k => (aft ops k).all fun j => Nat.blt j k)

section
variable {P : Program} {n : Nat} {Q : Exit → Fr → World → Prop}

/-- What is asked of operation i. -/
def OpSpec (P : Program) (ops : List Oper) (m : Nat) (Ts : List Pr) (F : Fr) (w : World) (i : Nat) (o : Oper) (T : Pr) : Prop :=
  ∀ F1 w1, Keep [] w w1 → (∀ t, freeAt ops i t = true → F1 t = F t) → (∀ j d, depAt ops m i j d = true → prT Ts j (F1 d) w1) →
    (Region.wanted o (yieldF ops F1) = true → OpW P o.op o.type F1 w1 (fun v w2 => Keep [] w1 w2 ∧ T v w2) (fun _ _ => False)) ∧
    (Region.wanted o (yieldF ops F1) = false → T undef w1)
def Specs (P : Program) (ops : List Oper) (m : Nat) (Ts : List Pr) (F : Fr) (w : World) : Nat → List Oper → List Pr → Prop
  | i, o :: r, T :: R => OpSpec P ops m Ts F w i o T ∧ Specs P ops m Ts F w (i + 1) r R
  | _, _, _ => True

theorem Specs.at_ {ops : List Oper} {m : Nat} {Ts : List Pr} {F : Fr} {w : World} : ∀ (l : List Oper) (R : List Pr) (k i : Nat) (o : Oper) (T : Pr), Specs P ops m Ts F w k l R → l[i]? = some o → R[i]? = some T → OpSpec P ops m Ts F w (k + i) o T
  | [], _, _, _, _, _, _, h, _ => by simp at h
  | _ :: _, [], _, _, _, _, _, _, h => by simp at h
  | o' :: l, T' :: R, k, 0, o, T, h, h1, h2 => by
    simp at h1 h2; subst h1; subst h2; exact h.1
  | o' :: l, T' :: R, k, i + 1, o, T, h, h1, h2 => by
    have := Specs.at_ l R (k + 1) i o T h.2 (by simpa using h1) (by simpa using h2)
    rwa [show k + 1 + i = k + (i + 1) by omega] at this

/-- What is known when the operations 'listed' have been carried out. -/
structure DInv (ops : List Oper) (m : Nat) (Ts : List Pr) (F : Fr) (w : World) (listed : Array Bool) (F1 : Fr) (w1 : World) : Prop where
  keep : Keep [] w w1
  down : ∀ i, listed[i]? = some true → ∀ j ∈ aft ops i, listed[j]? = some true
  fact : ∀ (i : Nat) (o : Oper) (d : Tmp), i < m → listed[i]? = some true → ops[i]? = some o → o.dst = some d → prT Ts i (F1 d) w1
  free : ∀ (t : Tmp), (∀ (j : Nat) (o : Oper), listed[j]? = some true → ops[j]? = some o → o.dst ≠ some t) → F1 t = F t

theorem grow_sub {ops : List Oper} {D : Nat → Prop} (hd : ∀ i, D i → ∀ j ∈ aft ops i, D j) : ∀ (n : Nat) (L : List Nat), (∀ i ∈ L, D i) → ∀ i ∈ grows ops n L, D i
  | 0, _, h => h
  | n + 1, L, h => by
    refine grow_sub hd n (grow ops L) fun i hi => ?_
    obtain ⟨_, h2⟩ := List.mem_filter.1 hi
    simp only [Bool.or_eq_true, List.contains_iff_mem, List.any_eq_true] at h2
    rcases h2 with h2 | ⟨l, hl, h2⟩
    · exact h i h2
    · exact hd l (h l hl) i h2

theorem aft_ready {ops : List Oper} {listed : Array Bool} {i : Nat} {o : Oper} (ho : ops[i]? = some o) (hr : i ∈ Region.ready .any ops.toArray listed) (hsz : listed.size = ops.length) (hlt : ∀ j ∈ aft ops i, j < ops.length) : ∀ j ∈ aft ops i, listed[j]? = some true := by
  intro j hj
  unfold Region.ready at hr
  obtain ⟨_, h2⟩ := List.mem_filter.1 hr
  simp only [List.getElem?_toArray, ho, Option.map_some, Option.getD_some, Bool.and_eq_true] at h2
  have hjl := hlt j hj
  unfold aft at hj
  rw [ho] at hj
  obtain ⟨e, he, rfl⟩ := List.mem_map.1 hj
  have h3 := Array.all_eq_true'.1 h2.2 e (by simpa using (List.mem_filter.1 he).1)
  have hbe : Region.binds .any e = true := (List.mem_filter.1 he).2
  simp only [hbe, Bool.not_true, Bool.false_or] at h3
  have hsz2 : e.on < listed.size := by omega
  rw [Array.getElem?_eq_getElem hsz2]
  simpa [hsz2] using h3

theorem notyet {ops : List Oper} {listed : Array Bool} {i : Nat} (hr : i ∈ Region.ready .any ops.toArray listed) (hsz : listed.size = ops.length) : listed[i]? = some false ∧ i < ops.length := by
  unfold Region.ready at hr
  obtain ⟨h1, h2⟩ := List.mem_filter.1 hr
  have hi : i < ops.length := by simpa using h1
  simp only [Bool.and_eq_true] at h2
  refine ⟨?_, hi⟩
  rw [Array.getElem?_eq_getElem (by omega)]
  simpa [show i < listed.size by omega] using h2.1

theorem wpOp_F {ops : List Oper} {i : Nat} {o : Oper} {F1 : Fr} {w1 : World} {K : Fr → World → Prop} {K' : Act → World → Prop} (hok : ops.all (okO n ops) = true) (ho : ops[i]? = some o) (hK : ∀ F w, K F w → K' (mk n F) w)
    (h1 : Region.wanted o (yieldF ops F1) = true → OpW P o.op o.type F1 w1 (fun v w2 => K (putF F1 o.dst v) w2) (fun c w2 => Q (.panic c) F1 w2)) (h2 : Region.wanted o (yieldF ops F1) = false → K (putF F1 o.dst undef) w1) :
    wpOp P ops.toArray (lift n Q) i K' (mk n F1) w1 := by
  have hoo : okO n ops o = true := List.all_eq_true.1 hok o (List.mem_of_getElem? ho)
  unfold wpOp
  simp only [List.getElem?_toArray, ho]
  rw [yieldF_eq hoo]
  split
  · rename_i hw
    refine .inl ?_
    have h := h1 hw
    unfold Oper.wp
    unfold OpW at h
    rw [execOp_mk o hoo, execOp_eq]
    exact uponF_upon (fun v w' hk => by rw [mk_put _ _ _ _ (okO_dst hoo)]; exact hK _ _ hk) (fun c w' hz => ⟨F1, rfl, hz⟩) h
  · rename_i hw
    rw [mk_put _ _ _ _ (okO_dst hoo)]
    exact hK _ _ (h2 (by simpa using hw))

theorem DInv.step {ops : List Oper} {m : Nat} {Ts : List Pr} {F : Fr} {w : World} {listed : Array Bool} {F1 : Fr} {w1 w2 : World} {i : Nat} {o : Oper} {v : Value} (hst : ∀ i v w w', prT Ts i v w → Keep [] w w' → prT Ts i v w') (h : DInv ops m Ts F w listed F1 w1) (hsz : listed.size = ops.length) (hi : i < ops.length) (ho : ops[i]? = some o) (hr : ∀ j ∈ aft ops i, listed[j]? = some true)
    (hdist : ∀ (j : Nat) (oj : Oper), j < m → j ≠ i → ops[j]? = some oj → oj.dst ≠ none → oj.dst ≠ o.dst) (hk : Keep [] w1 w2) (hT : i < m → ∀ d, o.dst = some d → prT Ts i v w2) : DInv ops m Ts F w (listed.setIfInBounds i true) (putF F1 o.dst v) w2 := by
  have hset : ∀ (j : Nat), (listed.setIfInBounds i true)[j]? = some true → j = i ∨ listed[j]? = some true := by
    intro j hj
    by_cases hji : j = i
    · exact .inl hji
    · rw [Array.getElem?_setIfInBounds, if_neg (fun e => hji e.symm)] at hj; exact .inr hj
  have hmono : ∀ (j : Nat), listed[j]? = some true → (listed.setIfInBounds i true)[j]? = some true := by
    intro j hj
    rw [Array.getElem?_setIfInBounds]
    split
    · rename_i e; subst e
      have : i < listed.size := by omega
      simp [this]
    · exact hj
  refine ⟨h.keep.trans hk, fun j hj q hq => ?_, fun j oj d hjm hj hoj hd => ?_, fun t ht => ?_⟩
  · rcases hset j hj with rfl | hj
    · exact hmono q (hr q hq)
    · exact hmono q (h.down j hj q hq)
  · by_cases hji : j = i
    · subst hji
      rw [ho] at hoj; cases hoj
      rw [hd]
      show prT Ts j (upd F1 d v d) w2
      rw [upd_same]; exact hT hjm d hd
    · rcases hset j hj with e | hj
      · exact absurd e hji
      · have h1 := hst _ _ _ _ (h.fact j oj d hjm hj hoj hd) hk
        cases hod : o.dst with
        | none => exact h1
        | some d' =>
          have hne : d ≠ d' := fun e => hdist j oj hjm hji hoj (by rw [hd]; simp) (by rw [hd, hod, e])
          show prT Ts j (upd F1 d' v d) w2
          rw [upd_ne _ _ _ hne]; exact h1
  · have h2 : o.dst ≠ some t := ht i o (by
      rw [Array.getElem?_setIfInBounds, if_pos rfl]; simp; omega) ho
    have h1 := h.free t (fun j oj hj hoj => ht j oj (hmono j hj) hoj)
    cases hod : o.dst with
    | none => exact h1
    | some d' =>
      show upd F1 d' v t = F t
      rw [upd_ne _ _ _ (fun e => h2 (by rw [hod, e]))]; exact h1

theorem count_lt {α : Type} (p q : α → Bool) : ∀ (l : List α) (a : α), a ∈ l → (∀ x, q x = true → p x = true) → p a = true → q a = false → l.countP q < l.countP p
  | [], a, h, _, _, _ => by cases h
  | b :: l, a, h, hpq, hp, hq => by
    have hle : ∀ l : List α, l.countP q ≤ l.countP p := fun l => List.countP_mono_left (fun x _ hx => hpq x hx)
    rw [List.countP_cons, List.countP_cons]
    rcases List.mem_cons.1 h with rfl | h
    · have := hle l
      simp only [hp, hq, if_true, Bool.false_eq_true, if_false]; omega
    · have h1 := count_lt p q l a h hpq hp hq
      by_cases hb : q b = true
      · simp only [hb, hpq b hb, if_true]; omega
      · have hb' : q b = false := by simpa using hb
        simp only [hb', Bool.false_eq_true, if_false]; split <;> omega
def unl (ops : List Oper) (listed : Array Bool) : Nat := (List.range ops.length).countP fun j => listed[j]? != some true
theorem unl_set {ops : List Oper} {listed : Array Bool} {i : Nat} (hi : i < ops.length) (hsz : listed.size = ops.length) (h : listed[i]? = some false) : unl ops (listed.setIfInBounds i true) < unl ops listed := by
  unfold unl
  refine count_lt _ _ _ i (by simpa using hi) (fun x hx => ?_) (by simp [h]) (by
    rw [Array.getElem?_setIfInBounds, if_pos rfl]; simp; omega)
  by_cases hxi : x = i
  · subst hxi; simp [h]
  · rw [Array.getElem?_setIfInBounds, if_neg (fun e => hxi e.symm)] at hx; exact hx
/-- The checks, as facts. -/
structure DOk (ops : List Oper) (m : Nat) : Prop where
  dist : ∀ i j oi oj, i < m → j < m → i ≠ j → ops[i]? = some oi → ops[j]? = some oj → oi.dst ≠ none → oi.dst ≠ oj.dst
  tail : ∀ k, k < ops.length → m ≤ k → ∀ j, j < k → j ∈ grows ops ops.length (aft ops k)
  back : ∀ k, k < ops.length → ∀ j ∈ aft ops k, j < k
theorem DOk.of {ops : List Oper} {m : Nat} (h : drawOk ops m = true) : DOk ops m := by
  unfold drawOk at h
  simp only [Bool.and_eq_true] at h
  obtain ⟨⟨h2, h3⟩, h4⟩ := h
  refine ⟨fun i j oi oj hi hj hij hoi hoj hne => ?_, fun k hk hm j hj => ?_, fun k hk j hj => ?_⟩
  · have := List.all_eq_true.1 (List.all_eq_true.1 h2 i (by simpa using hi)) j (by simpa using hj)
    simp only [Bool.or_eq_true] at this
    rcases this with h5 | h5
    · exact absurd (Nat.eq_of_beq_eq_true h5) hij
    · rw [hoi, hoj] at h5
      intro e
      cases hd : oi.dst with
      | none => exact hne hd
      | some d =>
        rw [hd] at e
        simp only [Option.bind_some, hd, ← e] at h5
        simp at h5
  · have := List.all_eq_true.1 h3 k (by simpa using hk)
    simp only [Bool.or_eq_true] at this
    rcases this with h5 | h5
    · have := blt h5; omega
    · simpa using List.all_eq_true.1 h5 j (by simpa using hj)
  · exact blt (List.all_eq_true.1 (List.all_eq_true.1 h4 k (by simpa using hk)) j hj)

theorem ready_of {ops : List Oper} {m : Nat} (hd : DOk ops m) {listed : Array Bool} (hsz : listed.size = ops.length) {k : Nat} (hk : k < ops.length) (hn : listed[k]? ≠ some true) (hb : ∀ j, j < k → listed[j]? = some true) : k ∈ Region.ready .any ops.toArray listed := by
  unfold Region.ready
  refine List.mem_filter.2 ⟨by simpa using hk, ?_⟩
  have ho : ops[k]? = some ops[k] := List.getElem?_eq_getElem hk
  simp only [List.getElem?_toArray, ho, Option.map_some, Option.getD_some, Bool.and_eq_true]
  refine ⟨?_, ?_⟩
  · have : k < listed.size := by omega
    rw [Array.getElem?_eq_getElem this] at hn
    simp [this]
    simpa using hn
  · refine Array.all_eq_true'.2 fun e he => ?_
    by_cases hbe : Region.binds .any e = true
    case neg => simp [hbe]
    have hlt := hd.back k hk e.on (by unfold aft; rw [ho]; exact List.mem_map.2 ⟨e, List.mem_filter.2 ⟨by simpa using he, hbe⟩, rfl⟩)
    have hl := hb _ hlt
    have : e.on < listed.size := by omega
    rw [Array.getElem?_eq_getElem this] at hl
    simp only [Option.some.injEq] at hl
    simp [this, hl]

/-- A ready operation behind the first m waits for all ahead of it. -/
theorem ready_tail {ops : List Oper} {m : Nat} (hd : DOk ops m) {listed : Array Bool} (hsz : listed.size = ops.length) (hdown : ∀ i, listed[i]? = some true → ∀ j ∈ aft ops i, listed[j]? = some true) {i : Nat} (hi : i ∈ Region.ready .any ops.toArray listed) (hm : m ≤ i) : ∀ j, j < i → listed[j]? = some true := by
  obtain ⟨_, hil⟩ := notyet hi hsz
  have ho : ops[i]? = some ops[i] := List.getElem?_eq_getElem hil
  have hr := aft_ready ho hi hsz (fun j hj => Nat.lt_trans (hd.back i hil j hj) hil)
  intro j hj
  exact grow_sub (D := fun j => listed[j]? = some true) hdown _ _ hr j (hd.tail i hil hm j hj)

/-- The operations behind the first m come in their order. -/
theorem tail_run {ops : List Oper} {m : Nat} (hd : DOk ops m) (hok : ops.all (okO n ops) = true) : ∀ (fuel k : Nat) (listed : Array Bool) (F1 : Fr) (w1 : World), listed.size = ops.length → m ≤ k → ops.length ≤ k + fuel → k ≤ ops.length → (∀ j, j < ops.length → (listed[j]? = some true ↔ j < k)) →
    WL false P ops Q (ops.drop k) F1 w1 → wpAny P .any ops.toArray (lift n Q) fuel listed (mk n F1) w1 := by
  have fin : ∀ (k : Nat) (listed : Array Bool) (F1 : Fr) (w1 : World), listed.size = ops.length → k ≤ ops.length → (∀ j, j < ops.length → (listed[j]? = some true ↔ j < k)) → WL false P ops Q (ops.drop k) F1 w1 → Region.ready .any ops.toArray listed = [] → lift n Q .normal (mk n F1) w1 := by
    intro k listed F1 w1 hsz hkn hl h hr
    by_cases hkl : k < ops.length
    · have := ready_of hd hsz hkl (fun e => by have := (hl k hkl).1 e; omega) (fun j hj => (hl j (by omega)).2 hj)
      rw [hr] at this; cases this
    · rw [List.drop_eq_nil_of_le (by omega)] at h
      exact ⟨F1, rfl, h⟩
  intro fuel
  induction fuel with
  | zero =>
    intro k listed F1 w1 hsz hmk hfu hkn hl h
    have hr : Region.ready .any ops.toArray listed = [] := by
      unfold Region.ready
      rw [List.filter_eq_nil_iff]
      intro j hj
      have hjl : j < ops.length := by simpa using hj
      have h1 := (hl j hjl).2 (by omega)
      have : j < listed.size := by omega
      rw [Array.getElem?_eq_getElem this] at h1
      simp only [Option.some.injEq] at h1
      simp [this, h1]
    exact ⟨hr, fin k listed F1 w1 hsz hkn hl h hr⟩
  | succ fuel ih =>
    intro k listed F1 w1 hsz hmk hfu hkn hl h
    refine ⟨fin k listed F1 w1 hsz hkn hl h, fun i hi => ?_⟩
    obtain ⟨hnl, hil⟩ := notyet hi hsz
    have hki : k ≤ i := by
      rcases Nat.lt_or_ge i k with h1 | h1
      · have := (hl i hil).2 h1; rw [hnl] at this; cases this
      · exact h1
    have hdown : ∀ i, listed[i]? = some true → ∀ j ∈ aft ops i, listed[j]? = some true := by
      intro i hi j hj
      have h1 : i < ops.length := by have := (Array.getElem?_eq_some_iff.1 hi).1; omega
      have h2 := (hl i h1).1 hi
      have h3 := hd.back i h1 j hj
      exact (hl j (by omega)).2 (by omega)
    have hik : i = k := by
      rcases Nat.eq_or_lt_of_le hki with e | hlt
      · exact e.symm
      · have h1 := ready_tail hd hsz hdown hi (by omega) k hlt
        have := (hl k (by omega)).1 h1; omega
    subst hik
    have ho : ops[i]? = some ops[i] := List.getElem?_eq_getElem hil
    rw [List.drop_eq_getElem_cons hil] at h
    have hl' : ∀ j, j < ops.length → ((listed.setIfInBounds i true)[j]? = some true ↔ j < i + 1) := by
      intro j hj
      rw [Array.getElem?_setIfInBounds]
      by_cases hji : i = j
      · subst hji; simp; omega
      · rw [if_neg hji, hl j hj]; omega
    refine wpOp_F (K := fun F w => WL false P ops Q (ops.drop (i + 1)) F w) hok ho (fun F w hK => ih (i + 1) _ F w (by simpa using hsz) (by omega) (by omega) (by omega) hl' hK) (fun hw => ?_) (fun hw => ?_)
    · unfold WL at h; rw [if_pos hw] at h; exact h.resolve_right (fun e => by cases e.1)
    · unfold WL at h; rw [if_neg (by rw [hw]; simp)] at h; exact h

/-- The first m operations, in whatever order. -/
theorem draw_run {ops : List Oper} {m : Nat} {Ts : List Pr} {F : Fr} {w : World} (hd : DOk ops m) (hok : ops.all (okO n ops) = true) (hst : ∀ i v w w', prT Ts i v w → Keep [] w w' → prT Ts i v w') (hm : m ≤ ops.length) (hlen : Ts.length = m)
    (hs : Specs P ops m Ts F w 0 (ops.take m) Ts)
    (fin : ∀ F1 w1, Keep [] w w1 → (∀ i o d, i < m → ops[i]? = some o → o.dst = some d → prT Ts i (F1 d) w1) → (∀ t, (∀ j o, j < m → ops[j]? = some o → o.dst ≠ some t) → F1 t = F t) → WL false P ops Q (ops.drop m) F1 w1) :
    ∀ (fuel : Nat) (listed : Array Bool) (F1 : Fr) (w1 : World), listed.size = ops.length → unl ops listed ≤ fuel → (∀ j, m ≤ j → listed[j]? ≠ some true) → DInv ops m Ts F w listed F1 w1 → wpAny P .any ops.toArray (lift n Q) fuel listed (mk n F1) w1 := by
  intro fuel
  -- all of the first m are listed: on to the tail
  have toTail : ∀ (fuel : Nat) (listed : Array Bool) (F1 : Fr) (w1 : World), listed.size = ops.length → unl ops listed ≤ fuel → (∀ j, m ≤ j → listed[j]? ≠ some true) → DInv ops m Ts F w listed F1 w1 → (∀ j, j < m → listed[j]? = some true) → wpAny P .any ops.toArray (lift n Q) fuel listed (mk n F1) w1 := by
    intro fuel listed F1 w1 hsz hfu hno hi hall
    have hfl : ops.length ≤ m + fuel := by
      have : ops.length - m ≤ unl ops listed := by
        unfold unl
        have e : List.range ops.length = List.range m ++ (List.range (ops.length - m)).map (m + ·) := by
          rw [← List.range_add]; congr 1; omega
        rw [e, List.countP_append]
        have : ((List.range (ops.length - m)).map (m + ·)).countP (fun j => listed[j]? != some true) = ops.length - m := by
          rw [List.countP_eq_length.2]
          · simp
          · intro j hj
            obtain ⟨q, _, rfl⟩ := List.mem_map.1 hj
            have := hno (m + q) (by omega)
            simpa using this
        omega
      omega
    refine tail_run hd hok fuel m listed F1 w1 hsz (Nat.le_refl _) hfl hm (fun j hj => ⟨fun h => ?_, fun h => hall j h⟩) (fin F1 w1 hi.keep (fun i o d him ho hdst => hi.fact i o d him (hall i him) ho hdst) (fun t ht => hi.free t (fun j o hj ho => ?_)))
    · rcases Nat.lt_or_ge j m with h1 | h1
      · exact h1
      · exact absurd h (hno j h1)
    · rcases Nat.lt_or_ge j m with h1 | h1
      · exact ht j o h1 ho
      · exact absurd hj (hno j h1)
  induction fuel with
  | zero =>
    intro listed F1 w1 hsz hfu hno hi
    refine toTail 0 listed F1 w1 hsz hfu hno hi (fun j hj => ?_)
    have h0 : unl ops listed = 0 := by omega
    unfold unl at h0
    have := List.countP_eq_zero.1 h0 j (by simp; omega)
    simpa using this
  | succ fuel ih =>
    intro listed F1 w1 hsz hfu hno hi
    by_cases hall : ∀ j, j < m → listed[j]? = some true
    · exact toTail (fuel + 1) listed F1 w1 hsz hfu hno hi hall
    · have hex : ∃ j, j < m ∧ listed[j]? ≠ some true := by
        refine Classical.byContradiction fun hc => hall fun j hj => Classical.byContradiction fun hn => hc ⟨j, hj, hn⟩
      -- the first that is not listed is ready
      have hmin : ∀ q j, q = j → j < m → listed[j]? ≠ some true → ∃ k, k < m ∧ listed[k]? ≠ some true ∧ ∀ i, i < k → listed[i]? = some true := by
        intro q
        induction q using Nat.strongRecOn with
        | _ q ihq =>
          intro j hqj hj hn
          by_cases hb : ∀ i, i < j → listed[i]? = some true
          · exact ⟨j, hj, hn, hb⟩
          · have : ∃ i, i < j ∧ listed[i]? ≠ some true := Classical.byContradiction fun hc => hb fun i hi => Classical.byContradiction fun hn => hc ⟨i, hi, hn⟩
            obtain ⟨i, hij, hni⟩ := this
            exact ihq i (by omega) i rfl (by omega) hni
      obtain ⟨j0, hj0, hn0⟩ := hex
      obtain ⟨k, hkm, hkn, hkb⟩ := hmin j0 j0 rfl hj0 hn0
      refine ⟨fun h0 => ?_, fun i hir => ?_⟩
      · have := ready_of hd hsz (by omega) hkn hkb
        rw [h0] at this; cases this
      · obtain ⟨hnl, hil⟩ := notyet hir hsz
        have him : i < m := by
          rcases Nat.lt_or_ge i m with h1 | h1
          · exact h1
          · exact absurd (ready_tail hd hsz hi.down hir h1 k (by omega)) hkn
        have ho : ops[i]? = some ops[i] := List.getElem?_eq_getElem hil
        have haft := aft_ready ho hir hsz (fun j hj => Nat.lt_trans (hd.back i hil j hj) hil)
        have hT : Ts[i]? = some Ts[i] := List.getElem?_eq_getElem (by omega)
        have hsp := hs.at_ (ops.take m) Ts 0 i ops[i] Ts[i] (by rw [List.getElem?_take, if_pos him]; exact ho) hT
        rw [Nat.zero_add] at hsp
        have hTi : prT Ts i = Ts[i] := by unfold prT; rw [hT]; rfl
        have hsp' := hsp F1 w1 hi.keep (fun t ht => hi.free t (fun j oj hj hoj => by
          intro e
          unfold freeAt at ht
          have h1 := List.all_eq_true.1 ht j (by simp; exact (List.getElem?_eq_some_iff.1 hoj).1)
          rw [hoj] at h1
          simp only [e, Bool.or_eq_true, List.contains_iff_mem] at h1
          rcases h1 with h1 | h1
          · simp at h1
          · have := hi.down j hj i h1
            rw [hnl] at this; cases this)) (fun j d hdep => by
          unfold depAt at hdep
          simp only [Bool.and_eq_true] at hdep
          obtain ⟨⟨h1, h2⟩, h3⟩ := hdep
          have hjl := haft j (by simpa using h2)
          cases hoj : ops[j]? with
          | none => rw [hoj] at h1; cases h1
          | some oj =>
            rw [hoj] at h1
            simp only [Option.bind_some] at h1
            cases hd' : oj.dst with
            | none => rw [hd'] at h1; cases h1
            | some e =>
              rw [hd'] at h1
              have := Nat.eq_of_beq_eq_true h1
              subst this
              exact hi.fact j oj e (blt h3) hjl hoj hd')
        have hdist : ∀ (j : Nat) (oj : Oper), j < m → j ≠ i → ops[j]? = some oj → oj.dst ≠ none → oj.dst ≠ ops[i].dst := fun j oj hj hji hoj hne => hd.dist j i oj ops[i] hj him hji hoj ho hne
        have hno' : ∀ j, m ≤ j → (listed.setIfInBounds i true)[j]? ≠ some true := fun j hj => by
          rw [Array.getElem?_setIfInBounds, if_neg (by omega)]; exact hno j hj
        refine wpOp_F (K := fun F2 w2 => DInv ops m Ts F w (listed.setIfInBounds i true) F2 w2) hok ho (fun F2 w2 hK => ih _ F2 w2 (by simpa using hsz) (by have := unl_set hil hsz hnl; omega) hno' hK) (fun hw => ?_) (fun hw => ?_)
        · have h1 := hsp'.1 hw
          unfold OpW at h1 ⊢
          generalize (execOp (evF F1) ⟨none, ops[i].op, ops[i].type, "", #[], none⟩).run P w1 = r at h1 ⊢
          have use : ∀ v w2, Keep [] w1 w2 ∧ Ts[i] v w2 → DInv ops m Ts F w (listed.setIfInBounds i true) (putF F1 ops[i].dst v) w2 := fun v w2 ⟨hk, hv⟩ => hi.step hst hsz hil ho haft hdist hk (fun _ _ _ => by rw [hTi]; exact hv)
          cases r with
          | ok x w' =>
            cases x <;> simp only [uponF] at h1 ⊢ <;> try exact h1.elim
            case value v => exact use _ _ h1
            case skip => exact use _ _ h1
            case enter f args =>
              exact Calls.mono h1 fun e w'' he => by
                cases e with
                | returned v => exact use _ _ he
                | panicked c => exact he.elim
                | outgrown => exact he.elim
          | halt x w' => cases x <;> simp only [uponF] at h1 ⊢ <;> exact h1.elim
        · have h1 := hsp'.2 hw
          exact hi.step hst hsz hil ho haft hdist (Keep.refl _ _) (fun _ _ _ => by rw [hTi]; exact h1)

/-- A region that draws its order: the first m operations each by itself, the others in their order. -/
theorem cw_draw {id : Nat} {ops : List Oper} {F : Fr} {w : World} (m : Nat) (Ts : List Pr) (hm : P.follows .mixedOrders = true) (hok : ops.all (okO n ops) = true) (hd : drawOk ops m = true) (hlen : (Nat.beq Ts.length m && Nat.ble m ops.length) = true) (hst : ∀ T ∈ Ts, ∀ v w w', T v w → Keep [] w w' → T v w')
    (hs : Specs P ops m Ts F w.drew 0 (ops.take m) Ts)
    (fin : ∀ F1 w1, Keep [] w w1 → (∀ i d, depAt' ops i d = true → i < m → prT Ts i (F1 d) w1) → (∀ t, outAt ops m t = true → F1 t = F t) → WL false P ops Q (ops.drop m) F1 w1) : CW P (ro := none) n (.region id ops.toArray true) Q F w := by
  simp only [Bool.and_eq_true] at hlen
  have hle : m ≤ ops.length := Nat.le_of_ble_eq_true hlen.2
  have hdr : ({ w with drawn := w.drawn + 1 } : World) = w.drew := rfl
  refine wpIn_wide.2 (wp_region_any hm ?_)
  rw [hdr, List.size_toArray]
  refine draw_run (DOk.of hd) hok (fun i v w w' h hk => ?_) hle (Nat.eq_of_beq_eq_true hlen.1) hs (fun F1 w1 hk h1 h2 => fin F1 w1 ((Keep.drew [] w).trans hk) (fun i d hdp him => ?_) (fun t ht => h2 t (fun j o hj ho e => ?_))) ops.length _ F w.drew (by simp) ?_ (fun j _ => ?_) ⟨Keep.refl _ _, fun i hi => ?_, fun i o d _ hi => ?_, fun _ _ => rfl⟩
  · unfold prT at h ⊢
    cases hT : Ts[i]? with
    | none => rw [hT] at h; exact trivial
    | some T => rw [hT] at h; exact hst T (List.mem_of_getElem? hT) v w w' h hk
  · unfold depAt' at hdp
    cases ho : ops[i]? with
    | none => rw [ho] at hdp; cases hdp
    | some o =>
      rw [ho] at hdp
      simp only [Option.bind_some] at hdp
      cases hd' : o.dst with
      | none => rw [hd'] at hdp; cases hdp
      | some e =>
        rw [hd'] at hdp
        have := Nat.eq_of_beq_eq_true hdp
        subst this
        exact h1 i o e him ho hd'
  · unfold outAt at ht
    have h3 := List.all_eq_true.1 ht o (List.mem_of_getElem? (by rw [List.getElem?_take, if_pos hj]; exact ho))
    rw [e] at h3; simp at h3
  · unfold unl; exact Nat.le_trans (List.countP_le_length) (by simp)
  all_goals simp_all [Array.getElem?_replicate]

def Stab : List Pr → Prop
  | [] => True
  | T :: R => (∀ v w w', T v w → Keep [] w w' → T v w') ∧ Stab R
theorem Stab.of : ∀ {Ts : List Pr}, Stab Ts → ∀ T ∈ Ts, ∀ v w w', T v w → Keep [] w w' → T v w'
  | [], _, T, h => by cases h
  | T' :: R, hs, T, h => by
    rcases List.mem_cons.1 h with rfl | h
    · exact hs.1
    · exact Stab.of hs.2 T h
theorem cw_draw' {id : Nat} {ops : List Oper} {F : Fr} {w : World} (m : Nat) (pre tl : List Oper) (Ts : List Pr) (hm : P.follows .mixedOrders = true) (hok : ops.all (okO n ops) = true) (hd : drawOk ops m = true) (hlen : (Nat.beq Ts.length m && Nat.ble m ops.length) = true) (hpre : ops.take m = pre) (htl : ops.drop m = tl) (hst : Stab Ts)
    (hs : Specs P ops m Ts F w.drew 0 pre Ts)
    (fin : ∀ F1 w1, Keep [] w w1 → (∀ i d, depAt' ops i d = true → i < m → prT Ts i (F1 d) w1) → (∀ t, outAt ops m t = true → F1 t = F t) → WL false P ops Q tl F1 w1) : CW P (ro := none) n (.region id ops.toArray true) Q F w := by
  subst hpre; subst htl
  exact cw_draw m Ts hm hok hd hlen hst.of hs fin

theorem sp_plain {o : Oper} {ops : List Oper} {F1 : Fr} {w1 : World} {K : Value → World → Prop} {Z : List PanicEntry → World → Prop} {R : Prop} (hg : o.guard = none) (h : OpW P o.op o.type F1 w1 K Z) :
    (Region.wanted o (yieldF ops F1) = true → OpW P o.op o.type F1 w1 K Z) ∧ (Region.wanted o (yieldF ops F1) = false → R) :=
  ⟨fun _ => h, fun hw => by unfold Region.wanted at hw; rw [hg] at hw; simp at hw⟩
theorem sp_take {o : Oper} {ops : List Oper} {F1 : Fr} {w1 : World} {K : Value → World → Prop} {Z : List PanicEntry → World → Prop} {R : Prop} {j : Nat} {b : Bool} (hg : o.guard = some (j, b)) (hy : yieldF ops F1 j = some b) (h : OpW P o.op o.type F1 w1 K Z) :
    (Region.wanted o (yieldF ops F1) = true → OpW P o.op o.type F1 w1 K Z) ∧ (Region.wanted o (yieldF ops F1) = false → R) :=
  ⟨fun _ => h, fun hw => by unfold Region.wanted at hw; rw [hg] at hw; simp [hy] at hw⟩
theorem sp_skip {o : Oper} {ops : List Oper} {F1 : Fr} {w1 : World} {K : Value → World → Prop} {Z : List PanicEntry → World → Prop} {R : Prop} {j : Nat} {b : Bool} (hg : o.guard = some (j, b)) (hy : yieldF ops F1 j = some (!b)) (h : R) :
    (Region.wanted o (yieldF ops F1) = true → OpW P o.op o.type F1 w1 K Z) ∧ (Region.wanted o (yieldF ops F1) = false → R) :=
  ⟨fun hw => by unfold Region.wanted at hw; rw [hg] at hw; cases b <;> simp [hy] at hw, fun _ => h⟩
theorem lit_of {F : Fr} (l : List (Nat × Value)) (h : agrees F l) : ∃ F2, F = upds F2 l := ⟨F, upds_self l h⟩
theorem St.adopt {w0 w : World} {O0 B : List Nat} {b : Nat} (s : St w0 O0 w B) (h1 : w0.heap.size ≤ b) (h2 : b < w.heap.size) : St w0 O0 w (b :: B) :=
  ⟨s.keep, fun c hc => by rcases List.mem_cons.1 hc with rfl | h; exact ⟨h1, h2⟩; exact s.new c h, s.old⟩
theorem Mv.adopt {w w' : World} {B : List Nat} {b : Nat} (k : Keep [] w w') (h1 : w.heap.size ≤ b) : Mv B w (b :: B) w' :=
  ⟨k.nil, fun c hc => by rcases List.mem_cons.1 hc with rfl | h; exact .inr h1; exact .inl h⟩
end
end Go.Fw
