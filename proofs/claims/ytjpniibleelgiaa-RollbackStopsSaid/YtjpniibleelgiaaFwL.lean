/- A region that draws its order, with operations that may come late: behind the store that ends its first part. Program-independent. -/
import Derived.Test.YtjpniibleelgiaaFwH
set_option linter.unusedSimpArgs false
set_option linter.unusedVariables false
namespace Go.Fw
open Go.RowKit

def waitsB (ops : List Oper) (x h : Nat) : Bool := (grows ops ops.length (aft ops x)).contains h
/-- These operations can come in this order alone, when all others have been carried out. -/
def forcedB (ops : List Oper) : List Nat → Bool
  | [] => true
  | h :: t => t.all (fun x => waitsB ops x h) && (aft ops h).all (fun j => !(h :: t).contains j) && forcedB ops t
def seqOps (ops : List Oper) (seq : List Nat) : List Oper := seq.filterMap (ops[·]?)

section
variable {P : Program} {n : Nat} {Q : Exit → Fr → World → Prop}
theorem ready_of' {ops : List Oper} {listed : Array Bool} (hsz : listed.size = ops.length) {k : Nat} (hk : k < ops.length) (hn : listed[k]? = some false) (hb : ∀ j ∈ aft ops k, listed[j]? = some true) : k ∈ Region.ready .any ops.toArray listed := by
  unfold Region.ready
  refine List.mem_filter.2 ⟨by simpa using hk, ?_⟩
  have ho : ops[k]? = some ops[k] := List.getElem?_eq_getElem hk
  simp only [List.getElem?_toArray, ho, Option.map_some, Option.getD_some, Bool.and_eq_true]
  refine ⟨?_, ?_⟩
  · have : k < listed.size := by omega
    rw [Array.getElem?_eq_getElem this] at hn
    simp [this]
    simpa using hn
  · refine Array.all_eq_true'.2 fun e he => ?_
    by_cases hbe : Region.binds .any e = true
    case neg => simp [hbe]
    have hl := hb e.on (by unfold aft; rw [ho]; exact List.mem_map.2 ⟨e, List.mem_filter.2 ⟨by simpa using he, hbe⟩, rfl⟩)
    have : e.on < listed.size := (Array.getElem?_eq_some_iff.1 hl).1
    rw [Array.getElem?_eq_getElem this] at hl
    simp only [Option.some.injEq] at hl
    simp [this, hl]
theorem forced_run {ops : List Oper} (hok : ops.all (okO n ops) = true) (hin : ∀ k, k < ops.length → ∀ j ∈ aft ops k, j < ops.length) : ∀ (seq : List Nat) (fuel : Nat) (listed : Array Bool) (F1 : Fr) (w1 : World), listed.size = ops.length → unl ops listed ≤ fuel →
    (∀ j, j < ops.length → (listed[j]? = some true ↔ j ∉ seq)) → (∀ j ∈ seq, j < ops.length) → seq.Nodup → forcedB ops seq = true → (∀ i, listed[i]? = some true → ∀ j ∈ aft ops i, listed[j]? = some true) →
    WL false P ops Q (seqOps ops seq) F1 w1 → wpAny P .any ops.toArray (lift n Q) fuel listed (mk n F1) w1
  | [], fuel, listed, F1, w1, hsz, hfu, hl, _, _, _, _, h => by
    have hfin : lift n Q .normal (mk n F1) w1 := ⟨F1, rfl, h⟩
    have hall : ∀ i, i ∈ Region.ready .any ops.toArray listed → False := fun i hi => by
      obtain ⟨h1, h2⟩ := notyet hi hsz
      have := (hl i h2).2 (by simp)
      rw [h1] at this; cases this
    cases fuel with
    | zero => exact ⟨List.eq_nil_iff_forall_not_mem.2 hall, hfin⟩
    | succ fuel => exact ⟨fun _ => hfin, fun i hi => (hall i hi).elim⟩
  | q :: t, fuel, listed, F1, w1, hsz, hfu, hl, hlt, hnd, hf, hdown, h => by
    have hq : q < ops.length := hlt q (by simp)
    unfold forcedB at hf
    simp only [Bool.and_eq_true] at hf
    obtain ⟨⟨f1, f2⟩, f3⟩ := hf
    obtain ⟨hqt, hnd'⟩ := List.nodup_cons.1 hnd
    have hqn : listed[q]? = some false := by
      have h1 : ¬ listed[q]? = some true := fun e => ((hl q hq).1 e) (by simp)
      have : q < listed.size := by omega
      rw [Array.getElem?_eq_getElem this] at h1 ⊢
      simpa using h1
    have hul := unl_set hq hsz hqn
    obtain ⟨fuel, rfl⟩ : ∃ f, fuel = f + 1 := ⟨fuel - 1, by omega⟩
    have haq : ∀ j ∈ aft ops q, listed[j]? = some true := fun j hj => by
      have h1 := List.all_eq_true.1 f2 j hj
      exact (hl j (hin q hq j hj)).2 (by simpa using h1)
    refine ⟨fun h0 => ?_, fun i hi => ?_⟩
    · have := ready_of' hsz hq hqn haq
      rw [h0] at this; cases this
    · obtain ⟨hnl, hil⟩ := notyet hi hsz
      have hiq : i = q := by
        have h1 : i ∈ q :: t := Classical.byContradiction fun hc => by have := (hl i hil).2 hc; rw [hnl] at this; cases this
        rcases List.mem_cons.1 h1 with h2 | h2
        · exact h2
        · exfalso
          have h3 := List.all_eq_true.1 f1 i h2
          unfold waitsB at h3
          have h4 := grow_sub (D := fun j => listed[j]? = some true) hdown _ _ (aft_ready (List.getElem?_eq_getElem hil) hi hsz (hin i hil)) q (by simpa using h3)
          rw [hqn] at h4; cases h4
      subst hiq
      have ho : ops[i]? = some ops[i] := List.getElem?_eq_getElem hil
      have hso : seqOps ops (i :: t) = ops[i] :: seqOps ops t := by unfold seqOps; rw [List.filterMap_cons, ho]
      rw [hso] at h
      have hset : ∀ j, (listed.setIfInBounds i true)[j]? = some true ↔ j = i ∨ listed[j]? = some true := fun j => by
        rw [Array.getElem?_setIfInBounds]
        by_cases hji : i = j
        · subst hji; simp; omega
        · rw [if_neg hji]; exact ⟨fun h => .inr h, fun h => h.resolve_left (fun e => hji e.symm)⟩
      refine wpOp_F (K := fun F w => WL false P ops Q (seqOps ops t) F w) hok ho (fun F w hK => forced_run hok hin t fuel _ F w (by simpa using hsz) (by omega) (fun j hj => ?_) (fun j hj => hlt j (by simp [hj])) hnd' f3 (fun j hj x hx => ?_) hK) (fun hw => ?_) (fun hw => ?_)
      · rw [hset j, hl j hj]
        constructor
        · rintro (rfl | h1)
          · exact hqt
          · exact fun h2 => h1 (by simp [h2])
        · intro h1
          by_cases hji : j = i
          · exact .inl hji
          · exact .inr (by simp [hji, h1])
      · rw [hset x]
        rcases (hset j).1 hj with h1 | h1
        · subst h1; exact .inr (haq x hx)
        · exact .inr (hdown j h1 x hx)
      · unfold WL at h; rw [if_pos hw] at h; exact h.resolve_right (fun e => by cases e.1)
      · unfold WL at h; rw [if_neg (by rw [hw]; simp)] at h; exact h

/-- The checks: the first m operations write different slots; operation m waits for all of them but the late ones, which are a chain; behind m all is forced. -/
def chainB (ops : List Oper) : List Nat → Bool
  | a :: b :: r => waitsB ops b a && chainB ops (b :: r)
  | _ => true
def tailSeq (ops : List Oper) (m : Nat) : List Nat := (List.range ops.length).drop (m + 1)
def lateOk (ops : List Oper) (m : Nat) (late : List Nat) : Bool :=
  (List.range m).all (fun i => (List.range m).all fun j => Nat.beq i j || (match (ops[i]?).bind (·.dst), (ops[j]?).bind (·.dst) with | some a, some b => !Nat.beq a b | _, _ => true)) &&
  (List.range m).all (fun j => late.contains j || waitsB ops m j) && (tailSeq ops m).all (fun k => waitsB ops k m) &&
  (List.range ops.length).all (fun k => (aft ops k).all fun j => Nat.blt j k) && Nat.blt m ops.length && late.all (Nat.blt · m) && chainB ops late &&
  forcedB ops (m :: tailSeq ops m) && (List.range late.length).all (fun c => forcedB ops (late.drop c ++ tailSeq ops m)) && (tailSeq ops m).all (fun k => late.all fun j => waitsB ops k j)
theorem chain_up {ops : List Oper} {D : Nat → Prop} (hcl : ∀ b a, D b → waitsB ops b a = true → D a) : ∀ (late : List Nat), chainB ops late = true → ∀ c, (∃ j, late[c]? = some j ∧ ¬ D j) → ∀ j ∈ late.drop c, ¬ D j
  | [], _, c, ⟨j, hj, _⟩, _, _ => by simp at hj
  | [a], _, c, ⟨j, hj, hd⟩, x, hx => by
    cases c with
    | zero => simp at hj hx; subst hj; subst hx; exact hd
    | succ c => simp at hj
  | a :: b :: r, h, c, ⟨j, hj, hd⟩, x, hx => by
    simp only [chainB, Bool.and_eq_true] at h
    cases c with
    | zero =>
      simp at hj; subst hj
      simp only [List.drop_zero] at hx
      rcases List.mem_cons.1 hx with rfl | hx
      · exact hd
      · have hb : ¬ D b := fun hb => hd (hcl b a hb h.1)
        exact chain_up hcl (b :: r) h.2 0 ⟨b, rfl, hb⟩ x (by simpa using hx)
    | succ c => exact chain_up hcl (b :: r) h.2 c ⟨j, by simpa using hj, hd⟩ x (by simpa using hx)
theorem draw_runL {ops : List Oper} {m : Nat} {late : List Nat} {om : Oper} {Ts : List Pr} {F : Fr} {w : World} (hd : lateOk ops m late = true) (hndl : late.Nodup) (hok : ops.all (okO n ops) = true) (hst : ∀ i v w w', prT Ts i v w → Keep [] w w' → prT Ts i v w') (hlen : Ts.length = m) (hom : ops[m]? = some om)
    (hs : Specs P ops m Ts F w 0 (ops.take m) Ts)
    (fin : ∀ F1 w1, Keep [] w w1 → (∀ i o d, i < m → ops[i]? = some o → o.dst = some d → prT Ts i (F1 d) w1) → (∀ t, (∀ j o, j < m → ops[j]? = some o → o.dst ≠ some t) → F1 t = F t) → WL false P ops Q (om :: seqOps ops (tailSeq ops m)) F1 w1)
    (finL : ∀ c, c < late.length → ∀ F1 w1, Keep [] w w1 → (∀ i o d, i < m → i ∉ late.drop c → ops[i]? = some o → o.dst = some d → prT Ts i (F1 d) w1) → (∀ t, (∀ j o, j < m → ops[j]? = some o → o.dst ≠ some t) → F1 t = F t) → WL false P ops Q (om :: (seqOps ops (late.drop c) ++ seqOps ops (tailSeq ops m))) F1 w1) :
    ∀ (fuel : Nat) (listed : Array Bool) (F1 : Fr) (w1 : World), listed.size = ops.length → unl ops listed ≤ fuel → (∀ j, m ≤ j → listed[j]? ≠ some true) → DInv ops m Ts F w listed F1 w1 → wpAny P .any ops.toArray (lift n Q) fuel listed (mk n F1) w1 := by
  unfold lateOk at hd
  simp only [Bool.and_eq_true] at hd
  obtain ⟨⟨⟨⟨⟨⟨⟨⟨⟨d1, d2⟩, d3⟩, d4⟩, d5⟩, d6⟩, d7⟩, d8⟩, d9⟩, d10⟩ := hd
  have hml : m < ops.length := blt d5
  have hback : ∀ k, k < ops.length → ∀ j ∈ aft ops k, j < k := fun k hk j hj => blt (List.all_eq_true.1 (List.all_eq_true.1 d4 k (by simpa using hk)) j hj)
  have hin : ∀ k, k < ops.length → ∀ j ∈ aft ops k, j < ops.length := fun k hk j hj => Nat.lt_trans (hback k hk j hj) hk
  have hlm : ∀ j ∈ late, j < m := fun j hj => blt (List.all_eq_true.1 d6 j hj)
  have htl : ∀ j, j ∈ tailSeq ops m ↔ m < j ∧ j < ops.length := fun j => by
    unfold tailSeq
    rw [List.mem_iff_getElem?]
    simp only [List.getElem?_drop]
    constructor
    · rintro ⟨i, hi⟩
      have := (List.getElem?_eq_some_iff.1 hi)
      obtain ⟨h1, h2⟩ := this
      simp at h1 h2; omega
    · rintro ⟨h1, h2⟩
      exact ⟨j - (m + 1), by rw [List.getElem?_eq_getElem (by simp; omega)]; simp; omega⟩
  have hdist : ∀ i j oi oj, i < m → j < m → i ≠ j → ops[i]? = some oi → ops[j]? = some oj → oi.dst ≠ none → oi.dst ≠ oj.dst := by
    intro i j oi oj hi hj hij hoi hoj hne
    have := List.all_eq_true.1 (List.all_eq_true.1 d1 i (by simpa using hi)) j (by simpa using hj)
    simp only [Bool.or_eq_true] at this
    rcases this with h5 | h5
    · exact absurd (Nat.eq_of_beq_eq_true h5) hij
    · rw [hoi, hoj] at h5
      intro e
      cases hd : oi.dst with
      | none => exact hne hd
      | some d =>
        rw [hd] at e
        simp only [Option.bind_some, hd, ← e] at h5
        simp at h5
  have hndt : (tailSeq ops m).Nodup := by unfold tailSeq; exact List.Nodup.sublist (List.drop_sublist _ _) List.nodup_range
  intro fuel
  induction fuel with
  | zero =>
    intro listed F1 w1 hsz hfu hno hi
    exfalso
    have h0 : unl ops listed = 0 := by omega
    unfold unl at h0
    have := List.countP_eq_zero.1 h0 m (by simpa using hml)
    exact hno m (Nat.le_refl _) (by simpa using this)
  | succ fuel ih =>
    intro listed F1 w1 hsz hfu hno hi
    have hmn : listed[m]? = some false := by
      have h1 := hno m (Nat.le_refl _)
      have : m < listed.size := by omega
      rw [Array.getElem?_eq_getElem this] at h1 ⊢
      simpa using h1
    by_cases hall : ∀ j, j < m → listed[j]? = some true
    · -- all of the first part have been carried out
      have e : seqOps ops (m :: tailSeq ops m) = om :: seqOps ops (tailSeq ops m) := by unfold seqOps; rw [List.filterMap_cons, hom]
      refine forced_run hok hin (m :: tailSeq ops m) (fuel + 1) listed F1 w1 hsz hfu (fun j hj => ⟨fun h => ?_, fun h => ?_⟩) (fun j hj => ?_) (List.nodup_cons.2 ⟨fun h => by have := (htl m).1 h; omega, hndt⟩) d8 hi.down (by
        rw [e]
        refine fin F1 w1 hi.keep (fun i o d him ho hdst => hi.fact i o d him (hall i him) ho hdst) (fun t ht => hi.free t (fun j o hj ho => ?_))
        rcases Nat.lt_or_ge j m with h1 | h1
        · exact ht j o h1 ho
        · exact absurd hj (hno j h1))
      · intro hm'
        have : m ≤ j := by rcases List.mem_cons.1 hm' with h1 | h1; omega; have := (htl j).1 h1; omega
        exact hno j this h
      · exact hall j (by
          rcases Nat.lt_or_ge j m with h1 | h1
          · exact h1
          · exfalso; apply h
            rcases Nat.eq_or_lt_of_le h1 with h2 | h2
            · subst h2; simp
            · exact List.mem_cons_of_mem _ ((htl j).2 ⟨h2, hj⟩))
      · rcases List.mem_cons.1 hj with h1 | h1
        · omega
        · exact ((htl j).1 h1).2
    · have hex : ∃ j, j < m ∧ listed[j]? ≠ some true := by
        refine Classical.byContradiction fun hc => hall fun j hj => Classical.byContradiction fun hn => hc ⟨j, hj, hn⟩
      have hmin : ∀ q j, q = j → j < m → listed[j]? ≠ some true → ∃ k, k < m ∧ listed[k]? ≠ some true ∧ ∀ i, i < k → listed[i]? = some true := by
        intro q
        induction q using Nat.strongRecOn with
        | _ q ihq =>
          intro j hqj hj hn
          by_cases hb : ∀ i, i < j → listed[i]? = some true
          · exact ⟨j, hj, hn, hb⟩
          · have : ∃ i, i < j ∧ listed[i]? ≠ some true := Classical.byContradiction fun hc => hb fun i hi => Classical.byContradiction fun hn => hc ⟨i, hi, hn⟩
            obtain ⟨i, hij, hni⟩ := this
            exact ihq i (by omega) i rfl (by omega) hni
      obtain ⟨j0, hj0, hn0⟩ := hex
      obtain ⟨k, hkm, hkn, hkb⟩ := hmin j0 j0 rfl hj0 hn0
      have hkf : listed[k]? = some false := by
        have : k < listed.size := by omega
        rw [Array.getElem?_eq_getElem this] at hkn ⊢
        simpa using hkn
      refine ⟨fun h0 => ?_, fun i hir => ?_⟩
      · have := ready_of' hsz (by omega) hkf (fun j hj => hkb j (hback k (by omega) j hj))
        rw [h0] at this; cases this
      · obtain ⟨hnl, hil⟩ := notyet hir hsz
        have ho : ops[i]? = some ops[i] := List.getElem?_eq_getElem hil
        have haft := aft_ready ho hir hsz (hin i hil)
        have hclose : ∀ j, waitsB ops i j = true → listed[j]? = some true := fun j hj => by
          unfold waitsB at hj
          exact grow_sub (D := fun j => listed[j]? = some true) hi.down _ _ haft j (by simpa using hj)
        rcases Nat.lt_or_ge i m with him | hge
        · have hT : Ts[i]? = some Ts[i] := List.getElem?_eq_getElem (by omega)
          have hsp := hs.at_ (ops.take m) Ts 0 i ops[i] Ts[i] (by rw [List.getElem?_take, if_pos him]; exact ho) hT
          rw [Nat.zero_add] at hsp
          have hTi : prT Ts i = Ts[i] := by unfold prT; rw [hT]; rfl
          have hsp' := hsp F1 w1 hi.keep (fun t ht => hi.free t (fun j oj hj hoj => by
            intro e
            unfold freeAt at ht
            have h1 := List.all_eq_true.1 ht j (by simp; exact (List.getElem?_eq_some_iff.1 hoj).1)
            rw [hoj] at h1
            simp only [e, Bool.or_eq_true, List.contains_iff_mem] at h1
            rcases h1 with h1 | h1
            · simp at h1
            · have := hi.down j hj i h1
              rw [hnl] at this; cases this)) (fun j d hdep => by
            unfold depAt at hdep
            simp only [Bool.and_eq_true] at hdep
            obtain ⟨⟨h1, h2⟩, h3⟩ := hdep
            have hjl := haft j (by simpa using h2)
            cases hoj : ops[j]? with
            | none => rw [hoj] at h1; cases h1
            | some oj =>
              rw [hoj] at h1
              simp only [Option.bind_some] at h1
              cases hd' : oj.dst with
              | none => rw [hd'] at h1; cases h1
              | some e =>
                rw [hd'] at h1
                have := Nat.eq_of_beq_eq_true h1
                subst this
                exact hi.fact j oj e (blt h3) hjl hoj hd')
          have hdist' : ∀ (j : Nat) (oj : Oper), j < m → j ≠ i → ops[j]? = some oj → oj.dst ≠ none → oj.dst ≠ ops[i].dst := fun j oj hj hji hoj hne => hdist j i oj ops[i] hj him hji hoj ho hne
          have hno' : ∀ j, m ≤ j → (listed.setIfInBounds i true)[j]? ≠ some true := fun j hj => by
            rw [Array.getElem?_setIfInBounds, if_neg (by omega)]; exact hno j hj
          refine wpOp_F (K := fun F2 w2 => DInv ops m Ts F w (listed.setIfInBounds i true) F2 w2) hok ho (fun F2 w2 hK => ih _ F2 w2 (by simpa using hsz) (by have := unl_set hil hsz hnl; omega) hno' hK) (fun hw => ?_) (fun hw => ?_)
          · have h1 := hsp'.1 hw
            unfold OpW at h1 ⊢
            generalize (execOp (evF F1) ⟨none, ops[i].op, ops[i].type, "", #[], none⟩).run P w1 = r at h1 ⊢
            have use : ∀ v w2, Keep [] w1 w2 ∧ Ts[i] v w2 → DInv ops m Ts F w (listed.setIfInBounds i true) (putF F1 ops[i].dst v) w2 := fun v w2 ⟨hk, hv⟩ => hi.step hst hsz hil ho haft hdist' hk (fun _ _ _ => by rw [hTi]; exact hv)
            cases r with
            | ok x w' =>
              cases x <;> simp only [uponF] at h1 ⊢ <;> try exact h1.elim
              case value v => exact use _ _ h1
              case skip => exact use _ _ h1
              case enter f args =>
                exact Calls.mono h1 fun e w'' he => by
                  cases e with
                  | returned v => exact use _ _ he
                  | panicked c => exact he.elim
                  | outgrown => exact he.elim
            | halt x w' => cases x <;> simp only [uponF] at h1 ⊢ <;> exact h1.elim
          · have h1 := hsp'.2 hw
            exact hi.step hst hsz hil ho haft hdist' (Keep.refl _ _) (fun _ _ _ => by rw [hTi]; exact h1)
        · -- operation m comes ahead of some late ones
          have him : i = m := by
            rcases Nat.eq_or_lt_of_le hge with h1 | h1
            · exact h1.symm
            · have h2 := hclose m (List.all_eq_true.1 d3 i ((htl i).2 ⟨h1, hil⟩))
              rw [hmn] at h2; cases h2
          subst him
          have hnl' : ∀ j, j < i → j ∉ late → listed[j]? = some true := fun j hj hjl => by
            have h1 := List.all_eq_true.1 d2 j (by simpa using hj)
            simp only [Bool.or_eq_true, List.contains_iff_mem] at h1
            exact hclose j (h1.resolve_left hjl)
          have hex2 : ∃ (c : Nat) (j : Nat), late[c]? = some j ∧ listed[j]? ≠ some true := by
            have h1 : j0 ∈ late := Classical.byContradiction fun hc => hn0 (hnl' j0 hj0 hc)
            obtain ⟨c, hc⟩ := List.mem_iff_getElem?.1 h1
            exact ⟨c, j0, hc, hn0⟩
          have hminc : ∀ q c : Nat, q = c → (∃ j : Nat, late[c]? = some j ∧ listed[j]? ≠ some true) → ∃ c' : Nat, (∃ j : Nat, late[c']? = some j ∧ listed[j]? ≠ some true) ∧ ∀ x j : Nat, x < c' → late[x]? = some j → listed[j]? = some true := by
            intro q
            induction q using Nat.strongRecOn with
            | _ q ihq =>
              intro c hqc hc
              by_cases hb : ∀ x j : Nat, x < c → late[x]? = some j → listed[j]? = some true
              · exact ⟨c, hc, hb⟩
              · have : ∃ x j : Nat, x < c ∧ late[x]? = some j ∧ listed[j]? ≠ some true := Classical.byContradiction fun hcn => hb fun x j hx hj => Classical.byContradiction fun hn => hcn ⟨x, j, hx, hj, hn⟩
                obtain ⟨x, j, hx, hj, hn⟩ := this
                exact ihq x (by omega) x rfl ⟨j, hj, hn⟩
          obtain ⟨c0, hc0⟩ := hex2
          obtain ⟨c, ⟨jc, hjc, hjn⟩, hcb⟩ := hminc c0 c0 rfl hc0
          have hcl : c < late.length := (List.getElem?_eq_some_iff.1 hjc).1
          have hcw : ∀ b a, listed[b]? = some true → waitsB ops b a = true → listed[a]? = some true := fun b a hb hba => by
            unfold waitsB at hba
            exact grow_sub (D := fun j => listed[j]? = some true) hi.down _ _ (hi.down b hb) a (by simpa using hba)
          have hdropn : ∀ j ∈ late.drop c, ¬ listed[j]? = some true := chain_up (D := fun j => listed[j]? = some true) hcw late d7 c ⟨jc, hjc, hjn⟩
          have hdropm : ∀ j, j < i → (listed[j]? = some true ↔ j ∉ late.drop c) := fun j hj => by
            constructor
            · intro h1 h2; exact hdropn j h2 h1
            · intro h1
              by_cases hjl : j ∈ late
              · obtain ⟨x, hx⟩ := List.mem_iff_getElem?.1 hjl
                by_cases hxc : x < c
                · exact hcb x j hxc hx
                · exfalso; apply h1
                  exact List.mem_iff_getElem?.2 ⟨x - c, by rw [List.getElem?_drop, show c + (x - c) = x by omega]; exact hx⟩
              · exact hnl' j hj hjl
          have hK := finL c hcl F1 w1 hi.keep (fun q o d hq hqd ho hdst => hi.fact q o d hq ((hdropm q hq).2 hqd) ho hdst) (fun t ht => hi.free t (fun j o hj ho => by
            rcases Nat.lt_or_ge j i with h1 | h1
            · exact ht j o h1 ho
            · exact absurd hj (hno j h1)))
          have hom' : om = ops[i] := by rw [ho] at hom; exact (Option.some.inj hom).symm
          have hso : seqOps ops (late.drop c) ++ seqOps ops (tailSeq ops i) = seqOps ops (late.drop c ++ tailSeq ops i) := by unfold seqOps; rw [List.filterMap_append]
          rw [hso, hom'] at hK
          have hset : ∀ j, (listed.setIfInBounds i true)[j]? = some true ↔ j = i ∨ listed[j]? = some true := fun j => by
            rw [Array.getElem?_setIfInBounds]
            by_cases hji : i = j
            · subst hji; simp; omega
            · rw [if_neg hji]; exact ⟨fun h => .inr h, fun h => h.resolve_left (fun e => hji e.symm)⟩
          refine wpOp_F (K := fun F w => WL false P ops Q (seqOps ops (late.drop c ++ tailSeq ops i)) F w) hok ho (fun F2 w2 hK2 => forced_run hok hin (late.drop c ++ tailSeq ops i) fuel _ F2 w2 (by simpa using hsz) (by have := unl_set hil hsz hnl; omega) (fun j hj => ?_) (fun j hj => ?_) ?_ (List.all_eq_true.1 d9 c (by simpa using hcl)) (fun j hj q hq => ?_) hK2) (fun hw => ?_) (fun hw => ?_)
          · rw [hset j, List.mem_append, htl j]
            constructor
            · rintro (rfl | h1)
              · rintro (h2 | h2)
                · have := hlm j (List.mem_of_mem_drop h2); omega
                · omega
              · rintro (h2 | h2)
                · exact hdropn j h2 h1
                · exact hno j (by omega) h1
            · intro h1
              rcases Nat.lt_trichotomy j i with h2 | h2 | h2
              · exact .inr ((hdropm j h2).2 (fun h3 => h1 (.inl h3)))
              · exact .inl h2
              · exact absurd (.inr ⟨h2, hj⟩) h1
          · rcases List.mem_append.1 hj with h1 | h1
            · have := hlm j (List.mem_of_mem_drop h1); omega
            · exact ((htl j).1 h1).2
          · refine List.nodup_append.2 ⟨List.Nodup.sublist (List.drop_sublist _ _) hndl, hndt, fun a ha b hb e => ?_⟩
            have h1 := hlm a (List.mem_of_mem_drop ha)
            have h2 := (htl b).1 hb
            omega
          · rw [hset q]
            rcases (hset j).1 hj with rfl | h1
            · exact .inr (haft q hq)
            · exact .inr (hi.down j h1 q hq)
          · unfold WL at hK; rw [if_pos hw] at hK; exact hK.resolve_right (fun e => by cases e.1)
          · unfold WL at hK; rw [if_neg (by rw [hw]; simp)] at hK; exact hK
/-- The rule for a region: op m ends the first part; 'late' operations of it may come behind m. -/
theorem cw_drawL {id : Nat} {ops : List Oper} {F : Fr} {w : World} (m : Nat) (late : List Nat) (pre : List Oper) (om : Oper) (tl : List Oper) (Ts : List Pr) (hm : P.follows .mixedOrders = true) (hok : ops.all (okO n ops) = true) (hd : lateOk ops m late = true) (hlen : Nat.beq Ts.length m = true) (hnd : late.Nodup)
    (hpre : ops.take m = pre) (hom : ops[m]? = some om) (htl : seqOps ops (tailSeq ops m) = tl) (hst : Stab Ts) (hs : Specs P ops m Ts F w.drew 0 pre Ts)
    (fin : ∀ F1 w1, Keep [] w w1 → (∀ i d, depAt' ops i d = true → i < m → prT Ts i (F1 d) w1) → (∀ t, outAt ops m t = true → F1 t = F t) → WL false P ops Q (om :: tl) F1 w1)
    (finL : ∀ c, c < late.length → ∀ F1 w1, Keep [] w w1 → (∀ i d, depAt' ops i d = true → i < m → (late.drop c).contains i = false → prT Ts i (F1 d) w1) → (∀ t, outAt ops m t = true → F1 t = F t) → WL false P ops Q (om :: (seqOps ops (late.drop c) ++ tl)) F1 w1) :
    CW P (ro := none) n (.region id ops.toArray true) Q F w := by
  have hdr : ({ w with drawn := w.drawn + 1 } : World) = w.drew := rfl
  subst hpre; subst htl
  refine wpIn_wide.2 (wp_region_any hm ?_)
  rw [hdr, List.size_toArray]
  have dep : ∀ (i d : Nat), depAt' ops i d = true → ∃ o, ops[i]? = some o ∧ o.dst = some d := fun i d hdp => by
    unfold depAt' at hdp
    cases ho : ops[i]? with
    | none => rw [ho] at hdp; cases hdp
    | some o =>
      rw [ho] at hdp
      simp only [Option.bind_some] at hdp
      cases hd' : o.dst with
      | none => rw [hd'] at hdp; cases hdp
      | some e =>
        rw [hd'] at hdp
        have := Nat.eq_of_beq_eq_true hdp
        subst this
        exact ⟨o, rfl, hd'⟩
  have out : ∀ (t : Nat), outAt ops m t = true → ∀ j o, j < m → ops[j]? = some o → o.dst ≠ some t := fun t ht j o hj ho e => by
    unfold outAt at ht
    have h3 := List.all_eq_true.1 ht o (List.mem_of_getElem? (by rw [List.getElem?_take, if_pos hj]; exact ho))
    rw [e] at h3; simp at h3
  refine draw_runL hd hnd hok (fun i v w w' h hk => ?_) (Nat.eq_of_beq_eq_true hlen) hom hs
    (fun F1 w1 hk h1 h2 => fin F1 w1 ((Keep.drew [] w).trans hk) (fun i d hdp him => by obtain ⟨o, ho, hd'⟩ := dep i d hdp; exact h1 i o d him ho hd') (fun t ht => h2 t (out t ht)))
    (fun c hc F1 w1 hk h1 h2 => finL c hc F1 w1 ((Keep.drew [] w).trans hk) (fun i d hdp him hn => by obtain ⟨o, ho, hd'⟩ := dep i d hdp; exact h1 i o d him (by simpa using hn) ho hd') (fun t ht => h2 t (out t ht)))
    ops.length _ F w.drew (by simp) ?_ (fun j _ => ?_) ⟨Keep.refl _ _, fun i hi => ?_, fun i o d _ hi => ?_, fun _ _ => rfl⟩
  · unfold prT at h ⊢
    cases hT : Ts[i]? with
    | none => rw [hT] at h; exact trivial
    | some T => rw [hT] at h; exact hst.of T (List.mem_of_getElem? hT) v w w' h hk
  · unfold unl; exact Nat.le_trans (List.countP_le_length) (by simp)
  all_goals simp_all [Array.getElem?_replicate]
end
end Go.Fw
