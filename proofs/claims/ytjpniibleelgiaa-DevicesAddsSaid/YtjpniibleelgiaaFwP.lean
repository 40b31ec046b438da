/- A region that draws its order, where two of its operations are said together. Program-independent. -/
import Derived.Test.YtjpniibleelgiaaFwY
import Derived.Test.YtjpniibleelgiaaFwL
set_option linter.unusedSimpArgs false
set_option linter.unusedVariables false
namespace Go.Fw
open Go.RowKit

section
variable {P : Program} {n : Nat} {Q : Exit → Fr → World → Prop}

/-- The first m operations, in whatever order, under an invariant. -/
theorem draw_runG {ops : List Oper} {m : Nat} (INV : Array Bool → Fr → World → Prop) (hd : DOk ops m) (hok : ops.all (okO n ops) = true) (hm : m ≤ ops.length)
    (hdown : ∀ listed F1 w1, INV listed F1 w1 → ∀ i, listed[i]? = some true → ∀ j ∈ aft ops i, listed[j]? = some true)
    (hstep : ∀ (listed : Array Bool) (F1 : Fr) (w1 : World) (i : Nat) (o : Oper), listed.size = ops.length → INV listed F1 w1 → i < m → ops[i]? = some o → listed[i]? = some false → (∀ j ∈ aft ops i, listed[j]? = some true) →
      (Region.wanted o (yieldF ops F1) = true → OpW P o.op o.type F1 w1 (fun v w2 => INV (listed.setIfInBounds i true) (putF F1 o.dst v) w2) (fun _ _ => False)) ∧
      (Region.wanted o (yieldF ops F1) = false → INV (listed.setIfInBounds i true) (putF F1 o.dst undef) w1))
    (fin : ∀ listed F1 w1, INV listed F1 w1 → (∀ j, j < m → listed[j]? = some true) → (∀ j, m ≤ j → listed[j]? ≠ some true) → WL false P ops Q (ops.drop m) F1 w1) :
    ∀ (fuel : Nat) (listed : Array Bool) (F1 : Fr) (w1 : World), listed.size = ops.length → unl ops listed ≤ fuel → (∀ j, m ≤ j → listed[j]? ≠ some true) → INV listed F1 w1 → wpAny P .any ops.toArray (lift n Q) fuel listed (mk n F1) w1 := by
  intro fuel
  have toTail : ∀ (fuel : Nat) (listed : Array Bool) (F1 : Fr) (w1 : World), listed.size = ops.length → unl ops listed ≤ fuel → (∀ j, m ≤ j → listed[j]? ≠ some true) → INV listed F1 w1 → (∀ j, j < m → listed[j]? = some true) → wpAny P .any ops.toArray (lift n Q) fuel listed (mk n F1) w1 := by
    intro fuel listed F1 w1 hsz hfu hno hi hall
    have hfl : ops.length ≤ m + fuel := by
      have : ops.length - m ≤ unl ops listed := by
        unfold unl
        have e : List.range ops.length = List.range m ++ (List.range (ops.length - m)).map (m + ·) := by
          rw [← List.range_add]; congr 1; omega
        rw [e, List.countP_append]
        have : ((List.range (ops.length - m)).map (m + ·)).countP (fun j => listed[j]? != some true) = ops.length - m := by
          rw [List.countP_eq_length.2]
          · simp
          · intro j hj
            obtain ⟨q, _, rfl⟩ := List.mem_map.1 hj
            have := hno (m + q) (by omega)
            simpa using this
        omega
      omega
    refine tail_run hd hok fuel m listed F1 w1 hsz (Nat.le_refl _) hfl hm (fun j hj => ⟨fun h => ?_, fun h => hall j h⟩) (fin listed F1 w1 hi hall hno)
    rcases Nat.lt_or_ge j m with h1 | h1
    · exact h1
    · exact absurd h (hno j h1)
  induction fuel with
  | zero =>
    intro listed F1 w1 hsz hfu hno hi
    refine toTail 0 listed F1 w1 hsz hfu hno hi (fun j hj => ?_)
    have h0 : unl ops listed = 0 := by omega
    unfold unl at h0
    have := List.countP_eq_zero.1 h0 j (by simp; omega)
    simpa using this
  | succ fuel ih =>
    intro listed F1 w1 hsz hfu hno hi
    by_cases hall : ∀ j, j < m → listed[j]? = some true
    · exact toTail (fuel + 1) listed F1 w1 hsz hfu hno hi hall
    · have hex : ∃ j, j < m ∧ listed[j]? ≠ some true := by
        refine Classical.byContradiction fun hc => hall fun j hj => Classical.byContradiction fun hn => hc ⟨j, hj, hn⟩
      have hmin : ∀ q j, q = j → j < m → listed[j]? ≠ some true → ∃ k, k < m ∧ listed[k]? ≠ some true ∧ ∀ i, i < k → listed[i]? = some true := by
        intro q
        induction q using Nat.strongRecOn with
        | _ q ihq =>
          intro j hqj hj hn
          by_cases hb : ∀ i, i < j → listed[i]? = some true
          · exact ⟨j, hj, hn, hb⟩
          · have : ∃ i, i < j ∧ listed[i]? ≠ some true := Classical.byContradiction fun hc => hb fun i hi => Classical.byContradiction fun hn => hc ⟨i, hi, hn⟩
            obtain ⟨i, hij, hni⟩ := this
            exact ihq i (by omega) i rfl (by omega) hni
      obtain ⟨j0, hj0, hn0⟩ := hex
      obtain ⟨k, hkm, hkn, hkb⟩ := hmin j0 j0 rfl hj0 hn0
      refine ⟨fun h0 => ?_, fun i hir => ?_⟩
      · have := ready_of hd hsz (by omega) hkn hkb
        rw [h0] at this; cases this
      · obtain ⟨hnl, hil⟩ := notyet hir hsz
        have him : i < m := by
          rcases Nat.lt_or_ge i m with h1 | h1
          · exact h1
          · exact absurd (ready_tail hd hsz (hdown _ _ _ hi) hir h1 k (by omega)) hkn
        have ho : ops[i]? = some ops[i] := List.getElem?_eq_getElem hil
        have haft := aft_ready ho hir hsz (fun j hj => Nat.lt_trans (hd.back i hil j hj) hil)
        have hsp := hstep listed F1 w1 i ops[i] hsz hi him ho hnl haft
        have hno' : ∀ j, m ≤ j → (listed.setIfInBounds i true)[j]? ≠ some true := fun j hj => by
          rw [Array.getElem?_setIfInBounds, if_neg (by omega)]; exact hno j hj
        refine wpOp_F (K := fun F2 w2 => INV (listed.setIfInBounds i true) F2 w2) hok ho (fun F2 w2 hK => ih _ F2 w2 (by simpa using hsz) (by have := unl_set hil hsz hnl; omega) hno' hK) (fun hw => ?_) (fun hw => hsp.2 hw)
        have h1 := hsp.1 hw
        unfold OpW at h1 ⊢
        generalize (execOp (evF F1) ⟨none, ops[i].op, ops[i].type, "", #[], none⟩).run P w1 = r at h1 ⊢
        cases r with
        | ok x w' =>
          cases x <;> simp only [uponF] at h1 ⊢ <;> try exact h1.elim
          case value v => exact h1
          case skip => exact h1
          case enter f args =>
            exact Calls.mono h1 fun e w'' he => by
              cases e with
              | returned v => exact he
              | panicked c => exact he.elim
              | outgrown => exact he.elim
        | halt x w' => cases x <;> simp only [uponF] at h1 ⊢ <;> exact h1.elim

/-- The first m operations, in whatever order, under an invariant; some may come behind operation m. -/
theorem draw_runM {ops : List Oper} {m : Nat} {late : List Nat} {om : Oper} (INV : Array Bool → Fr → World → Prop) (hd : lateOk ops m late = true) (hndl : late.Nodup) (hok : ops.all (okO n ops) = true) (hom : ops[m]? = some om)
    (hdown : ∀ listed F1 w1, INV listed F1 w1 → ∀ i, listed[i]? = some true → ∀ j ∈ aft ops i, listed[j]? = some true)
    (hstep : ∀ (listed : Array Bool) (F1 : Fr) (w1 : World) (i : Nat) (o : Oper), listed.size = ops.length → INV listed F1 w1 → i < m → ops[i]? = some o → listed[i]? = some false → (∀ j ∈ aft ops i, listed[j]? = some true) →
      (Region.wanted o (yieldF ops F1) = true → OpW P o.op o.type F1 w1 (fun v w2 => INV (listed.setIfInBounds i true) (putF F1 o.dst v) w2) (fun _ _ => False)) ∧
      (Region.wanted o (yieldF ops F1) = false → INV (listed.setIfInBounds i true) (putF F1 o.dst undef) w1))
    (fin : ∀ listed F1 w1, INV listed F1 w1 → (∀ j, j < m → listed[j]? = some true) → (∀ j, m ≤ j → listed[j]? ≠ some true) → WL false P ops Q (om :: seqOps ops (tailSeq ops m)) F1 w1)
    (finL : ∀ c, c < late.length → ∀ listed F1 w1, INV listed F1 w1 → (∀ j, j < m → (listed[j]? = some true ↔ j ∉ late.drop c)) → (∀ j, m ≤ j → listed[j]? ≠ some true) → WL false P ops Q (om :: (seqOps ops (late.drop c) ++ seqOps ops (tailSeq ops m))) F1 w1) :
    ∀ (fuel : Nat) (listed : Array Bool) (F1 : Fr) (w1 : World), listed.size = ops.length → unl ops listed ≤ fuel → (∀ j, m ≤ j → listed[j]? ≠ some true) → INV listed F1 w1 → wpAny P .any ops.toArray (lift n Q) fuel listed (mk n F1) w1 := by
  unfold lateOk at hd
  simp only [Bool.and_eq_true] at hd
  obtain ⟨⟨⟨⟨⟨⟨⟨⟨⟨d1, d2⟩, d3⟩, d4⟩, d5⟩, d6⟩, d7⟩, d8⟩, d9⟩, d10⟩ := hd
  have hml : m < ops.length := blt d5
  have hback : ∀ k, k < ops.length → ∀ j ∈ aft ops k, j < k := fun k hk j hj => blt (List.all_eq_true.1 (List.all_eq_true.1 d4 k (by simpa using hk)) j hj)
  have hin : ∀ k, k < ops.length → ∀ j ∈ aft ops k, j < ops.length := fun k hk j hj => Nat.lt_trans (hback k hk j hj) hk
  have hlm : ∀ j ∈ late, j < m := fun j hj => blt (List.all_eq_true.1 d6 j hj)
  have htl : ∀ j, j ∈ tailSeq ops m ↔ m < j ∧ j < ops.length := fun j => by
    unfold tailSeq
    rw [List.mem_iff_getElem?]
    simp only [List.getElem?_drop]
    constructor
    · rintro ⟨i, hi⟩
      have := (List.getElem?_eq_some_iff.1 hi)
      obtain ⟨h1, h2⟩ := this
      simp at h1 h2; omega
    · rintro ⟨h1, h2⟩
      exact ⟨j - (m + 1), by rw [List.getElem?_eq_getElem (by simp; omega)]; simp; omega⟩
  have hndt : (tailSeq ops m).Nodup := by unfold tailSeq; exact List.Nodup.sublist (List.drop_sublist _ _) List.nodup_range
  intro fuel
  induction fuel with
  | zero =>
    intro listed F1 w1 hsz hfu hno hi
    exfalso
    have h0 : unl ops listed = 0 := by omega
    unfold unl at h0
    have := List.countP_eq_zero.1 h0 m (by simpa using hml)
    exact hno m (Nat.le_refl _) (by simpa using this)
  | succ fuel ih =>
    intro listed F1 w1 hsz hfu hno hi
    have hmn : listed[m]? = some false := by
      have h1 := hno m (Nat.le_refl _)
      have : m < listed.size := by omega
      rw [Array.getElem?_eq_getElem this] at h1 ⊢
      simpa using h1
    by_cases hall : ∀ j, j < m → listed[j]? = some true
    · -- all of the first part have been carried out
      have e : seqOps ops (m :: tailSeq ops m) = om :: seqOps ops (tailSeq ops m) := by unfold seqOps; rw [List.filterMap_cons, hom]
      refine forced_run hok hin (m :: tailSeq ops m) (fuel + 1) listed F1 w1 hsz hfu (fun j hj => ⟨fun h => ?_, fun h => ?_⟩) (fun j hj => ?_) (List.nodup_cons.2 ⟨fun h => by have := (htl m).1 h; omega, hndt⟩) d8 (hdown _ _ _ hi) (by
        rw [e]
        exact fin listed F1 w1 hi hall hno)
      · intro hm'
        have : m ≤ j := by rcases List.mem_cons.1 hm' with h1 | h1; omega; have := (htl j).1 h1; omega
        exact hno j this h
      · exact hall j (by
          rcases Nat.lt_or_ge j m with h1 | h1
          · exact h1
          · exfalso; apply h
            rcases Nat.eq_or_lt_of_le h1 with h2 | h2
            · subst h2; simp
            · exact List.mem_cons_of_mem _ ((htl j).2 ⟨h2, hj⟩))
      · rcases List.mem_cons.1 hj with h1 | h1
        · omega
        · exact ((htl j).1 h1).2
    · have hex : ∃ j, j < m ∧ listed[j]? ≠ some true := by
        refine Classical.byContradiction fun hc => hall fun j hj => Classical.byContradiction fun hn => hc ⟨j, hj, hn⟩
      have hmin : ∀ q j, q = j → j < m → listed[j]? ≠ some true → ∃ k, k < m ∧ listed[k]? ≠ some true ∧ ∀ i, i < k → listed[i]? = some true := by
        intro q
        induction q using Nat.strongRecOn with
        | _ q ihq =>
          intro j hqj hj hn
          by_cases hb : ∀ i, i < j → listed[i]? = some true
          · exact ⟨j, hj, hn, hb⟩
          · have : ∃ i, i < j ∧ listed[i]? ≠ some true := Classical.byContradiction fun hc => hb fun i hi => Classical.byContradiction fun hn => hc ⟨i, hi, hn⟩
            obtain ⟨i, hij, hni⟩ := this
            exact ihq i (by omega) i rfl (by omega) hni
      obtain ⟨j0, hj0, hn0⟩ := hex
      obtain ⟨k, hkm, hkn, hkb⟩ := hmin j0 j0 rfl hj0 hn0
      have hkf : listed[k]? = some false := by
        have : k < listed.size := by omega
        rw [Array.getElem?_eq_getElem this] at hkn ⊢
        simpa using hkn
      refine ⟨fun h0 => ?_, fun i hir => ?_⟩
      · have := ready_of' hsz (by omega) hkf (fun j hj => hkb j (hback k (by omega) j hj))
        rw [h0] at this; cases this
      · obtain ⟨hnl, hil⟩ := notyet hir hsz
        have ho : ops[i]? = some ops[i] := List.getElem?_eq_getElem hil
        have haft := aft_ready ho hir hsz (hin i hil)
        have hclose : ∀ j, waitsB ops i j = true → listed[j]? = some true := fun j hj => by
          unfold waitsB at hj
          exact grow_sub (D := fun j => listed[j]? = some true) (hdown _ _ _ hi) _ _ haft j (by simpa using hj)
        rcases Nat.lt_or_ge i m with him | hge
        · have hsp := hstep listed F1 w1 i ops[i] hsz hi him ho hnl haft
          have hno' : ∀ j, m ≤ j → (listed.setIfInBounds i true)[j]? ≠ some true := fun j hj => by
            rw [Array.getElem?_setIfInBounds, if_neg (by omega)]; exact hno j hj
          refine wpOp_F (K := fun F2 w2 => INV (listed.setIfInBounds i true) F2 w2) hok ho (fun F2 w2 hK => ih _ F2 w2 (by simpa using hsz) (by have := unl_set hil hsz hnl; omega) hno' hK) (fun hw => ?_) (fun hw => hsp.2 hw)
          have h1 := hsp.1 hw
          unfold OpW at h1 ⊢
          generalize (execOp (evF F1) ⟨none, ops[i].op, ops[i].type, "", #[], none⟩).run P w1 = r at h1 ⊢
          cases r with
          | ok x w' =>
            cases x <;> simp only [uponF] at h1 ⊢ <;> try exact h1.elim
            case value v => exact h1
            case skip => exact h1
            case enter f args =>
              exact Calls.mono h1 fun e w'' he => by
                cases e with
                | returned v => exact he
                | panicked c => exact he.elim
                | outgrown => exact he.elim
          | halt x w' => cases x <;> simp only [uponF] at h1 ⊢ <;> exact h1.elim
        · -- operation m comes ahead of some late ones
          have him : i = m := by
            rcases Nat.eq_or_lt_of_le hge with h1 | h1
            · exact h1.symm
            · have h2 := hclose m (List.all_eq_true.1 d3 i ((htl i).2 ⟨h1, hil⟩))
              rw [hmn] at h2; cases h2
          subst him
          have hnl' : ∀ j, j < i → j ∉ late → listed[j]? = some true := fun j hj hjl => by
            have h1 := List.all_eq_true.1 d2 j (by simpa using hj)
            simp only [Bool.or_eq_true, List.contains_iff_mem] at h1
            exact hclose j (h1.resolve_left hjl)
          have hex2 : ∃ (c : Nat) (j : Nat), late[c]? = some j ∧ listed[j]? ≠ some true := by
            have h1 : j0 ∈ late := Classical.byContradiction fun hc => hn0 (hnl' j0 hj0 hc)
            obtain ⟨c, hc⟩ := List.mem_iff_getElem?.1 h1
            exact ⟨c, j0, hc, hn0⟩
          have hminc : ∀ q c : Nat, q = c → (∃ j : Nat, late[c]? = some j ∧ listed[j]? ≠ some true) → ∃ c' : Nat, (∃ j : Nat, late[c']? = some j ∧ listed[j]? ≠ some true) ∧ ∀ x j : Nat, x < c' → late[x]? = some j → listed[j]? = some true := by
            intro q
            induction q using Nat.strongRecOn with
            | _ q ihq =>
              intro c hqc hc
              by_cases hb : ∀ x j : Nat, x < c → late[x]? = some j → listed[j]? = some true
              · exact ⟨c, hc, hb⟩
              · have : ∃ x j : Nat, x < c ∧ late[x]? = some j ∧ listed[j]? ≠ some true := Classical.byContradiction fun hcn => hb fun x j hx hj => Classical.byContradiction fun hn => hcn ⟨x, j, hx, hj, hn⟩
                obtain ⟨x, j, hx, hj, hn⟩ := this
                exact ihq x (by omega) x rfl ⟨j, hj, hn⟩
          obtain ⟨c0, hc0⟩ := hex2
          obtain ⟨c, ⟨jc, hjc, hjn⟩, hcb⟩ := hminc c0 c0 rfl hc0
          have hcl : c < late.length := (List.getElem?_eq_some_iff.1 hjc).1
          have hcw : ∀ b a, listed[b]? = some true → waitsB ops b a = true → listed[a]? = some true := fun b a hb hba => by
            unfold waitsB at hba
            exact grow_sub (D := fun j => listed[j]? = some true) (hdown _ _ _ hi) _ _ ((hdown _ _ _ hi) b hb) a (by simpa using hba)
          have hdropn : ∀ j ∈ late.drop c, ¬ listed[j]? = some true := chain_up (D := fun j => listed[j]? = some true) hcw late d7 c ⟨jc, hjc, hjn⟩
          have hdropm : ∀ j, j < i → (listed[j]? = some true ↔ j ∉ late.drop c) := fun j hj => by
            constructor
            · intro h1 h2; exact hdropn j h2 h1
            · intro h1
              by_cases hjl : j ∈ late
              · obtain ⟨x, hx⟩ := List.mem_iff_getElem?.1 hjl
                by_cases hxc : x < c
                · exact hcb x j hxc hx
                · exfalso; apply h1
                  exact List.mem_iff_getElem?.2 ⟨x - c, by rw [List.getElem?_drop, show c + (x - c) = x by omega]; exact hx⟩
              · exact hnl' j hj hjl
          have hK := finL c hcl listed F1 w1 hi hdropm hno
          have hom' : om = ops[i] := by rw [ho] at hom; exact (Option.some.inj hom).symm
          have hso : seqOps ops (late.drop c) ++ seqOps ops (tailSeq ops i) = seqOps ops (late.drop c ++ tailSeq ops i) := by unfold seqOps; rw [List.filterMap_append]
          rw [hso, hom'] at hK
          have hset : ∀ j, (listed.setIfInBounds i true)[j]? = some true ↔ j = i ∨ listed[j]? = some true := fun j => by
            rw [Array.getElem?_setIfInBounds]
            by_cases hji : i = j
            · subst hji; simp; omega
            · rw [if_neg hji]; exact ⟨fun h => .inr h, fun h => h.resolve_left (fun e => hji e.symm)⟩
          refine wpOp_F (K := fun F w => WL false P ops Q (seqOps ops (late.drop c ++ tailSeq ops i)) F w) hok ho (fun F2 w2 hK2 => forced_run hok hin (late.drop c ++ tailSeq ops i) fuel _ F2 w2 (by simpa using hsz) (by have := unl_set hil hsz hnl; omega) (fun j hj => ?_) (fun j hj => ?_) ?_ (List.all_eq_true.1 d9 c (by simpa using hcl)) (fun j hj q hq => ?_) hK2) (fun hw => ?_) (fun hw => ?_)
          · rw [hset j, List.mem_append, htl j]
            constructor
            · rintro (rfl | h1)
              · rintro (h2 | h2)
                · have := hlm j (List.mem_of_mem_drop h2); omega
                · omega
              · rintro (h2 | h2)
                · exact hdropn j h2 h1
                · exact hno j (by omega) h1
            · intro h1
              rcases Nat.lt_trichotomy j i with h2 | h2 | h2
              · exact .inr ((hdropm j h2).2 (fun h3 => h1 (.inl h3)))
              · exact .inl h2
              · exact absurd (.inr ⟨h2, hj⟩) h1
          · rcases List.mem_append.1 hj with h1 | h1
            · have := hlm j (List.mem_of_mem_drop h1); omega
            · exact ((htl j).1 h1).2
          · refine List.nodup_append.2 ⟨List.Nodup.sublist (List.drop_sublist _ _) hndl, hndt, fun a ha b hb e => ?_⟩
            have h1 := hlm a (List.mem_of_mem_drop ha)
            have h2 := (htl b).1 hb
            omega
          · rw [hset q]
            rcases (hset j).1 hj with rfl | h1
            · exact .inr (haft q hq)
            · exact .inr ((hdown _ _ _ hi) j h1 q hq)
          · unfold WL at hK; rw [if_pos hw] at hK; exact hK.resolve_right (fun e => by cases e.1)
          · unfold WL at hK; rw [if_neg (by rw [hw]; simp)] at hK; exact hK
abbrev Pr2 := Value → Value → World → Prop
def prR (Rs : List Pr2) (i : Nat) : Pr2 := (Rs[i]?).getD (fun _ _ _ => True)
/-- What is asked of operation i beside operation a. -/
def OpSpecR (P : Program) (ops : List Oper) (m : Nat) (Ts : List Pr) (Rs : List Pr2) (F : Fr) (w : World) (a i : Nat) (o : Oper) (T : Pr) (R : Pr2) : Prop :=
  ∀ F1 w1, Keep [] w w1 → (∀ t, freeAt ops i t = true → F1 t = F t) → (∀ j d, depAt ops m i j d = true → prT Ts j (F1 d) w1) →
    ∀ vo : Option Value, (∀ u, vo = some u → prT Ts a u w1) → (∀ u, vo = some u → ∀ j d, j ≠ a → depAt ops m i j d = true → prR Rs j u (F1 d) w1) →
    (Region.wanted o (yieldF ops F1) = true → OpW P o.op o.type F1 w1 (fun v w2 => Keep [] w1 w2 ∧ T v w2 ∧ ∀ u, vo = some u → R u v w2) (fun _ _ => False)) ∧
    (Region.wanted o (yieldF ops F1) = false → T undef w1 ∧ ∀ u, vo = some u → R u undef w1)
def RelAll : List Pr → List Pr2 → Value → World → World → Prop
  | T :: Ts, R :: Rs, v, w1, w2 => (∀ x, T x w1 → R v x w2) ∧ RelAll Ts Rs v w1 w2
  | _, _, _, _, _ => True
theorem RelAll.at_ : ∀ {Ts : List Pr} {Rs : List Pr2} {v : Value} {w1 w2 : World}, Rs.length = Ts.length → RelAll Ts Rs v w1 w2 → ∀ i x, prT Ts i x w1 → i < Ts.length → prR Rs i v x w2
  | [], _, _, _, _, _, _, i, x, _, hi => by simp at hi
  | T :: Ts, [], _, _, _, h, _, _, _, _, _ => by simp at h
  | T :: Ts, R :: Rs, v, w1, w2, hl, h, 0, x, hx, _ => h.1 x hx
  | T :: Ts, R :: Rs, v, w1, w2, hl, h, i + 1, x, hx, hi => RelAll.at_ (by simpa using hl) h.2 i x hx (by simpa using hi)
/-- What is asked of operation a. -/
def OpSpecA (P : Program) (ops : List Oper) (m : Nat) (Ts : List Pr) (Rs : List Pr2) (F : Fr) (w : World) (i : Nat) (o : Oper) (T : Pr) : Prop :=
  o.guard = none ∧ ∀ F1 w1, Keep [] w w1 → (∀ t, freeAt ops i t = true → F1 t = F t) → (∀ j d, depAt ops m i j d = true → prT Ts j (F1 d) w1) →
    OpW P o.op o.type F1 w1 (fun v w2 => Keep [] w1 w2 ∧ T v w2 ∧ RelAll Ts Rs v w1 w2) (fun _ _ => False)
def SpecsR (P : Program) (ops : List Oper) (m : Nat) (Ts : List Pr) (Rs : List Pr2) (F : Fr) (w : World) (a : Nat) : Nat → List Oper → List Pr → List Pr2 → Prop
  | i, o :: r, T :: R, Q :: S => (bif Nat.beq i a then OpSpecA P ops m Ts Rs F w i o T else OpSpecR P ops m Ts Rs F w a i o T Q) ∧ SpecsR P ops m Ts Rs F w a (i + 1) r R S
  | _, _, _, _ => True
theorem SpecsR.at_ {ops : List Oper} {m : Nat} {Ts : List Pr} {Rs : List Pr2} {F : Fr} {w : World} {a : Nat} : ∀ (l : List Oper) (R : List Pr) (S : List Pr2) (k i : Nat) (o : Oper) (T : Pr) (Q : Pr2), SpecsR P ops m Ts Rs F w a k l R S → l[i]? = some o → R[i]? = some T → S[i]? = some Q →
    (bif Nat.beq (k + i) a then OpSpecA P ops m Ts Rs F w (k + i) o T else OpSpecR P ops m Ts Rs F w a (k + i) o T Q)
  | [], _, _, _, _, _, _, _, _, h, _, _ => by simp at h
  | _ :: _, [], _, _, _, _, _, _, _, _, h, _ => by simp at h
  | _ :: _, _ :: _, [], _, _, _, _, _, _, _, _, h => by simp at h
  | o' :: l, T' :: R, Q' :: S, k, 0, o, T, Q, h, h1, h2, h3 => by
    simp at h1 h2 h3; subst h1; subst h2; subst h3; exact h.1
  | o' :: l, T' :: R, Q' :: S, k, i + 1, o, T, Q, h, h1, h2, h3 => by
    have := SpecsR.at_ l R S (k + 1) i o T Q h.2 (by simpa using h1) (by simpa using h2) (by simpa using h3)
    rwa [show k + 1 + i = k + (i + 1) by omega] at this
def StabR : List Pr2 → Prop
  | [] => True
  | T :: R => (∀ u v w w', T u v w → Keep [] w w' → T u v w') ∧ StabR R
theorem StabR.of : ∀ {Rs : List Pr2}, StabR Rs → ∀ T ∈ Rs, ∀ u v w w', T u v w → Keep [] w w' → T u v w'
  | [], _, T, h => by cases h
  | T' :: R, hs, T, h => by
    rcases List.mem_cons.1 h with rfl | h
    · exact hs.1
    · exact StabR.of hs.2 T h

def PInv (ops : List Oper) (m : Nat) (Ts : List Pr) (Rs : List Pr2) (F : Fr) (w : World) (a : Nat) (listed : Array Bool) (F1 : Fr) (w1 : World) : Prop :=
  DInv ops m Ts F w listed F1 w1 ∧ ∀ oa da i oi di, listed[a]? = some true → ops[a]? = some oa → oa.dst = some da → i < m → i ≠ a → listed[i]? = some true → ops[i]? = some oi → oi.dst = some di → prR Rs i (F1 da) (F1 di) w1
theorem stepR {ops : List Oper} {F : Fr} {w : World} {m a : Nat} {Ts : List Pr} {Rs : List Pr2} (hdo : ∀ (i j : Nat) (oi oj : Oper), i < m → j < m → i ≠ j → ops[i]? = some oi → ops[j]? = some oj → oi.dst ≠ none → oi.dst ≠ oj.dst)
    (hTl : Ts.length = m) (hRl : Rs.length = m) (ham : a < m) (hle : m ≤ ops.length) (hstT : ∀ i v w w', prT Ts i v w → Keep [] w w' → prT Ts i v w') (hstR : ∀ i u v w w', prR Rs i u v w → Keep [] w w' → prR Rs i u v w')
    (hs : SpecsR P ops m Ts Rs F w a 0 (ops.take m) Ts Rs) {listed : Array Bool} {F1 : Fr} {w1 : World} {i : Nat} {o : Oper} (hsz : listed.size = ops.length) (hinv : PInv ops m Ts Rs F w a listed F1 w1) (him : i < m) (ho : ops[i]? = some o) (hnl : listed[i]? = some false) (haft : ∀ j ∈ aft ops i, listed[j]? = some true) :
    (Region.wanted o (yieldF ops F1) = true → OpW P o.op o.type F1 w1 (fun v w2 => PInv ops m Ts Rs F w a (listed.setIfInBounds i true) (putF F1 o.dst v) w2) (fun _ _ => False)) ∧
    (Region.wanted o (yieldF ops F1) = false → PInv ops m Ts Rs F w a (listed.setIfInBounds i true) (putF F1 o.dst undef) w1) := by
  obtain ⟨hi, hp⟩ := hinv
  have hil : i < ops.length := (List.getElem?_eq_some_iff.1 ho).1
  have hT : Ts[i]? = some Ts[i] := List.getElem?_eq_getElem (by omega)
  have hR : Rs[i]? = some Rs[i] := List.getElem?_eq_getElem (by omega)
  have hTi : prT Ts i = Ts[i] := by unfold prT; rw [hT]; rfl
  have hRi : prR Rs i = Rs[i] := by unfold prR; rw [hR]; rfl
  have hfree : ∀ t, freeAt ops i t = true → F1 t = F t := fun t ht => hi.free t (fun j oj hj hoj => by
    intro e
    unfold freeAt at ht
    have h1 := List.all_eq_true.1 ht j (by simp; exact (List.getElem?_eq_some_iff.1 hoj).1)
    rw [hoj] at h1
    simp only [e, Bool.or_eq_true, List.contains_iff_mem] at h1
    rcases h1 with h1 | h1
    · simp at h1
    · have := hi.down j hj i h1
      rw [hnl] at this; cases this)
  have getd : ∀ j d, depAt ops m i j d = true → ∃ oj, ops[j]? = some oj ∧ oj.dst = some d ∧ listed[j]? = some true ∧ j < m := fun j d hdep => by
    unfold depAt at hdep
    simp only [Bool.and_eq_true] at hdep
    obtain ⟨⟨h1, h2⟩, h3⟩ := hdep
    have hjl := haft j (by simpa using h2)
    cases hoj : ops[j]? with
    | none => rw [hoj] at h1; cases h1
    | some oj =>
      rw [hoj] at h1
      simp only [Option.bind_some] at h1
      cases hd' : oj.dst with
      | none => rw [hd'] at h1; cases h1
      | some e =>
        rw [hd'] at h1
        have := Nat.eq_of_beq_eq_true h1
        subst this
        exact ⟨oj, rfl, hd', hjl, blt h3⟩
  have hdep : ∀ j d, depAt ops m i j d = true → prT Ts j (F1 d) w1 := fun j d hdep => by
    obtain ⟨oj, hoj, hd', hjl, hjm⟩ := getd j d hdep
    exact hi.fact j oj d hjm hjl hoj hd'
  have hdist : ∀ (j : Nat) (oj : Oper), j < m → j ≠ i → ops[j]? = some oj → oj.dst ≠ none → oj.dst ≠ o.dst := fun j oj hj hji hoj hne => hdo j i oj o hj him hji hoj ho hne
  have step : ∀ v w2, Keep [] w1 w2 → Ts[i] v w2 → DInv ops m Ts F w (listed.setIfInBounds i true) (putF F1 o.dst v) w2 := fun v w2 hk hv => hi.step hstT hsz hil ho haft hdist hk (fun _ _ _ => by rw [hTi]; exact hv)
  have setl : ∀ j, j ≠ i → (listed.setIfInBounds i true)[j]? = some true → listed[j]? = some true := fun j hj h => by
    rw [Array.getElem?_setIfInBounds, if_neg (fun e => hj e.symm)] at h; exact h
  have keepv : ∀ (j : Nat) (oj : Oper) (d : Tmp) (v : Value), j < m → j ≠ i → ops[j]? = some oj → oj.dst = some d → putF F1 o.dst v d = F1 d := fun j oj d v hj hji hoj hdj => by
    cases hod : o.dst with
    | none => rfl
    | some d' =>
      have hn : d ≠ d' := fun e => hdist j oj hj hji hoj (by rw [hdj]; simp) (by rw [hdj, hod, e])
      show upd F1 d' v d = F1 d
      rw [upd_ne _ _ _ hn]
  have putd : ∀ (d : Tmp) (v : Value), o.dst = some d → putF F1 o.dst v d = v := fun d v h => by rw [h]; exact upd_same _ _ _
  have hsp := hs.at_ (ops.take m) Ts Rs 0 i o Ts[i] Rs[i] (by rw [List.getElem?_take, if_pos him]; exact ho) hT hR
  rw [Nat.zero_add] at hsp
  by_cases hia : i = a
  · subst hia
    rw [show Nat.beq i i = true from Nat.beq_refl i] at hsp
    obtain ⟨hg, hsp⟩ : OpSpecA P ops m Ts Rs F w i o Ts[i] := hsp
    have h2 := hsp F1 w1 hi.keep hfree hdep
    refine ⟨fun hw => ?_, fun hw => by unfold Region.wanted at hw; rw [hg] at hw; simp at hw⟩
    have use : ∀ v w2, (Keep [] w1 w2 ∧ Ts[i] v w2 ∧ RelAll Ts Rs v w1 w2) → DInv ops m Ts F w (listed.setIfInBounds i true) (putF F1 o.dst v) w2 ∧ ∀ (oa : Oper) (da : Tmp) (q : Nat) (oq : Oper) (dq : Tmp), (listed.setIfInBounds i true)[i]? = some true → ops[i]? = some oa → oa.dst = some da → q < m → q ≠ i → (listed.setIfInBounds i true)[q]? = some true → ops[q]? = some oq → oq.dst = some dq → prR Rs q (putF F1 o.dst v da) (putF F1 o.dst v dq) w2 := by
      refine fun v w2 h => ⟨step v w2 h.1 h.2.1, fun oa da q oq dq _ hoa hda hqm hqi hlq hoq hdq => ?_⟩
      rw [ho] at hoa; cases hoa
      rw [keepv q oq dq v hqm hqi hoq hdq, putd da v hda]
      exact h.2.2.at_ (by rw [hRl, hTl]) q _ (hi.fact q oq dq hqm (setl q hqi hlq) hoq hdq) (by omega)
    unfold OpW at h2 ⊢
    generalize (execOp (evF F1) ⟨none, o.op, o.type, "", #[], none⟩).run P w1 = r at h2 ⊢
    cases r with
    | ok x w' =>
      cases x <;> simp only [uponF] at h2 ⊢ <;> try exact h2.elim
      case value v => exact use _ _ h2
      case skip => exact use _ _ h2
      case enter f args =>
        exact Calls.mono h2 fun e w'' he => by
          cases e with
          | returned v => exact use _ _ he
          | panicked c => exact he.elim
          | outgrown => exact he.elim
    | halt x w' => cases x <;> simp only [uponF] at h2 ⊢ <;> exact h2.elim
  · have hbf : Nat.beq i a = false := by
      cases hb : Nat.beq i a with
      | false => rfl
      | true => exact absurd (Nat.eq_of_beq_eq_true hb) hia
    rw [hbf] at hsp
    have hsp : OpSpecR P ops m Ts Rs F w a i o Ts[i] Rs[i] := hsp
    -- the value of operation a, if it is there
    obtain ⟨vo, hvo1, hvo2⟩ : ∃ vo : Option Value, (∀ u, vo = some u → prT Ts a u w1 ∧ ∀ j oj dj, j < m → j ≠ a → listed[j]? = some true → ops[j]? = some oj → oj.dst = some dj → prR Rs j u (F1 dj) w1) ∧ (∀ oj dj, listed[a]? = some true → ops[a]? = some oj → oj.dst = some dj → vo = some (F1 dj)) := by
      cases hoj : ops[a]? with
      | none => exact ⟨none, (fun _ h => by cases h), fun oj dj _ h => by cases h⟩
      | some oj =>
        cases hdj : oj.dst with
        | none => exact ⟨none, (fun _ h => by cases h), fun oj' dj _ h h2 => by cases h; rw [hdj] at h2; cases h2⟩
        | some dj =>
          by_cases hl : listed[a]? = some true
          · exact ⟨some (F1 dj), (fun u hu => by cases hu; exact ⟨hi.fact a oj dj ham hl hoj hdj, fun j oj' dj' hjm hja hlj hoj' hdj' => hp oj dj j oj' dj' hl hoj hdj hjm hja hlj hoj' hdj'⟩), fun oj' dj' _ h h2 => by cases h; rw [hdj] at h2; cases h2; rfl⟩
          · exact ⟨none, (fun _ h => by cases h), fun _ _ h => absurd h hl⟩
    have h1 := hsp F1 w1 hi.keep hfree hdep vo (fun u hu => (hvo1 u hu).1) (fun u hu j d hja hdj => by
      obtain ⟨oj, hoj, hd', hjl, hjm⟩ := getd j d hdj
      exact (hvo1 u hu).2 j oj d hjm hja hjl hoj hd')
    have use : ∀ v w2, (Keep [] w1 w2 ∧ Ts[i] v w2 ∧ ∀ u, vo = some u → Rs[i] u v w2) → DInv ops m Ts F w (listed.setIfInBounds i true) (putF F1 o.dst v) w2 ∧ ∀ (oa : Oper) (da : Tmp) (q : Nat) (oq : Oper) (dq : Tmp), (listed.setIfInBounds i true)[a]? = some true → ops[a]? = some oa → oa.dst = some da → q < m → q ≠ a → (listed.setIfInBounds i true)[q]? = some true → ops[q]? = some oq → oq.dst = some dq → prR Rs q (putF F1 o.dst v da) (putF F1 o.dst v dq) w2 := by
      refine fun v w2 h => ⟨step v w2 h.1 h.2.1, fun oa da q oq dq hla hoa hda hqm hqa hlq hoq hdq => ?_⟩
      have hla' := setl a (fun e => hia e.symm) hla
      rw [keepv a oa da v ham (fun e => hia e.symm) hoa hda]
      by_cases hqi : q = i
      · subst hqi
        rw [ho] at hoq; cases hoq
        rw [putd dq v hdq, hRi]
        exact h.2.2 _ (hvo2 oa da hla' hoa hda)
      · rw [keepv q oq dq v hqm hqi hoq hdq]
        exact hstR _ _ _ _ _ (hp oa da q oq dq hla' hoa hda hqm hqa (setl q hqi hlq) hoq hdq) h.1
    refine ⟨fun hw => ?_, fun hw => ?_⟩
    · have h2 := h1.1 hw
      unfold OpW at h2 ⊢
      generalize (execOp (evF F1) ⟨none, o.op, o.type, "", #[], none⟩).run P w1 = r at h2 ⊢
      cases r with
      | ok x w' =>
        cases x <;> simp only [uponF] at h2 ⊢ <;> try exact h2.elim
        case value v => exact use _ _ h2
        case skip => exact use _ _ h2
        case enter f args =>
          exact Calls.mono h2 fun e w'' he => by
            cases e with
            | returned v => exact use _ _ he
            | panicked c => exact he.elim
            | outgrown => exact he.elim
      | halt x w' => cases x <;> simp only [uponF] at h2 ⊢ <;> exact h2.elim
    · exact use undef w1 ⟨Keep.refl _ _, (h1.2 hw).1, (h1.2 hw).2⟩
/-- A region that draws its order; operation a is said together with all others. -/
theorem cw_drawR {id : Nat} {ops : List Oper} {F : Fr} {w : World} (m a : Nat) (pre tl : List Oper) (Ts : List Pr) (Rs : List Pr2) (hm : P.follows .mixedOrders = true) (hok : ops.all (okO n ops) = true) (hd : drawOk ops m = true) (hlen : (Nat.beq Ts.length m && Nat.ble m ops.length && Nat.beq Rs.length m && Nat.blt a m) = true)
    (hpre : ops.take m = pre) (htl : ops.drop m = tl) (hst : Stab Ts) (hsr : StabR Rs)
    (hs : SpecsR P ops m Ts Rs F w.drew a 0 pre Ts Rs)
    (fin : ∀ F1 w1, Keep [] w w1 → (∀ i d, depAt' ops i d = true → i < m → prT Ts i (F1 d) w1) → (∀ da i di, depAt' ops a da = true → depAt' ops i di = true → i < m → i ≠ a → prR Rs i (F1 da) (F1 di) w1) → (∀ t, outAt ops m t = true → F1 t = F t) → WL false P ops Q tl F1 w1) : CW P (ro := none) n (.region id ops.toArray true) Q F w := by
  subst hpre; subst htl
  simp only [Bool.and_eq_true] at hlen
  have hle : m ≤ ops.length := Nat.le_of_ble_eq_true hlen.1.1.2
  have hTl : Ts.length = m := Nat.eq_of_beq_eq_true hlen.1.1.1
  have hRl : Rs.length = m := Nat.eq_of_beq_eq_true hlen.1.2
  have ham : a < m := blt hlen.2
  have hdo := DOk.of hd
  have hdr : ({ w with drawn := w.drawn + 1 } : World) = w.drew := rfl
  have hstT : ∀ i v w w', prT Ts i v w → Keep [] w w' → prT Ts i v w' := fun i v w w' h hk => by
    unfold prT at h ⊢
    cases hT : Ts[i]? with
    | none => rw [hT] at h; exact trivial
    | some T => rw [hT] at h; exact hst.of T (List.mem_of_getElem? hT) v w w' h hk
  have hstR : ∀ i u v w w', prR Rs i u v w → Keep [] w w' → prR Rs i u v w' := fun i u v w w' h hk => by
    unfold prR at h ⊢
    cases hT : Rs[i]? with
    | none => rw [hT] at h; exact trivial
    | some T => rw [hT] at h; exact hsr.of T (List.mem_of_getElem? hT) u v w w' h hk
  refine wpIn_wide.2 (wp_region_any hm ?_)
  rw [hdr, List.size_toArray]
  refine draw_runG (PInv ops m Ts Rs F w.drew a) hdo hok hle (fun listed F1 w1 h => h.1.down) ?_ ?_ ops.length _ F w.drew (by simp) ?_ (fun j _ => ?_) ⟨⟨Keep.refl _ _, fun i hi => ?_, fun i o d _ hi => ?_, fun _ _ => rfl⟩, fun oa da i oi di h => ?_⟩
  · exact fun listed F1 w1 i o hsz h him ho hnl haft => stepR (fun i j oi oj hi hj hij hoi hoj hne => hdo.dist i j oi oj hi hj hij hoi hoj hne) hTl hRl ham (Nat.le_trans (Nat.le_of_eq rfl) hle) hstT hstR hs hsz h him ho hnl haft
  · intro listed F1 w1 ⟨hi, hp⟩ hall hno
    have get : ∀ (i d : Nat), depAt' ops i d = true → ∃ o, ops[i]? = some o ∧ o.dst = some d := fun i d h => by
      unfold depAt' at h
      cases ho : ops[i]? with
      | none => rw [ho] at h; cases h
      | some o =>
        rw [ho] at h
        simp only [Option.bind_some] at h
        cases hd' : o.dst with
        | none => rw [hd'] at h; cases h
        | some e =>
          rw [hd'] at h
          have := Nat.eq_of_beq_eq_true h
          subst this
          exact ⟨o, rfl, hd'⟩
    refine fin F1 w1 ((Keep.drew [] w).trans hi.keep) (fun i d hdp him => ?_) (fun da i di hda hdi him hia => ?_) (fun t ht => hi.free t (fun j o hj ho e => ?_))
    · obtain ⟨o, ho, hd'⟩ := get i d hdp
      exact hi.fact i o d him (hall i him) ho hd'
    · obtain ⟨oa, hoa, hda'⟩ := get a da hda
      obtain ⟨oi, hoi, hdi'⟩ := get i di hdi
      exact hp oa da i oi di (hall a ham) hoa hda' him hia (hall i him) hoi hdi'
    · rcases Nat.lt_or_ge j m with h1 | h1
      · unfold outAt at ht
        have h3 := List.all_eq_true.1 ht o (List.mem_of_getElem? (by rw [List.getElem?_take, if_pos h1]; exact ho))
        rw [e] at h3; simp at h3
      · exact absurd hj (hno j h1)
  · unfold unl; exact Nat.le_trans (List.countP_le_length) (by simp)
  all_goals simp_all [Array.getElem?_replicate]
/-- The same, where operations of the first part may come behind operation m. -/
theorem cw_drawRL {id : Nat} {ops : List Oper} {F : Fr} {w : World} (m a : Nat) (late : List Nat) (pre : List Oper) (om : Oper) (tl : List Oper) (Ts : List Pr) (Rs : List Pr2) (hm : P.follows .mixedOrders = true) (hok : ops.all (okO n ops) = true) (hd : lateOk ops m late = true) (hlen : (Nat.beq Ts.length m && Nat.beq Rs.length m && Nat.blt a m && !late.contains a) = true) (hnd : late.Nodup)
    (hpre : ops.take m = pre) (hom : ops[m]? = some om) (htl : seqOps ops (tailSeq ops m) = tl) (hst : Stab Ts) (hsr : StabR Rs) (hs : SpecsR P ops m Ts Rs F w.drew a 0 pre Ts Rs)
    (fin : ∀ F1 w1, Keep [] w w1 → (∀ i d, depAt' ops i d = true → i < m → prT Ts i (F1 d) w1) → (∀ da i di, depAt' ops a da = true → depAt' ops i di = true → i < m → i ≠ a → prR Rs i (F1 da) (F1 di) w1) → (∀ t, outAt ops m t = true → F1 t = F t) → WL false P ops Q (om :: tl) F1 w1)
    (finL : ∀ c, c < late.length → ∀ F1 w1, Keep [] w w1 → (∀ i d, depAt' ops i d = true → i < m → (late.drop c).contains i = false → prT Ts i (F1 d) w1) → (∀ da i di, depAt' ops a da = true → depAt' ops i di = true → i < m → i ≠ a → (late.drop c).contains i = false → prR Rs i (F1 da) (F1 di) w1) → (∀ t, outAt ops m t = true → F1 t = F t) → WL false P ops Q (om :: (seqOps ops (late.drop c) ++ tl)) F1 w1) :
    CW P (ro := none) n (.region id ops.toArray true) Q F w := by
  subst hpre; subst htl
  simp only [Bool.and_eq_true] at hlen
  have hTl : Ts.length = m := Nat.eq_of_beq_eq_true hlen.1.1.1
  have hRl : Rs.length = m := Nat.eq_of_beq_eq_true hlen.1.1.2
  have ham : a < m := blt hlen.1.2
  have hal : a ∉ late := by have := hlen.2; simpa using this
  have hdr : ({ w with drawn := w.drawn + 1 } : World) = w.drew := rfl
  have hstT : ∀ i v w w', prT Ts i v w → Keep [] w w' → prT Ts i v w' := fun i v w w' h hk => by
    unfold prT at h ⊢
    cases hT : Ts[i]? with
    | none => rw [hT] at h; exact trivial
    | some T => rw [hT] at h; exact hst.of T (List.mem_of_getElem? hT) v w w' h hk
  have hstR : ∀ i u v w w', prR Rs i u v w → Keep [] w w' → prR Rs i u v w' := fun i u v w w' h hk => by
    unfold prR at h ⊢
    cases hT : Rs[i]? with
    | none => rw [hT] at h; exact trivial
    | some T => rw [hT] at h; exact hsr.of T (List.mem_of_getElem? hT) u v w w' h hk
  have hd' := hd
  unfold lateOk at hd'
  simp only [Bool.and_eq_true] at hd'
  obtain ⟨⟨⟨⟨⟨⟨⟨⟨⟨d1, d2⟩, d3⟩, d4⟩, d5⟩, d6⟩, d7⟩, d8⟩, d9⟩, d10⟩ := hd'
  have hml : m < ops.length := blt d5
  have hdist : ∀ (i j : Nat) (oi oj : Oper), i < m → j < m → i ≠ j → ops[i]? = some oi → ops[j]? = some oj → oi.dst ≠ none → oi.dst ≠ oj.dst := by
    intro i j oi oj hi hj hij hoi hoj hne
    have := List.all_eq_true.1 (List.all_eq_true.1 d1 i (by simpa using hi)) j (by simpa using hj)
    simp only [Bool.or_eq_true] at this
    rcases this with h5 | h5
    · exact absurd (Nat.eq_of_beq_eq_true h5) hij
    · rw [hoi, hoj] at h5
      intro e
      cases hd : oi.dst with
      | none => exact hne hd
      | some d =>
        rw [hd] at e
        simp only [Option.bind_some, hd, ← e] at h5
        simp at h5
  have get : ∀ (i d : Nat), depAt' ops i d = true → ∃ o, ops[i]? = some o ∧ o.dst = some d := fun i d h => by
    unfold depAt' at h
    cases ho : ops[i]? with
    | none => rw [ho] at h; cases h
    | some o =>
      rw [ho] at h
      simp only [Option.bind_some] at h
      cases hd' : o.dst with
      | none => rw [hd'] at h; cases h
      | some e =>
        rw [hd'] at h
        have := Nat.eq_of_beq_eq_true h
        subst this
        exact ⟨o, rfl, hd'⟩
  have free : ∀ listed F1 w1, PInv ops m Ts Rs F w.drew a listed F1 w1 → (∀ j, m ≤ j → listed[j]? ≠ some true) → ∀ t, outAt ops m t = true → F1 t = F t := fun listed F1 w1 hi hno t ht => hi.1.free t (fun j o hj ho e => by
    rcases Nat.lt_or_ge j m with h1 | h1
    · unfold outAt at ht
      have h3 := List.all_eq_true.1 ht o (List.mem_of_getElem? (by rw [List.getElem?_take, if_pos h1]; exact ho))
      rw [e] at h3; simp at h3
    · exact absurd hj (hno j h1))
  refine wpIn_wide.2 (wp_region_any hm ?_)
  rw [hdr, List.size_toArray]
  refine draw_runM (PInv ops m Ts Rs F w.drew a) hd hnd hok hom (fun listed F1 w1 h => h.1.down) (fun listed F1 w1 i o hsz h him ho hnl haft => stepR hdist hTl hRl ham (by omega) hstT hstR hs hsz h him ho hnl haft) (fun listed F1 w1 hi hall hno => ?_) (fun c hc listed F1 w1 hi hall hno => ?_) ops.length _ F w.drew (by simp) ?_ (fun j _ => ?_) ⟨⟨Keep.refl _ _, fun i hi => ?_, fun i o d _ hi => ?_, fun _ _ => rfl⟩, fun oa da i oi di h => ?_⟩
  · refine fin F1 w1 ((Keep.drew [] w).trans hi.1.keep) (fun i d hdp him => ?_) (fun da i di hda hdi him hia => ?_) (free listed F1 w1 hi hno)
    · obtain ⟨o, ho, hd'⟩ := get i d hdp
      exact hi.1.fact i o d him (hall i him) ho hd'
    · obtain ⟨oa, hoa, hda'⟩ := get a da hda
      obtain ⟨oi, hoi, hdi'⟩ := get i di hdi
      exact hi.2 oa da i oi di (hall a ham) hoa hda' him hia (hall i him) hoi hdi'
  · refine finL c hc F1 w1 ((Keep.drew [] w).trans hi.1.keep) (fun i d hdp him hn => ?_) (fun da i di hda hdi him hia hn => ?_) (free listed F1 w1 hi hno)
    · obtain ⟨o, ho, hd'⟩ := get i d hdp
      exact hi.1.fact i o d him ((hall i him).2 (by simpa using hn)) ho hd'
    · obtain ⟨oa, hoa, hda'⟩ := get a da hda
      obtain ⟨oi, hoi, hdi'⟩ := get i di hdi
      exact hi.2 oa da i oi di ((hall a ham).2 (fun h => hal (List.mem_of_mem_drop h))) hoa hda' him hia ((hall i him).2 (by simpa using hn)) hoi hdi'
  · unfold unl; exact Nat.le_trans (List.countP_le_length) (by simp)
  all_goals simp_all [Array.getElem?_replicate]
end
end Go.Fw
