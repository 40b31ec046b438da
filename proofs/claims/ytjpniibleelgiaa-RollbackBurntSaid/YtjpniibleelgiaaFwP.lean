/- A region that draws its order, where two of its operations are said together. Program-independent. -/
import Derived.Test.YtjpniibleelgiaaFwY
import Derived.Test.YtjpniibleelgiaaFwL
set_option linter.unusedSimpArgs false
set_option linter.unusedVariables false
namespace Go.Fw
open Go.RowKit

section
variable {P : Program} {n : Nat} {Q : Exit → Fr → World → Prop}

/-- The first m operations, in whatever order, under an invariant. -/
theorem draw_runG {ops : List Oper} {m : Nat} (INV : Array Bool → Fr → World → Prop) (hd : DOk ops m) (hok : ops.all (okO n ops) = true) (hm : m ≤ ops.length)
    (hdown : ∀ listed F1 w1, INV listed F1 w1 → ∀ i, listed[i]? = some true → ∀ j ∈ aft ops i, listed[j]? = some true)
    (hstep : ∀ (listed : Array Bool) (F1 : Fr) (w1 : World) (i : Nat) (o : Oper), listed.size = ops.length → INV listed F1 w1 → i < m → ops[i]? = some o → listed[i]? = some false → (∀ j ∈ aft ops i, listed[j]? = some true) →
      (Region.wanted o (yieldF ops F1) = true → OpW P o.op o.type F1 w1 (fun v w2 => INV (listed.setIfInBounds i true) (putF F1 o.dst v) w2) (fun _ _ => False)) ∧
      (Region.wanted o (yieldF ops F1) = false → INV (listed.setIfInBounds i true) (putF F1 o.dst undef) w1))
    (fin : ∀ listed F1 w1, INV listed F1 w1 → (∀ j, j < m → listed[j]? = some true) → (∀ j, m ≤ j → listed[j]? ≠ some true) → WL false P ops Q (ops.drop m) F1 w1) :
    ∀ (fuel : Nat) (listed : Array Bool) (F1 : Fr) (w1 : World), listed.size = ops.length → unl ops listed ≤ fuel → (∀ j, m ≤ j → listed[j]? ≠ some true) → INV listed F1 w1 → wpAny P .any ops.toArray (lift n Q) fuel listed (mk n F1) w1 := by
  intro fuel
  have toTail : ∀ (fuel : Nat) (listed : Array Bool) (F1 : Fr) (w1 : World), listed.size = ops.length → unl ops listed ≤ fuel → (∀ j, m ≤ j → listed[j]? ≠ some true) → INV listed F1 w1 → (∀ j, j < m → listed[j]? = some true) → wpAny P .any ops.toArray (lift n Q) fuel listed (mk n F1) w1 := by
    intro fuel listed F1 w1 hsz hfu hno hi hall
    have hfl : ops.length ≤ m + fuel := by
      have : ops.length - m ≤ unl ops listed := by
        unfold unl
        have e : List.range ops.length = List.range m ++ (List.range (ops.length - m)).map (m + ·) := by
          rw [← List.range_add]; congr 1; omega
        rw [e, List.countP_append]
        have : ((List.range (ops.length - m)).map (m + ·)).countP (fun j => listed[j]? != some true) = ops.length - m := by
          rw [List.countP_eq_length.2]
          · simp
          · intro j hj
            obtain ⟨q, _, rfl⟩ := List.mem_map.1 hj
            have := hno (m + q) (by omega)
            simpa using this
        omega
      omega
    refine tail_run hd hok fuel m listed F1 w1 hsz (Nat.le_refl _) hfl hm (fun j hj => ⟨fun h => ?_, fun h => hall j h⟩) (fin listed F1 w1 hi hall hno)
    rcases Nat.lt_or_ge j m with h1 | h1
    · exact h1
    · exact absurd h (hno j h1)
  induction fuel with
  | zero =>
    intro listed F1 w1 hsz hfu hno hi
    refine toTail 0 listed F1 w1 hsz hfu hno hi (fun j hj => ?_)
    have h0 : unl ops listed = 0 := by omega
    unfold unl at h0
    have := List.countP_eq_zero.1 h0 j (by simp; omega)
    simpa using this
  | succ fuel ih =>
    intro listed F1 w1 hsz hfu hno hi
    by_cases hall : ∀ j, j < m → listed[j]? = some true
    · exact toTail (fuel + 1) listed F1 w1 hsz hfu hno hi hall
    · have hex : ∃ j, j < m ∧ listed[j]? ≠ some true := by
        refine Classical.byContradiction fun hc => hall fun j hj => Classical.byContradiction fun hn => hc ⟨j, hj, hn⟩
      have hmin : ∀ q j, q = j → j < m → listed[j]? ≠ some true → ∃ k, k < m ∧ listed[k]? ≠ some true ∧ ∀ i, i < k → listed[i]? = some true := by
        intro q
        induction q using Nat.strongRecOn with
        | _ q ihq =>
          intro j hqj hj hn
          by_cases hb : ∀ i, i < j → listed[i]? = some true
          · exact ⟨j, hj, hn, hb⟩
          · have : ∃ i, i < j ∧ listed[i]? ≠ some true := Classical.byContradiction fun hc => hb fun i hi => Classical.byContradiction fun hn => hc ⟨i, hi, hn⟩
            obtain ⟨i, hij, hni⟩ := this
            exact ihq i (by omega) i rfl (by omega) hni
      obtain ⟨j0, hj0, hn0⟩ := hex
      obtain ⟨k, hkm, hkn, hkb⟩ := hmin j0 j0 rfl hj0 hn0
      refine ⟨fun h0 => ?_, fun i hir => ?_⟩
      · have := ready_of hd hsz (by omega) hkn hkb
        rw [h0] at this; cases this
      · obtain ⟨hnl, hil⟩ := notyet hir hsz
        have him : i < m := by
          rcases Nat.lt_or_ge i m with h1 | h1
          · exact h1
          · exact absurd (ready_tail hd hsz (hdown _ _ _ hi) hir h1 k (by omega)) hkn
        have ho : ops[i]? = some ops[i] := List.getElem?_eq_getElem hil
        have haft := aft_ready ho hir hsz (fun j hj => Nat.lt_trans (hd.back i hil j hj) hil)
        have hsp := hstep listed F1 w1 i ops[i] hsz hi him ho hnl haft
        have hno' : ∀ j, m ≤ j → (listed.setIfInBounds i true)[j]? ≠ some true := fun j hj => by
          rw [Array.getElem?_setIfInBounds, if_neg (by omega)]; exact hno j hj
        refine wpOp_F (K := fun F2 w2 => INV (listed.setIfInBounds i true) F2 w2) hok ho (fun F2 w2 hK => ih _ F2 w2 (by simpa using hsz) (by have := unl_set hil hsz hnl; omega) hno' hK) (fun hw => ?_) (fun hw => hsp.2 hw)
        have h1 := hsp.1 hw
        unfold OpW at h1 ⊢
        generalize (execOp (evF F1) ⟨none, ops[i].op, ops[i].type, "", #[], none⟩).run P w1 = r at h1 ⊢
        cases r with
        | ok x w' =>
          cases x <;> simp only [uponF] at h1 ⊢ <;> try exact h1.elim
          case value v => exact h1
          case skip => exact h1
          case enter f args =>
            exact Calls.mono h1 fun e w'' he => by
              cases e with
              | returned v => exact he
              | panicked c => exact he.elim
              | outgrown => exact he.elim
        | halt x w' => cases x <;> simp only [uponF] at h1 ⊢ <;> exact h1.elim

/-- The first m operations, in whatever order, under an invariant; some may come behind operation m. -/
theorem draw_runM {ops : List Oper} {m : Nat} {late : List Nat} {om : Oper} (INV : Array Bool → Fr → World → Prop) (hd : lateOk ops m late = true) (hndl : late.Nodup) (hok : ops.all (okO n ops) = true) (hom : ops[m]? = some om)
    (hdown : ∀ listed F1 w1, INV listed F1 w1 → ∀ i, listed[i]? = some true → ∀ j ∈ aft ops i, listed[j]? = some true)
    (hstep : ∀ (listed : Array Bool) (F1 : Fr) (w1 : World) (i : Nat) (o : Oper), listed.size = ops.length → INV listed F1 w1 → i < m → ops[i]? = some o → listed[i]? = some false → (∀ j ∈ aft ops i, listed[j]? = some true) →
      (Region.wanted o (yieldF ops F1) = true → OpW P o.op o.type F1 w1 (fun v w2 => INV (listed.setIfInBounds i true) (putF F1 o.dst v) w2) (fun _ _ => False)) ∧
      (Region.wanted o (yieldF ops F1) = false → INV (listed.setIfInBounds i true) (putF F1 o.dst undef) w1))
    (fin : ∀ listed F1 w1, INV listed F1 w1 → (∀ j, j < m → listed[j]? = some true) → (∀ j, m ≤ j → listed[j]? ≠ some true) → WL false P ops Q (om :: seqOps ops (tailSeq ops m)) F1 w1)
    (finL : ∀ c, c < late.length → ∀ listed F1 w1, INV listed F1 w1 → (∀ j, j < m → (listed[j]? = some true ↔ j ∉ late.drop c)) → (∀ j, m ≤ j → listed[j]? ≠ some true) → WL false P ops Q (om :: (seqOps ops (late.drop c) ++ seqOps ops (tailSeq ops m))) F1 w1) :
    ∀ (fuel : Nat) (listed : Array Bool) (F1 : Fr) (w1 : World), listed.size = ops.length → unl ops listed ≤ fuel → (∀ j, m ≤ j → listed[j]? ≠ some true) → INV listed F1 w1 → wpAny P .any ops.toArray (lift n Q) fuel listed (mk n F1) w1 := by
  unfold lateOk at hd
  simp only [Bool.and_eq_true] at hd
  obtain ⟨⟨⟨⟨⟨⟨⟨⟨⟨d1, d2⟩, d3⟩, d4⟩, d5⟩, d6⟩, d7⟩, d8⟩, d9⟩, d10⟩ := hd
  have hml : m < ops.length := blt d5
  have hback : ∀ k, k < ops.length → ∀ j ∈ aft ops k, j < k := fun k hk j hj => blt (List.all_eq_true.1 (List.all_eq_true.1 d4 k (by simpa using hk)) j hj)
  have hin : ∀ k, k < ops.length → ∀ j ∈ aft ops k, j < ops.length := fun k hk j hj => Nat.lt_trans (hback k hk j hj) hk
  have hlm : ∀ j ∈ late, j < m := fun j hj => blt (List.all_eq_true.1 d6 j hj)
  have htl : ∀ j, j ∈ tailSeq ops m ↔ m < j ∧ j < ops.length := fun j => by
    unfold tailSeq
    rw [List.mem_iff_getElem?]
    simp only [List.getElem?_drop]
    constructor
    · rintro ⟨i, hi⟩
      have := (List.getElem?_eq_some_iff.1 hi)
      obtain ⟨h1, h2⟩ := this
      simp at h1 h2; omega
    · rintro ⟨h1, h2⟩
      exact ⟨j - (m + 1), by rw [List.getElem?_eq_getElem (by simp; omega)]; simp; omega⟩
  have hndt : (tailSeq ops m).Nodup := by unfold tailSeq; exact List.Nodup.sublist (List.drop_sublist _ _) List.nodup_range
  intro fuel
  induction fuel with
  | zero =>
    intro listed F1 w1 hsz hfu hno hi
    exfalso
    have h0 : unl ops listed = 0 := by omega
    unfold unl at h0
    have := List.countP_eq_zero.1 h0 m (by simpa using hml)
    exact hno m (Nat.le_refl _) (by simpa using this)
  | succ fuel ih =>
    intro listed F1 w1 hsz hfu hno hi
    have hmn : listed[m]? = some false := by
      have h1 := hno m (Nat.le_refl _)
      have : m < listed.size := by omega
      rw [Array.getElem?_eq_getElem this] at h1 ⊢
      simpa using h1
    by_cases hall : ∀ j, j < m → listed[j]? = some true
    · -- all of the first part have been carried out
      have e : seqOps ops (m :: tailSeq ops m) = om :: seqOps ops (tailSeq ops m) := by unfold seqOps; rw [List.filterMap_cons, hom]
      refine forced_run hok hin (m :: tailSeq ops m) (fuel + 1) listed F1 w1 hsz hfu (fun j hj => ⟨fun h => ?_, fun h => ?_⟩) (fun j hj => ?_) (List.nodup_cons.2 ⟨fun h => by have := (htl m).1 h; omega, hndt⟩) d8 (hdown _ _ _ hi) (by
        rw [e]
        exact fin listed F1 w1 hi hall hno)
      · intro hm'
        have : m ≤ j := by rcases List.mem_cons.1 hm' with h1 | h1; omega; have := (htl j).1 h1; omega
        exact hno j this h
      · exact hall j (by
          rcases Nat.lt_or_ge j m with h1 | h1
          · exact h1
          · exfalso; apply h
            rcases Nat.eq_or_lt_of_le h1 with h2 | h2
            · subst h2; simp
            · exact List.mem_cons_of_mem _ ((htl j).2 ⟨h2, hj⟩))
      · rcases List.mem_cons.1 hj with h1 | h1
        · omega
        · exact ((htl j).1 h1).2
    · have hex : ∃ j, j < m ∧ listed[j]? ≠ some true := by
        refine Classical.byContradiction fun hc => hall fun j hj => Classical.byContradiction fun hn => hc ⟨j, hj, hn⟩
      have hmin : ∀ q j, q = j → j < m → listed[j]? ≠ some true → ∃ k, k < m ∧ listed[k]? ≠ some true ∧ ∀ i, i < k → listed[i]? = some true := by
        intro q
        induction q using Nat.strongRecOn with
        | _ q ihq =>
          intro j hqj hj hn
          by_cases hb : ∀ i, i < j → listed[i]? = some true
          · exact ⟨j, hj, hn, hb⟩
          · have : ∃ i, i < j ∧ listed[i]? ≠ some true := Classical.byContradiction fun hc => hb fun i hi => Classical.byContradiction fun hn => hc ⟨i, hi, hn⟩
            obtain ⟨i, hij, hni⟩ := this
            exact ihq i (by omega) i rfl (by omega) hni
      obtain ⟨j0, hj0, hn0⟩ := hex
      obtain ⟨k, hkm, hkn, hkb⟩ := hmin j0 j0 rfl hj0 hn0
      have hkf : listed[k]? = some false := by
        have : k < listed.size := by omega
        rw [Array.getElem?_eq_getElem this] at hkn ⊢
        simpa using hkn
      refine ⟨fun h0 => ?_, fun i hir => ?_⟩
      · have := ready_of' hsz (by omega) hkf (fun j hj => hkb j (hback k (by omega) j hj))
        rw [h0] at this; cases this
      · obtain ⟨hnl, hil⟩ := notyet hir hsz
        have ho : ops[i]? = some ops[i] := List.getElem?_eq_getElem hil
        have haft := aft_ready ho hir hsz (hin i hil)
        have hclose : ∀ j, waitsB ops i j = true → listed[j]? = some true := fun j hj => by
          unfold waitsB at hj
          exact grow_sub (D := fun j => listed[j]? = some true) (hdown _ _ _ hi) _ _ haft j (by simpa using hj)
        rcases Nat.lt_or_ge i m with him | hge
        · have hsp := hstep listed F1 w1 i ops[i] hsz hi him ho hnl haft
          have hno' : ∀ j, m ≤ j → (listed.setIfInBounds i true)[j]? ≠ some true := fun j hj => by
            rw [Array.getElem?_setIfInBounds, if_neg (by omega)]; exact hno j hj
          refine wpOp_F (K := fun F2 w2 => INV (listed.setIfInBounds i true) F2 w2) hok ho (fun F2 w2 hK => ih _ F2 w2 (by simpa using hsz) (by have := unl_set hil hsz hnl; omega) hno' hK) (fun hw => ?_) (fun hw => hsp.2 hw)
          have h1 := hsp.1 hw
          unfold OpW at h1 ⊢
          generalize (execOp (evF F1) ⟨none, ops[i].op, ops[i].type, "", #[], none⟩).run P w1 = r at h1 ⊢
          cases r with
          | ok x w' =>
            cases x <;> simp only [uponF] at h1 ⊢ <;> try exact h1.elim
            case value v => exact h1
            case skip => exact h1
            case enter f args =>
              exact Calls.mono h1 fun e w'' he => by
                cases e with
                | returned v => exact he
                | panicked c => exact he.elim
                | outgrown => exact he.elim
          | halt x w' => cases x <;> simp only [uponF] at h1 ⊢ <;> exact h1.elim
        · -- operation m comes ahead of some late ones
          have him : i = m := by
            rcases Nat.eq_or_lt_of_le hge with h1 | h1
            · exact h1.symm
            · have h2 := hclose m (List.all_eq_true.1 d3 i ((htl i).2 ⟨h1, hil⟩))
              rw [hmn] at h2; cases h2
          subst him
          have hnl' : ∀ j, j < i → j ∉ late → listed[j]? = some true := fun j hj hjl => by
            have h1 := List.all_eq_true.1 d2 j (by simpa using hj)
            simp only [Bool.or_eq_true, List.contains_iff_mem] at h1
            exact hclose j (h1.resolve_left hjl)
          have hex2 : ∃ (c : Nat) (j : Nat), late[c]? = some j ∧ listed[j]? ≠ some true := by
            have h1 : j0 ∈ late := Classical.byContradiction fun hc => hn0 (hnl' j0 hj0 hc)
            obtain ⟨c, hc⟩ := List.mem_iff_getElem?.1 h1
            exact ⟨c, j0, hc, hn0⟩
          have hminc : ∀ q c : Nat, q = c → (∃ j : Nat, late[c]? = some j ∧ listed[j]? ≠ some true) → ∃ c' : Nat, (∃ j : Nat, late[c']? = some j ∧ listed[j]? ≠ some true) ∧ ∀ x j : Nat, x < c' → late[x]? = some j → listed[j]? = some true := by
            intro q
            induction q using Nat.strongRecOn with
            | _ q ihq =>
              intro c hqc hc
              by_cases hb : ∀ x j : Nat, x < c → late[x]? = some j → listed[j]? = some true
              · exact ⟨c, hc, hb⟩
              · have : ∃ x j : Nat, x < c ∧ late[x]? = some j ∧ listed[j]? ≠ some true := Classical.byContradiction fun hcn => hb fun x j hx hj => Classical.byContradiction fun hn => hcn ⟨x, j, hx, hj, hn⟩
                obtain ⟨x, j, hx, hj, hn⟩ := this
                exact ihq x (by omega) x rfl ⟨j, hj, hn⟩
          obtain ⟨c0, hc0⟩ := hex2
          obtain ⟨c, ⟨jc, hjc, hjn⟩, hcb⟩ := hminc c0 c0 rfl hc0
          have hcl : c < late.length := (List.getElem?_eq_some_iff.1 hjc).1
          have hcw : ∀ b a, listed[b]? = some true → waitsB ops b a = true → listed[a]? = some true := fun b a hb hba => by
            unfold waitsB at hba
            exact grow_sub (D := fun j => listed[j]? = some true) (hdown _ _ _ hi) _ _ ((hdown _ _ _ hi) b hb) a (by simpa using hba)
          have hdropn : ∀ j ∈ late.drop c, ¬ listed[j]? = some true := chain_up (D := fun j => listed[j]? = some true) hcw late d7 c ⟨jc, hjc, hjn⟩
          have hdropm : ∀ j, j < i → (listed[j]? = some true ↔ j ∉ late.drop c) := fun j hj => by
            constructor
            · intro h1 h2; exact hdropn j h2 h1
            · intro h1
              by_cases hjl : j ∈ late
              · obtain ⟨x, hx⟩ := List.mem_iff_getElem?.1 hjl
                by_cases hxc : x < c
                · exact hcb x j hxc hx
                · exfalso; apply h1
                  exact List.mem_iff_getElem?.2 ⟨x - c, by rw [List.getElem?_drop, show c + (x - c) = x by omega]; exact hx⟩
              · exact hnl' j hj hjl
          have hK := finL c hcl listed F1 w1 hi hdropm hno
          have hom' : om = ops[i] := by rw [ho] at hom; exact (Option.some.inj hom).symm
          have hso : seqOps ops (late.drop c) ++ seqOps ops (tailSeq ops i) = seqOps ops (late.drop c ++ tailSeq ops i) := by unfold seqOps; rw [List.filterMap_append]
          rw [hso, hom'] at hK
          have hset : ∀ j, (listed.setIfInBounds i true)[j]? = some true ↔ j = i ∨ listed[j]? = some true := fun j => by
            rw [Array.getElem?_setIfInBounds]
            by_cases hji : i = j
            · subst hji; simp; omega
            · rw [if_neg hji]; exact ⟨fun h => .inr h, fun h => h.resolve_left (fun e => hji e.symm)⟩
          refine wpOp_F (K := fun F w => WL false P ops Q (seqOps ops (late.drop c ++ tailSeq ops i)) F w) hok ho (fun F2 w2 hK2 => forced_run hok hin (late.drop c ++ tailSeq ops i) fuel _ F2 w2 (by simpa using hsz) (by have := unl_set hil hsz hnl; omega) (fun j hj => ?_) (fun j hj => ?_) ?_ (List.all_eq_true.1 d9 c (by simpa using hcl)) (fun j hj q hq => ?_) hK2) (fun hw => ?_) (fun hw => ?_)
          · rw [hset j, List.mem_append, htl j]
            constructor
            · rintro (rfl | h1)
              · rintro (h2 | h2)
                · have := hlm j (List.mem_of_mem_drop h2); omega
                · omega
              · rintro (h2 | h2)
                · exact hdropn j h2 h1
                · exact hno j (by omega) h1
            · intro h1
              rcases Nat.lt_trichotomy j i with h2 | h2 | h2
              · exact .inr ((hdropm j h2).2 (fun h3 => h1 (.inl h3)))
              · exact .inl h2
              · exact absurd (.inr ⟨h2, hj⟩) h1
          · rcases List.mem_append.1 hj with h1 | h1
            · have := hlm j (List.mem_of_mem_drop h1); omega
            · exact ((htl j).1 h1).2
          · refine List.nodup_append.2 ⟨List.Nodup.sublist (List.drop_sublist _ _) hndl, hndt, fun a ha b hb e => ?_⟩
            have h1 := hlm a (List.mem_of_mem_drop ha)
            have h2 := (htl b).1 hb
            omega
          · rw [hset q]
            rcases (hset j).1 hj with rfl | h1
            · exact .inr (haft q hq)
            · exact .inr ((hdown _ _ _ hi) j h1 q hq)
          · unfold WL at hK; rw [if_pos hw] at hK; exact hK.resolve_right (fun e => by cases e.1)
          · unfold WL at hK; rw [if_neg (by rw [hw]; simp)] at hK; exact hK
abbrev Pr2 := Value → Value → World → Prop
def prR (Rs : List Pr2) (i : Nat) : Pr2 := (Rs[i]?).getD (fun _ _ _ => True)
/-- What is asked of operation i beside operation a. -/
def OpSpecR (P : Program) (ops : List Oper) (m : Nat) (Ts : List Pr) (Rs : List Pr2) (F : Fr) (w : World) (a i : Nat) (o : Oper) (T : Pr) (R : Pr2) : Prop :=
  ∀ F1 w1, Keep [] w w1 → (∀ t, freeAt ops i t = true → F1 t = F t) → (∀ j d, depAt ops m i j d = true → prT Ts j (F1 d) w1) →
    ∀ vo : Option Value, (∀ u, vo = some u → prT Ts a u w1) → (∀ u, vo = some u → ∀ j d, j ≠ a → depAt ops m i j d = true → prR Rs j u (F1 d) w1) →
    (Region.wanted o (yieldF ops F1) = true → OpW P o.op o.type F1 w1 (fun v w2 => Keep [] w1 w2 ∧ T v w2 ∧ ∀ u, vo = some u → R u v w2) (fun _ _ => False)) ∧
    (Region.wanted o (yieldF ops F1) = false → T undef w1 ∧ ∀ u, vo = some u → R u undef w1)
def RelAll : List Pr → List Pr2 → Value → World → World → Prop
  | T :: Ts, R :: Rs, v, w1, w2 => (∀ x, T x w1 → R v x w2) ∧ RelAll Ts Rs v w1 w2
  | _, _, _, _, _ => True
theorem RelAll.at_ : ∀ {Ts : List Pr} {Rs : List Pr2} {v : Value} {w1 w2 : World}, Rs.length = Ts.length → RelAll Ts Rs v w1 w2 → ∀ i x, prT Ts i x w1 → i < Ts.length → prR Rs i v x w2
  | [], _, _, _, _, _, _, i, x, _, hi => by simp at hi
  | T :: Ts, [], _, _, _, h, _, _, _, _, _ => by simp at h
  | T :: Ts, R :: Rs, v, w1, w2, hl, h, 0, x, hx, _ => h.1 x hx
  | T :: Ts, R :: Rs, v, w1, w2, hl, h, i + 1, x, hx, hi => RelAll.at_ (by simpa using hl) h.2 i x hx (by simpa using hi)
/-- What is asked of operation a. -/
def OpSpecA (P : Program) (ops : List Oper) (m : Nat) (Ts : List Pr) (Rs : List Pr2) (F : Fr) (w : World) (i : Nat) (o : Oper) (T : Pr) : Prop :=
  o.guard = none ∧ ∀ F1 w1, Keep [] w w1 → (∀ t, freeAt ops i t = true → F1 t = F t) → (∀ j d, depAt ops m i j d = true → prT Ts j (F1 d) w1) →
    OpW P o.op o.type F1 w1 (fun v w2 => Keep [] w1 w2 ∧ T v w2 ∧ RelAll Ts Rs v w1 w2) (fun _ _ => False)
def SpecsR (P : Program) (ops : List Oper) (m : Nat) (Ts : List Pr) (Rs : List Pr2) (F : Fr) (w : World) (a : Nat) : Nat → List Oper → List Pr → List Pr2 → Prop
  | i, o :: r, T :: R, Q :: S => (bif Nat.beq i a then OpSpecA P ops m Ts Rs F w i o T else OpSpecR P ops m Ts Rs F w a i o T Q) ∧ SpecsR P ops m Ts Rs F w a (i + 1) r R S
  | _, _, _, _ => True
theorem SpecsR.at_ {ops : List Oper} {m : Nat} {Ts : List Pr} {Rs : List Pr2} {F : Fr} {w : World} {a : Nat} : ∀ (l : List Oper) (R : List Pr) (S : List Pr2) (k i : Nat) (o : Oper) (T : Pr) (Q : Pr2), SpecsR P ops m Ts Rs F w a k l R S → l[i]? = some o → R[i]? = some T → S[i]? = some Q →
    (bif Nat.beq (k + i) a then OpSpecA P ops m Ts Rs F w (k + i) o T else OpSpecR P ops m Ts Rs F w a (k + i) o T Q)
  | [], _, _, _, _, _, _, _, _, h, _, _ => by simp at h
  | _ :: _, [], _, _, _, _, _, _, _, _, h, _ => by simp at h
  | _ :: _, _ :: _, [], _, _, _, _, _, _, _, _, h => by simp at h
  | o' :: l, T' :: R, Q' :: S, k, 0, o, T, Q, h, h1, h2, h3 => by
    simp at h1 h2 h3; subst h1; subst h2; subst h3; exact h.1
  | o' :: l, T' :: R, Q' :: S, k, i + 1, o, T, Q, h, h1, h2, h3 => by
    have := SpecsR.at_ l R S (k + 1) i o T Q h.2 (by simpa using h1) (by simpa using h2) (by simpa using h3)
    rwa [show k + 1 + i = k + (i + 1) by omega] at this
def StabR : List Pr2 → Prop
  | [] => True
  | T :: R => (∀ u v w w', T u v w → Keep [] w w' → T u v w') ∧ StabR R
theorem StabR.of : ∀ {Rs : List Pr2}, StabR Rs → ∀ T ∈ Rs, ∀ u v w w', T u v w → Keep [] w w' → T u v w'
  | [], _, T, h => by cases h
  | T' :: R, hs, T, h => by
    rcases List.mem_cons.1 h with rfl | h
    · exact hs.1
    · exact StabR.of hs.2 T h

def PInv (ops : List Oper) (m : Nat) (Ts : List Pr) (Rs : List Pr2) (F : Fr) (w : World) (a : Nat) (listed : Array Bool) (F1 : Fr) (w1 : World) : Prop :=
  DInv ops m Ts F w listed F1 w1 ∧ ∀ oa da i oi di, listed[a]? = some true → ops[a]? = some oa → oa.dst = some da → i < m → i ≠ a → listed[i]? = some true → ops[i]? = some oi → oi.dst = some di → prR Rs i (F1 da) (F1 di) w1
end
end Go.Fw
