/- Regions that draw their order, whose last operations may change places where they only take a tuple apart. Program-independent. -/
import Derived.Test.YteajcgfcnbdmgaaFwV
set_option linter.unusedSimpArgs false
set_option linter.unusedVariables false
namespace Go.Fw
open Go.RowKit

section
variable {P : Program} {n : Nat} {Q : Exit → Fr → World → Prop}
/-- What an operation yields that only looks at its frame. -/
def pureVal (op : Op) (F : Fr) : Option Value :=
  match op with
  | .extract x i => (match evF F x with | .tuple vs => vs[i]? | _ => none)
  | .move x => some (evF F x)
  | .assign x => some (evF F x)
  | _ => none
/-- It only looks at its frame, and not at d. -/
def pureOp (op : Op) (d : Tmp) : Bool :=
  match op with
  | .extract (.tmp s) _ => !Nat.beq s d
  | .move (.tmp s) => !Nat.beq s d
  | .assign (.tmp s) => !Nat.beq s d
  | .assign (.const _) => true
  | _ => false
theorem opw_pure {op : Op} {d : Tmp} {ty : TypeId} {F : Fr} {w : World} {K : Value → World → Prop} {Z : List PanicEntry → World → Prop} (hp : pureOp op d = true) (h : OpW P op ty F w K Z) : ∃ v, pureVal op F = some v ∧ K v w := by
  unfold pureOp at hp
  split at hp
  · rename_i s i
    unfold OpW at h
    have e : evF F (.tmp s) = F s := rfl
    simp only [execOp, e] at h
    unfold pureVal
    simp only [e]
    cases hF : F s with
    | tuple vs =>
      rw [hF] at h
      cases hv : vs[i]? with
      | some v => refine ⟨v, hv, ?_⟩; simpa [Instr.extract, hv, uponF] using h
      | none => exfalso; simp [Instr.extract, hv, uponF] at h
    | _ => exfalso; rw [hF] at h; simp [Instr.extract, uponF] at h
  · unfold OpW at h; simp only [execOp] at h; exact ⟨_, rfl, by simpa [uponF] using h⟩
  · unfold OpW at h; simp only [execOp] at h; exact ⟨_, rfl, by simpa [uponF] using h⟩
  · unfold OpW at h; simp only [execOp] at h; exact ⟨_, rfl, by simpa [uponF] using h⟩
  · cases hp
theorem opw_of_pure {op : Op} {v : Value} {ty : TypeId} {F : Fr} {w : World} {K : Value → World → Prop} {Z : List PanicEntry → World → Prop} (hv : pureVal op F = some v) (h : K v w) : OpW P op ty F w K Z := by
  unfold pureVal at hv
  split at hv
  · split at hv
    · rename_i vs e; exact o_extract (vs := vs) v e hv h
    · cases hv
  · exact o_move v (Option.some.inj hv) h
  · exact o_assign v (Option.some.inj hv) h
  · cases hv
/-- Two operations that only look at their frames, and do not touch each other. -/
def exOk (ops : List Oper) (a b : Nat) : Bool :=
  match ops[a]?, ops[b]? with
  | some oa, some ob => oa.guard.isNone && ob.guard.isNone && (match oa.dst, ob.dst with
    | some da, some db => !Nat.beq da db && pureOp oa.op db && pureOp ob.op da
    | _, _ => false)
  | _, _ => false
theorem nbeq {a b : Nat} (h : (!Nat.beq a b) = true) : a ≠ b := fun e => by subst e; simp at h
theorem beq_ne {a b : Nat} (h : a ≠ b) : Nat.beq a b = false := by
  cases e : Nat.beq a b with
  | false => rfl
  | true => exact absurd (Nat.eq_of_beq_eq_true e) h
theorem upd_other {F : Fr} {d t : Nat} {v : Value} (h : t ≠ d) : upd F d v t = F t := by
  unfold upd; rw [beq_ne h]; rfl
theorem upd_swap {F : Fr} {a b : Nat} {v u : Value} (h : a ≠ b) : upd (upd F a v) b u = upd (upd F b u) a v := by
  funext t
  unfold upd
  cases e1 : Nat.beq t a with
  | false => cases e2 : Nat.beq t b <;> rfl
  | true =>
    have h1 := Nat.eq_of_beq_eq_true e1
    subst h1
    rw [beq_ne h]; rfl
theorem pureVal_upd {op : Op} {d : Tmp} {F : Fr} {u : Value} (hp : pureOp op d = true) : pureVal op (upd F d u) = pureVal op F := by
  unfold pureOp at hp
  unfold pureVal
  have e : ∀ s : Tmp, (!Nat.beq s d) = true → evF (upd F d u) (.tmp s) = evF F (.tmp s) := fun s hs => upd_other (nbeq hs)
  split at hp
  · simp only [e _ hp]
  · simp only [e _ hp]
  · simp only [e _ hp]
  · rfl
  · cases hp
theorem wl_swap {ops : List Oper} {a b : Nat} {oa ob : Oper} {rest : List Oper} {F : Fr} {w : World} (hx : exOk ops a b = true) (ha : ops[a]? = some oa) (hb : ops[b]? = some ob) (h : WL false P ops Q (oa :: ob :: rest) F w) : WL false P ops Q (ob :: oa :: rest) F w := by
  unfold exOk at hx
  rw [ha, hb] at hx
  obtain ⟨d1, p1, t1, q1, f1, g1⟩ := oa
  obtain ⟨d2, p2, t2, q2, f2, g2⟩ := ob
  simp only [Bool.and_eq_true] at hx
  obtain ⟨⟨h1, h2⟩, h3⟩ := hx
  cases g1 with
  | some _ => simp at h1
  | none =>
  cases g2 with
  | some _ => simp at h2
  | none =>
  cases d1 with
  | none => simp at h3
  | some da =>
  cases d2 with
  | none => simp at h3
  | some db =>
    simp only [Bool.and_eq_true] at h3
    obtain ⟨⟨h3, h4⟩, h5⟩ := h3
    have n1 := nbeq h3
    unfold WL at h
    rw [if_pos (by rfl)] at h
    obtain ⟨v, hv, h⟩ := opw_pure h4 (h.resolve_right (fun e => by cases e.1))
    unfold WL at h
    rw [if_pos (by rfl)] at h
    obtain ⟨x, hxv, h⟩ := opw_pure h5 (h.resolve_right (fun e => by cases e.1))
    have hxv' : pureVal p2 F = some x := (pureVal_upd (F := F) (u := v) h5).symm.trans hxv
    unfold WL
    rw [if_pos (by rfl)]
    refine .inl (opw_of_pure hxv' ?_)
    unfold WL
    rw [if_pos (by rfl)]
    refine .inl (opw_of_pure (v := v) ((pureVal_upd (F := F) (u := x) h4).trans hv) ?_)
    have e : putF (putF F (some db) x) (some da) v = putF (putF F (some da) v) (some db) x := (upd_swap (F := F) (v := v) (u := x) n1).symm
    rw [e]; exact h
/-- Behind the first part: one order, up to neighbours that take tuples apart. -/
def forcedC (ops : List Oper) : Nat → List Nat → Bool
  | _, [] => true
  | 0, _ => false
  | _ + 1, [a] => (aft ops a).all fun j => !Nat.beq j a
  | f + 1, a :: b :: t => (aft ops a).all (fun j => !(a :: b :: t).contains j) && t.all (fun x => waitsB ops x a) && forcedC ops f (b :: t) &&
      (waitsB ops b a || (exOk ops a b && (aft ops b).all (fun j => !(a :: b :: t).contains j) && forcedC ops f (a :: t)))
theorem run_step {ops : List Oper} (hok : ops.all (okO n ops) = true) {i fuel : Nat} {listed : Array Bool} {F1 : Fr} {w1 : World} {rest : List Oper} (hil : i < ops.length) (h : WL false P ops Q (ops[i] :: rest) F1 w1)
    (ih : ∀ F w, WL false P ops Q rest F w → wpAny P .any ops.toArray (lift n Q) fuel (listed.setIfInBounds i true) (mk n F) w) : wpOp P ops.toArray (lift n Q) i (wpAny P .any ops.toArray (lift n Q) fuel (listed.setIfInBounds i true)) (mk n F1) w1 := by
  have ho : ops[i]? = some ops[i] := List.getElem?_eq_getElem hil
  refine wpOp_F (K := fun F w => WL false P ops Q rest F w) hok ho ih (fun hw => ?_) (fun hw => ?_)
  · unfold WL at h; rw [if_pos hw] at h; exact h.resolve_right (fun e => by cases e.1)
  · unfold WL at h; rw [if_neg (by rw [hw]; simp)] at h; exact h
theorem seqOps_cons {ops : List Oper} {i : Nat} {t : List Nat} (hil : i < ops.length) : seqOps ops (i :: t) = ops[i] :: seqOps ops t := by
  unfold seqOps; rw [List.filterMap_cons, List.getElem?_eq_getElem hil]
theorem forced_runC {ops : List Oper} (hok : ops.all (okO n ops) = true) (hin : ∀ k, k < ops.length → ∀ j ∈ aft ops k, j < ops.length) : ∀ (g : Nat) (seq : List Nat) (fuel : Nat) (listed : Array Bool) (F1 : Fr) (w1 : World), listed.size = ops.length → unl ops listed ≤ fuel →
    (∀ j, j < ops.length → (listed[j]? = some true ↔ j ∉ seq)) → (∀ j ∈ seq, j < ops.length) → seq.Nodup → forcedC ops g seq = true → (∀ i, listed[i]? = some true → ∀ j ∈ aft ops i, listed[j]? = some true) →
    WL false P ops Q (seqOps ops seq) F1 w1 → wpAny P .any ops.toArray (lift n Q) fuel listed (mk n F1) w1 := by
  intro g
  induction g with
  | zero =>
    intro seq fuel listed F1 w1 hsz hfu hl hlt hnd hf hdown h
    cases seq with
    | nil => exact forced_run hok hin [] fuel listed F1 w1 hsz hfu hl hlt hnd rfl hdown h
    | cons a t => cases t <;> simp [forcedC] at hf
  | succ g ihg =>
    intro seq fuel listed F1 w1 hsz hfu hl hlt hnd hf hdown h
    match seq, hl, hlt, hnd, hf, h with
    | [], hl, hlt, hnd, hf, h => exact forced_run hok hin [] fuel listed F1 w1 hsz hfu hl hlt hnd rfl hdown h
    | [a], hl, hlt, hnd, hf, h =>
      refine forced_run hok hin [a] fuel listed F1 w1 hsz hfu hl hlt hnd ?_ hdown h
      unfold forcedC at hf
      unfold forcedB forcedB
      simp only [List.all_nil, Bool.true_and, Bool.and_true]
      refine List.all_eq_true.2 fun j hj => ?_
      have := nbeq (List.all_eq_true.1 hf j hj)
      simpa using this
    | a :: b :: t, hl, hlt, hnd, hf, h =>
      unfold forcedC at hf
      simp only [Bool.and_eq_true] at hf
      obtain ⟨⟨⟨f1, f2⟩, f3⟩, f4⟩ := hf
      have ha : a < ops.length := hlt a (by simp)
      have hb : b < ops.length := hlt b (by simp)
      obtain ⟨hat, hnd'⟩ := List.nodup_cons.1 hnd
      obtain ⟨hbt, hnd''⟩ := List.nodup_cons.1 hnd'
      have hunl : ∀ q, q < ops.length → q ∈ a :: b :: t → listed[q]? = some false := fun q hq hm => by
        have h1 : ¬ listed[q]? = some true := fun e => ((hl q hq).1 e) hm
        have : q < listed.size := by omega
        rw [Array.getElem?_eq_getElem this] at h1 ⊢
        simpa using h1
      have han := hunl a ha (by simp)
      have hbn := hunl b hb (by simp)
      have hula := unl_set ha hsz han
      have hulb := unl_set hb hsz hbn
      obtain ⟨fuel, rfl⟩ : ∃ f, fuel = f + 1 := ⟨fuel - 1, by omega⟩
      have haq : ∀ j ∈ aft ops a, listed[j]? = some true := fun j hj => by
        have h1 := List.all_eq_true.1 f1 j hj
        exact (hl j (hin a ha j hj)).2 (by simpa using h1)
      have hset : ∀ i, i < ops.length → ∀ j, (listed.setIfInBounds i true)[j]? = some true ↔ j = i ∨ listed[j]? = some true := fun i hi j => by
        rw [Array.getElem?_setIfInBounds]
        by_cases hji : i = j
        · subst hji; simp; omega
        · rw [if_neg hji]; exact ⟨fun h => .inr h, fun h => h.resolve_left (fun e => hji e.symm)⟩
      refine ⟨fun h0 => ?_, fun i hi => ?_⟩
      · have := ready_of' hsz ha han haq
        rw [h0] at this; cases this
      · obtain ⟨hnl, hil⟩ := notyet hi hsz
        have hmem : i ∈ a :: b :: t := Classical.byContradiction fun hc => by have := (hl i hil).2 hc; rw [hnl] at this; cases this
        have hready := aft_ready (List.getElem?_eq_getElem hil) hi hsz (hin i hil)
        have hwait : ∀ q, waitsB ops i q = true → listed[q]? = some true := fun q hq => by
          unfold waitsB at hq
          exact grow_sub (D := fun j => listed[j]? = some true) hdown _ _ hready q (by simpa using hq)
        rcases List.mem_cons.1 hmem with rfl | hmem
        · rw [seqOps_cons ha] at h
          refine run_step hok ha h fun F w hK => ihg (b :: t) fuel _ F w (by simpa using hsz) (by omega) (fun j hj => ?_) (fun j hj => hlt j (List.mem_cons_of_mem _ hj)) hnd' f3 (fun j hj x hx => ?_) hK
          · rw [hset i ha j, hl j hj]
            constructor
            · rintro (rfl | h1)
              · exact hat
              · exact fun h2 => h1 (List.mem_cons_of_mem _ h2)
            · intro h1
              by_cases hji : j = i
              · exact .inl hji
              · exact .inr fun h2 => by rcases List.mem_cons.1 h2 with h3 | h3; exact hji h3; exact h1 h3
          · rw [hset i ha x]
            rcases (hset i ha j).1 hj with h1 | h1
            · subst h1; exact .inr (haq x hx)
            · exact .inr (hdown j h1 x hx)
        · rcases List.mem_cons.1 hmem with rfl | hmem
          · -- the second comes first
            simp only [Bool.or_eq_true, Bool.and_eq_true] at f4
            rcases f4 with f4 | ⟨⟨f4, f5⟩, f6⟩
            · have := hwait a f4; rw [han] at this; cases this
            · rw [seqOps_cons ha, seqOps_cons hb] at h
              have h' := wl_swap f4 (List.getElem?_eq_getElem ha) (List.getElem?_eq_getElem hb) h
              rw [← seqOps_cons (t := t) ha] at h'
              refine run_step hok hb h' fun F w hK => ihg (a :: t) fuel _ F w (by simpa using hsz) (by omega) (fun j hj => ?_) (fun j hj => hlt j (by rcases List.mem_cons.1 hj with h1 | h1; exact h1 ▸ List.mem_cons_self; exact List.mem_cons_of_mem _ (List.mem_cons_of_mem _ h1))) (List.nodup_cons.2 ⟨fun h2 => hat (List.mem_cons_of_mem _ h2), hnd''⟩) f6 (fun j hj x hx => ?_) hK
              · rw [hset i hb j, hl j hj]
                constructor
                · rintro (rfl | h1)
                  · intro h2
                    rcases List.mem_cons.1 h2 with h3 | h3
                    · exact hat (h3 ▸ List.mem_cons_self)
                    · exact hbt h3
                  · intro h2
                    apply h1
                    rcases List.mem_cons.1 h2 with h3 | h3
                    · rw [h3]; exact List.mem_cons_self
                    · exact List.mem_cons_of_mem _ (List.mem_cons_of_mem _ h3)
                · intro h1
                  by_cases hji : j = i
                  · exact .inl hji
                  · refine .inr fun h2 => ?_
                    rcases List.mem_cons.1 h2 with h3 | h3
                    · exact h1 (h3 ▸ List.mem_cons_self)
                    · rcases List.mem_cons.1 h3 with h4 | h4
                      · exact hji h4
                      · exact h1 (List.mem_cons_of_mem _ h4)
              · rw [hset i hb x]
                rcases (hset i hb j).1 hj with h1 | h1
                · subst h1
                  have h5 := List.all_eq_true.1 f5 x hx
                  exact .inr ((hl x (hin j hb x hx)).2 (by simpa using h5))
                · exact .inr (hdown j h1 x hx)
          · have := hwait a (List.all_eq_true.1 f2 i hmem)
            rw [han] at this; cases this
def drawOkC (ops : List Oper) (m : Nat) : Bool :=
  (List.range m).all (fun i => (List.range m).all fun j => Nat.beq i j || (match (ops[i]?).bind (·.dst), (ops[j]?).bind (·.dst) with | some a, some b => !Nat.beq a b | _, _ => true)) &&
  ((List.range ops.length).drop m).all (fun k => (List.range m).all fun j => waitsB ops k j) &&
  (List.range ops.length).all (fun k => (aft ops k).all fun j => Nat.blt j k) && Nat.ble m ops.length && forcedC ops ops.length ((List.range ops.length).drop m)
theorem draw_runC {ops : List Oper} {m : Nat} {Ts : List Pr} {F : Fr} {w : World} (hd : drawOkC ops m = true) (hok : ops.all (okO n ops) = true) (hst : ∀ i v w w', prT Ts i v w → Keep [] w w' → prT Ts i v w') (hlen : Ts.length = m)
    (hs : Specs P ops m Ts F w 0 (ops.take m) Ts)
    (fin : ∀ F1 w1, Keep [] w w1 → (∀ i o d, i < m → ops[i]? = some o → o.dst = some d → prT Ts i (F1 d) w1) → (∀ t, (∀ j o, j < m → ops[j]? = some o → o.dst ≠ some t) → F1 t = F t) → WL false P ops Q (seqOps ops ((List.range ops.length).drop m)) F1 w1) :
    ∀ (fuel : Nat) (listed : Array Bool) (F1 : Fr) (w1 : World), listed.size = ops.length → unl ops listed ≤ fuel → (∀ j, m ≤ j → listed[j]? ≠ some true) → DInv ops m Ts F w listed F1 w1 → wpAny P .any ops.toArray (lift n Q) fuel listed (mk n F1) w1 := by
  unfold drawOkC at hd
  simp only [Bool.and_eq_true] at hd
  obtain ⟨⟨⟨⟨d1, d3⟩, d4⟩, d5⟩, d8⟩ := hd
  have hml : m ≤ ops.length := Nat.le_of_ble_eq_true d5
  have hback : ∀ k, k < ops.length → ∀ j ∈ aft ops k, j < k := fun k hk j hj => blt (List.all_eq_true.1 (List.all_eq_true.1 d4 k (by simpa using hk)) j hj)
  have hin : ∀ k, k < ops.length → ∀ j ∈ aft ops k, j < ops.length := fun k hk j hj => Nat.lt_trans (hback k hk j hj) hk
  have htl : ∀ j, j ∈ (List.range ops.length).drop m ↔ m ≤ j ∧ j < ops.length := fun j => by
    rw [List.mem_iff_getElem?]
    simp only [List.getElem?_drop]
    constructor
    · rintro ⟨i, hi⟩
      have := (List.getElem?_eq_some_iff.1 hi)
      obtain ⟨h1, h2⟩ := this
      simp at h1 h2; omega
    · rintro ⟨h1, h2⟩
      exact ⟨j - m, by rw [List.getElem?_eq_getElem (by simp; omega)]; simp; omega⟩
  have hdist : ∀ i j oi oj, i < m → j < m → i ≠ j → ops[i]? = some oi → ops[j]? = some oj → oi.dst ≠ none → oi.dst ≠ oj.dst := by
    intro i j oi oj hi hj hij hoi hoj hne
    have := List.all_eq_true.1 (List.all_eq_true.1 d1 i (by simpa using hi)) j (by simpa using hj)
    simp only [Bool.or_eq_true] at this
    rcases this with h5 | h5
    · exact absurd (Nat.eq_of_beq_eq_true h5) hij
    · rw [hoi, hoj] at h5
      intro e
      cases hd : oi.dst with
      | none => exact hne hd
      | some d =>
        rw [hd] at e
        simp only [Option.bind_some, hd, ← e] at h5
        simp at h5
  have hndt : ((List.range ops.length).drop m).Nodup := List.Nodup.sublist (List.drop_sublist _ _) List.nodup_range
  have last : ∀ (fuel : Nat) (listed : Array Bool) (F1 : Fr) (w1 : World), listed.size = ops.length → unl ops listed ≤ fuel → (∀ j, m ≤ j → listed[j]? ≠ some true) → DInv ops m Ts F w listed F1 w1 → (∀ j, j < m → listed[j]? = some true) → wpAny P .any ops.toArray (lift n Q) fuel listed (mk n F1) w1 := by
    intro fuel listed F1 w1 hsz hfu hno hi hall
    refine forced_runC hok hin ops.length _ fuel listed F1 w1 hsz hfu (fun j hj => ⟨fun h hm' => hno j ((htl j).1 hm').1 h, fun h => hall j ?_⟩) (fun j hj => ((htl j).1 hj).2) hndt d8 hi.down
      (fin F1 w1 hi.keep (fun i o d him ho hdst => hi.fact i o d him (hall i him) ho hdst) (fun t ht => hi.free t (fun j o hj ho => ?_)))
    · rcases Nat.lt_or_ge j m with h1 | h1
      · exact h1
      · exact absurd ((htl j).2 ⟨h1, hj⟩) h
    · rcases Nat.lt_or_ge j m with h1 | h1
      · exact ht j o h1 ho
      · exact absurd hj (hno j h1)
  intro fuel
  induction fuel with
  | zero =>
    intro listed F1 w1 hsz hfu hno hi
    have h0 : unl ops listed = 0 := by omega
    refine last 0 listed F1 w1 hsz hfu hno hi fun j hj => ?_
    unfold unl at h0
    have := List.countP_eq_zero.1 h0 j (by simp; omega)
    simpa using this
  | succ fuel ih =>
    intro listed F1 w1 hsz hfu hno hi
    by_cases hall : ∀ j, j < m → listed[j]? = some true
    · exact last (fuel + 1) listed F1 w1 hsz hfu hno hi hall
    · have hex : ∃ j, j < m ∧ listed[j]? ≠ some true := by
        refine Classical.byContradiction fun hc => hall fun j hj => Classical.byContradiction fun hn => hc ⟨j, hj, hn⟩
      have hmin : ∀ q j, q = j → j < m → listed[j]? ≠ some true → ∃ k, k < m ∧ listed[k]? ≠ some true ∧ ∀ i, i < k → listed[i]? = some true := by
        intro q
        induction q using Nat.strongRecOn with
        | _ q ihq =>
          intro j hqj hj hn
          by_cases hb : ∀ i, i < j → listed[i]? = some true
          · exact ⟨j, hj, hn, hb⟩
          · have : ∃ i, i < j ∧ listed[i]? ≠ some true := Classical.byContradiction fun hc => hb fun i hi => Classical.byContradiction fun hn => hc ⟨i, hi, hn⟩
            obtain ⟨i, hij, hni⟩ := this
            exact ihq i (by omega) i rfl (by omega) hni
      obtain ⟨j0, hj0, hn0⟩ := hex
      obtain ⟨k, hkm, hkn, hkb⟩ := hmin j0 j0 rfl hj0 hn0
      have hkf : listed[k]? = some false := by
        have : k < listed.size := by omega
        rw [Array.getElem?_eq_getElem this] at hkn ⊢
        simpa using hkn
      refine ⟨fun h0 => ?_, fun i hir => ?_⟩
      · have := ready_of' hsz (by omega) hkf (fun j hj => hkb j (hback k (by omega) j hj))
        rw [h0] at this; cases this
      · obtain ⟨hnl, hil⟩ := notyet hir hsz
        have ho : ops[i]? = some ops[i] := List.getElem?_eq_getElem hil
        have haft := aft_ready ho hir hsz (hin i hil)
        have hclose : ∀ j, waitsB ops i j = true → listed[j]? = some true := fun j hj => by
          unfold waitsB at hj
          exact grow_sub (D := fun j => listed[j]? = some true) hi.down _ _ haft j (by simpa using hj)
        rcases Nat.lt_or_ge i m with him | hge
        · have hT : Ts[i]? = some Ts[i] := List.getElem?_eq_getElem (by omega)
          have hsp := hs.at_ (ops.take m) Ts 0 i ops[i] Ts[i] (by rw [List.getElem?_take, if_pos him]; exact ho) hT
          rw [Nat.zero_add] at hsp
          have hTi : prT Ts i = Ts[i] := by unfold prT; rw [hT]; rfl
          have hsp' := hsp F1 w1 hi.keep (fun t ht => hi.free t (fun j oj hj hoj => by
            intro e
            unfold freeAt at ht
            have h1 := List.all_eq_true.1 ht j (by simp; exact (List.getElem?_eq_some_iff.1 hoj).1)
            rw [hoj] at h1
            simp only [e, Bool.or_eq_true, List.contains_iff_mem] at h1
            rcases h1 with h1 | h1
            · simp at h1
            · have := hi.down j hj i h1
              rw [hnl] at this; cases this)) (fun j d hdep => by
            unfold depAt at hdep
            simp only [Bool.and_eq_true] at hdep
            obtain ⟨⟨h1, h2⟩, h3⟩ := hdep
            have hjl := haft j (by simpa using h2)
            cases hoj : ops[j]? with
            | none => rw [hoj] at h1; cases h1
            | some oj =>
              rw [hoj] at h1
              simp only [Option.bind_some] at h1
              cases hd' : oj.dst with
              | none => rw [hd'] at h1; cases h1
              | some e =>
                rw [hd'] at h1
                have := Nat.eq_of_beq_eq_true h1
                subst this
                exact hi.fact j oj e (blt h3) hjl hoj hd')
          have hdist' : ∀ (j : Nat) (oj : Oper), j < m → j ≠ i → ops[j]? = some oj → oj.dst ≠ none → oj.dst ≠ ops[i].dst := fun j oj hj hji hoj hne => hdist j i oj ops[i] hj him hji hoj ho hne
          have hno' : ∀ j, m ≤ j → (listed.setIfInBounds i true)[j]? ≠ some true := fun j hj => by
            rw [Array.getElem?_setIfInBounds, if_neg (by omega)]; exact hno j hj
          refine wpOp_F (K := fun F2 w2 => DInv ops m Ts F w (listed.setIfInBounds i true) F2 w2) hok ho (fun F2 w2 hK => ih _ F2 w2 (by simpa using hsz) (by have := unl_set hil hsz hnl; omega) hno' hK) (fun hw => ?_) (fun hw => ?_)
          · have h1 := hsp'.1 hw
            unfold OpW at h1 ⊢
            generalize (execOp (evF F1) ⟨none, ops[i].op, ops[i].type, "", #[], none⟩).run P w1 = r at h1 ⊢
            have use : ∀ v w2, Keep [] w1 w2 ∧ Ts[i] v w2 → DInv ops m Ts F w (listed.setIfInBounds i true) (putF F1 ops[i].dst v) w2 := fun v w2 ⟨hk, hv⟩ => hi.step hst hsz hil ho haft hdist' hk (fun _ _ _ => by rw [hTi]; exact hv)
            cases r with
            | ok x w' =>
              cases x <;> simp only [uponF] at h1 ⊢ <;> try exact h1.elim
              case value v => exact use _ _ h1
              case skip => exact use _ _ h1
              case enter f args =>
                exact Calls.mono h1 fun e w'' he => by
                  cases e with
                  | returned v => exact use _ _ he
                  | panicked c => exact he.elim
                  | outgrown => exact he.elim
            | halt x w' => cases x <;> simp only [uponF] at h1 ⊢ <;> exact h1.elim
          · have h1 := hsp'.2 hw
            exact hi.step hst hsz hil ho haft hdist' (Keep.refl _ _) (fun _ _ _ => by rw [hTi]; exact h1)
        · exfalso
          have h1 := hclose k (List.all_eq_true.1 (List.all_eq_true.1 d3 i ((htl i).2 ⟨hge, hil⟩)) k (by simpa using hkm))
          rw [hkf] at h1; cases h1
/-- The rule for a region: the first m operations in any order; behind them one order, up to neighbours that take tuples apart. -/
theorem cw_drawC {id : Nat} {ops : List Oper} {F : Fr} {w : World} (m : Nat) (pre tl : List Oper) (Ts : List Pr) (hm : P.follows .mixedOrders = true) (hok : ops.all (okO n ops) = true) (hd : drawOkC ops m = true) (hlen : (Nat.beq Ts.length m && Nat.ble m ops.length) = true) (hpre : ops.take m = pre) (htl : ops.drop m = tl) (hst : Stab Ts)
    (hs : Specs P ops m Ts F w.drew 0 pre Ts)
    (fin : ∀ F1 w1, Keep [] w w1 → (∀ i d, depAt' ops i d = true → i < m → prT Ts i (F1 d) w1) → (∀ t, outAt ops m t = true → F1 t = F t) → WL false P ops Q tl F1 w1) : CW P (ro := none) n (.region id ops.toArray true) Q F w := by
  have hseq : seqOps ops ((List.range ops.length).drop m) = ops.drop m := by
    unfold seqOps
    have : ∀ (l : List Oper) (k : Nat), k ≤ l.length → ((List.range l.length).drop k).filterMap (l[·]?) = l.drop k := by
      intro l k hk
      induction hq : l.length - k generalizing k with
      | zero => rw [List.drop_of_length_le (by simp; omega), List.drop_of_length_le (by omega)]; rfl
      | succ q ih =>
        have hlt : k < l.length := by omega
        rw [List.drop_eq_getElem_cons (by simpa using hlt), List.filterMap_cons]
        simp only [List.getElem_range, List.getElem?_eq_getElem hlt]
        rw [ih (k + 1) (by omega) (by omega), ← List.drop_eq_getElem_cons hlt]
    simp only [Bool.and_eq_true] at hlen
    exact this ops m (Nat.le_of_ble_eq_true hlen.2)
  subst hpre; subst htl
  simp only [Bool.and_eq_true] at hlen
  have hdr : ({ w with drawn := w.drawn + 1 } : World) = w.drew := rfl
  refine wpIn_wide.2 (wp_region_any hm ?_)
  rw [hdr, List.size_toArray]
  have dep : ∀ (i d : Nat), depAt' ops i d = true → ∃ o, ops[i]? = some o ∧ o.dst = some d := fun i d hdp => by
    unfold depAt' at hdp
    cases ho : ops[i]? with
    | none => rw [ho] at hdp; cases hdp
    | some o =>
      rw [ho] at hdp
      simp only [Option.bind_some] at hdp
      cases hd' : o.dst with
      | none => rw [hd'] at hdp; cases hdp
      | some e =>
        rw [hd'] at hdp
        have := Nat.eq_of_beq_eq_true hdp
        subst this
        exact ⟨o, rfl, hd'⟩
  have out : ∀ (t : Nat), outAt ops m t = true → ∀ j o, j < m → ops[j]? = some o → o.dst ≠ some t := fun t ht j o hj ho e => by
    unfold outAt at ht
    have h3 := List.all_eq_true.1 ht o (List.mem_of_getElem? (by rw [List.getElem?_take, if_pos hj]; exact ho))
    rw [e] at h3; simp at h3
  refine draw_runC hd hok (fun i v w w' h hk => ?_) (Nat.eq_of_beq_eq_true hlen.1) hs
    (fun F1 w1 hk h1 h2 => by rw [hseq]; exact fin F1 w1 ((Keep.drew [] w).trans hk) (fun i d hdp him => by obtain ⟨o, ho, hd'⟩ := dep i d hdp; exact h1 i o d him ho hd') (fun t ht => h2 t (out t ht)))
    ops.length _ F w.drew (by simp) ?_ (fun j _ => ?_) ⟨Keep.refl _ _, fun i hi => ?_, fun i o d _ hi => ?_, fun _ _ => rfl⟩
  · unfold prT at h ⊢
    cases hT : Ts[i]? with
    | none => rw [hT] at h; exact trivial
    | some T => rw [hT] at h; exact hst.of T (List.mem_of_getElem? hT) v w w' h hk
  · unfold unl; exact Nat.le_trans (List.countP_le_length) (by simp)
  all_goals simp_all [Array.getElem?_replicate]
end
end Go.Fw
