/- Regions that draw their order: late operations in any up-set, up to neighbours of which one only moves. Program-independent. -/
import Derived.Test.YtjpniibleelgiaaFwU
import Derived.Test.YtjpniibleelgiaaFwW
set_option linter.unusedSimpArgs false
set_option linter.unusedVariables false
namespace Go.Fw
open Go.RowKit
section
variable {P : Program} {n : Nat} {Q : Exit → Fr → World → Prop}
/-- An operation looks at its operands alone. -/
theorem execOp_agree {ρ σ : Operand → Value} (o : Oper) (h2 : (match o.op with | .select .. => false | _ => true) = true) (key : ∀ x ∈ o.op.operands.toList, ρ x = σ x) : execOp ρ o = execOp σ o := by
  have keyA : ∀ (xs : Array Operand), (∀ x ∈ xs.toList, x ∈ o.op.operands.toList) → xs.map ρ = xs.map σ := fun xs hx =>
    Array.map_congr_left fun x hm => key x (hx x (by simpa using hm))
  have keyO : ∀ (x : Option Operand), (∀ y, x = some y → y ∈ o.op.operands.toList) → x.map ρ = x.map σ := fun x hx => by
    cases x with
    | none => rfl
    | some y => simp [key y (hx y rfl)]
  obtain ⟨d, op, ty, pos, after, g⟩ := o
  simp only at key keyA keyO
  have call : ∀ (c : Call), c.operands = op.operands → (∀ t, resolve ρ c t = resolve σ c t) := fun c hc t => by
    obtain ⟨callee, args, ats⟩ := c
    have ha : args.map ρ = args.map σ := keyA args (fun x hx => by rw [← hc]; simp [Call.operands]; exact .inr (by simpa using hx))
    unfold resolve
    simp only [ha]
    cases callee with
    | value f => simp only [key f (by rw [← hc]; simp [Call.operands])]
    | invoke r m => simp only [key r (by rw [← hc]; simp [Call.operands])]
    | builtin b => rfl
  cases op with
  | select cs b => simp at h2
  | build t ps =>
    simp only [execOp]
    have : ps.map (fun p => (p.1, ρ p.2)) = ps.map (fun p => (p.1, σ p.2)) := Array.map_congr_left fun p hp => by rw [key p.2 (by have hp : p ∈ ps.toList := (by simpa using hp); simp only [Op.operands, List.mem_map]; exact ⟨p, hp, rfl⟩)]
    rw [this]
  | buildSlice t len ps =>
    simp only [execOp]
    have : ps.map (fun p => (p.1, ρ p.2)) = ps.map (fun p => (p.1, σ p.2)) := Array.map_congr_left fun p hp => by rw [key p.2 (by have hp : p ∈ ps.toList := (by simpa using hp); simp only [Op.operands, List.mem_map]; exact ⟨p, hp, rfl⟩)]
    rw [this]
  | call c => simp only [execOp, call c rfl]
  | go c => simp only [execOp, call c rfl]
  | defer c => simp only [execOp, call c rfl]
  | makeFunc fn first captured =>
    simp only [execOp]
    rw [keyA first (fun x hx => by simp [Op.operands]; exact .inl (by simpa using hx)), keyA captured (fun x hx => by simp [Op.operands]; exact .inr (by simpa using hx))]
  | makeMap t r =>
    simp only [execOp]
    rw [keyO r (fun y hy => by subst hy; simp [Op.operands])]
  | slice t x lo hi mx =>
    simp only [execOp]
    rw [key x (by simp [Op.operands]), keyO lo (fun y hy => by subst hy; simp [Op.operands]), keyO hi (fun y hy => by subst hy; simp [Op.operands]), keyO mx (fun y hy => by subst hy; simp [Op.operands])]
  | alloc t => rfl
  | ready g => rfl
  | waits g => rfl
  | move x | assign x | box _ x | load _ x | nilCheck x | unOp _ _ x | convert _ _ x | sliceToArrayPointer _ x | makeInterface _ x | makeChan _ x | fieldAddr _ x _ | field _ x _ | range _ x | next x _ | entry x | typeAssert x _ _ _ | extract x _ | panic x | recv _ x _ =>
    simp only [execOp, key x (by simp [Op.operands])]
  | pick c a b => simp only [execOp, key c (by simp [Op.operands]), key a (by simp [Op.operands]), key b (by simp [Op.operands])]
  | store _ a v | binOp _ _ a v _ | makeSlice _ a v | indexAddr _ a v | index _ a v | lookup _ a v _ | mapEntry _ a v | send a v =>
    simp only [execOp, key a (by simp [Op.operands]), key v (by simp [Op.operands])]
  | mapUpdate _ m k v | entryStore _ m k v | insert _ m k v =>
    simp only [execOp, key m (by simp [Op.operands]), key k (by simp [Op.operands]), key v (by simp [Op.operands])]


def offB (op : Op) (d : Tmp) : Bool := op.operands.toList.all (fun x => match x with | .tmp t => !Nat.beq t d | _ => true) && (match op with | .select .. => false | .defer .. => false | _ => true)
theorem evF_off {F : Fr} {d : Tmp} {v : Value} {x : Operand} (h : (match x with | .tmp t => !Nat.beq t d | _ => true) = true) : evF (upd F d v) x = evF F x := by
  cases x with
  | tmp t => exact upd_other (nbeq h)
  | _ => rfl
theorem opw_off {op : Op} {d : Tmp} {v : Value} {ty : TypeId} {F : Fr} {w : World} {K : Value → World → Prop} {Z : List PanicEntry → World → Prop} (h : offB op d = true) : OpW P op ty (upd F d v) w K Z ↔ OpW P op ty F w K Z := by
  unfold offB at h
  simp only [Bool.and_eq_true] at h
  unfold OpW
  rw [execOp_agree (ρ := evF (upd F d v)) (σ := evF F) ⟨none, op, ty, "", #[], none⟩ (by have := h.2; cases op <;> first | rfl | (simp at this)) (fun x hx => evF_off (List.all_eq_true.1 h.1 x hx))]
theorem opw_mono {op : Op} {ty : TypeId} {F : Fr} {w : World} {K K' : Value → World → Prop} {Z Z' : List PanicEntry → World → Prop} (h : OpW P op ty F w K Z) (hk : ∀ v w', K v w' → K' v w') (hz : ∀ c w', Z c w' → Z' c w') : OpW P op ty F w K' Z' := by
  unfold OpW at h ⊢
  generalize (execOp (evF F) ⟨none, op, ty, "", #[], none⟩).run P w = r at h ⊢
  cases r with
  | ok x w' =>
    cases x <;> simp only [uponF] at h ⊢ <;> try exact h.elim
    case value v => exact hk _ _ h
    case skip => exact hk _ _ h
    case enter f args =>
      exact Calls.mono h fun e w'' he => by
        cases e with
        | returned v => exact hk _ _ he
        | panicked c => exact hz _ _ he
        | outgrown => exact he.elim
  | halt x w' =>
    cases x <;> simp only [uponF] at h ⊢ <;> try exact h.elim
    case panic v => exact hz _ _ h
/-- A move of a slot other than d. -/
def moveOp (op : Op) (d : Tmp) : Bool :=
  match op with
  | .move (.tmp s) => !Nat.beq s d
  | .assign (.tmp s) => !Nat.beq s d
  | _ => false
theorem moveOp_pure {op : Op} {d : Tmp} (h : moveOp op d = true) : pureOp op d = true := by
  unfold moveOp at h; unfold pureOp
  split at h <;> first | exact h | cases h
theorem moveOp_val {op : Op} {d : Tmp} (h : moveOp op d = true) (F : Fr) : ∃ v, pureVal op F = some v := by
  unfold moveOp at h; unfold pureVal
  split at h <;> first | exact ⟨_, rfl⟩ | cases h
/-- Two neighbours that do not touch each other, of which one only moves. -/
def exOk2 (ops : List Oper) (a b : Nat) : Bool :=
  match ops[a]?, ops[b]? with
  | some oa, some ob => oa.guard.isNone && ob.guard.isNone && (match oa.dst, ob.dst with
    | some da, some db => !Nat.beq da db && ((moveOp oa.op db && offB ob.op da) || (moveOp ob.op da && offB oa.op db))
    | _, _ => false)
  | _, _ => false
theorem wl_swap2 {ops : List Oper} {a b : Nat} {oa ob : Oper} {rest : List Oper} {F : Fr} {w : World} (hx : exOk2 ops a b = true) (ha : ops[a]? = some oa) (hb : ops[b]? = some ob) (hok : ops.all (okO n ops) = true) (hq : ∀ c F d v w, d < n → (Q (.panic c) (upd F d v) w ↔ Q (.panic c) F w)) (h : WL false P ops Q (oa :: ob :: rest) F w) : WL false P ops Q (ob :: oa :: rest) F w := by
  have hda := okO_dst (List.all_eq_true.1 hok _ (List.mem_of_getElem? ha))
  have hdb := okO_dst (List.all_eq_true.1 hok _ (List.mem_of_getElem? hb))
  unfold exOk2 at hx
  rw [ha, hb] at hx
  obtain ⟨d1, p1, t1, q1, f1, g1⟩ := oa
  obtain ⟨d2, p2, t2, q2, f2, g2⟩ := ob
  simp only [Bool.and_eq_true] at hx
  obtain ⟨⟨h1, h2⟩, h3⟩ := hx
  cases g1 with
  | some _ => simp at h1
  | none =>
  cases g2 with
  | some _ => simp at h2
  | none =>
  cases d1 with
  | none => simp at h3
  | some da =>
  cases d2 with
  | none => simp at h3
  | some db =>
    simp only [Bool.and_eq_true, Bool.or_eq_true] at h3
    obtain ⟨h3, h4⟩ := h3
    have n1 := nbeq h3
    have e : ∀ (F : Fr) (v x : Value), putF (putF F (some db) x) (some da) v = putF (putF F (some da) v) (some db) x := fun F v x => (upd_swap (F := F) (v := v) (u := x) n1).symm
    rcases h4 with ⟨h4, h5⟩ | ⟨h4, h5⟩
    · unfold WL at h
      rw [if_pos (by rfl)] at h
      obtain ⟨v, hv, h⟩ := opw_pure (moveOp_pure h4) (h.resolve_right (fun e => by cases e.1))
      unfold WL at h
      rw [if_pos (by rfl)] at h
      have h := (opw_off h5).1 (h.resolve_right (fun e => by cases e.1))
      unfold WL
      rw [if_pos (by rfl)]
      refine .inl (opw_mono h (fun x w' hk => ?_) (fun c w' hz => (hq _ _ _ _ _ (blt hda)).1 hz))
      unfold WL
      rw [if_pos (by rfl)]
      exact .inl (opw_of_pure (v := v) ((pureVal_upd (F := F) (u := x) (moveOp_pure h4)).trans hv) (by rw [e]; exact hk))
    · unfold WL at h
      rw [if_pos (by rfl)] at h
      have h := h.resolve_right (fun e => by cases e.1)
      obtain ⟨x, hxv⟩ := moveOp_val h4 F
      unfold WL
      rw [if_pos (by rfl)]
      refine .inl (opw_of_pure hxv ?_)
      unfold WL
      rw [if_pos (by rfl)]
      refine .inl ((opw_off h5).2 (opw_mono h (fun v w' hk => ?_) (fun c w' hz => (hq _ _ _ _ _ (blt hdb)).2 hz)))
      unfold WL at hk
      rw [if_pos (by rfl)] at hk
      obtain ⟨x', hx', hk⟩ := opw_pure (moveOp_pure h4) (hk.resolve_right (fun e => by cases e.1))
      have : x' = x := by
        have := (pureVal_upd (F := F) (u := v) (moveOp_pure h4)).symm.trans hx'
        rw [hxv] at this; exact (Option.some.inj this).symm
      subst this
      have := e F v x'
      show WL false P ops Q rest (putF (putF F (some db) x') (some da) v) w'
      rw [this]; exact hk
/-- Behind the first part: one order, up to neighbours of which one moves. -/
def forcedC2 (ops : List Oper) : Nat → List Nat → Bool
  | _, [] => true
  | 0, _ => false
  | _ + 1, [a] => (aft ops a).all fun j => !Nat.beq j a
  | f + 1, a :: b :: t => (aft ops a).all (fun j => !(a :: b :: t).contains j) && t.all (fun x => waitsB ops x a) && forcedC2 ops f (b :: t) &&
      (waitsB ops b a || (exOk2 ops a b && (aft ops b).all (fun j => !(a :: b :: t).contains j) && forcedC2 ops f (a :: t)))
theorem forced_runC2 {ops : List Oper} (hok : ops.all (okO n ops) = true) (hqp : ∀ c F d v w, d < n → (Q (.panic c) (upd F d v) w ↔ Q (.panic c) F w)) (hin : ∀ k, k < ops.length → ∀ j ∈ aft ops k, j < ops.length) : ∀ (g : Nat) (seq : List Nat) (fuel : Nat) (listed : Array Bool) (F1 : Fr) (w1 : World), listed.size = ops.length → unl ops listed ≤ fuel →
    (∀ j, j < ops.length → (listed[j]? = some true ↔ j ∉ seq)) → (∀ j ∈ seq, j < ops.length) → seq.Nodup → forcedC2 ops g seq = true → (∀ i, listed[i]? = some true → ∀ j ∈ aft ops i, listed[j]? = some true) →
    WL false P ops Q (seqOps ops seq) F1 w1 → wpAny P .any ops.toArray (lift n Q) fuel listed (mk n F1) w1 := by
  intro g
  induction g with
  | zero =>
    intro seq fuel listed F1 w1 hsz hfu hl hlt hnd hf hdown h
    cases seq with
    | nil => exact forced_run hok hin [] fuel listed F1 w1 hsz hfu hl hlt hnd rfl hdown h
    | cons a t => cases t <;> simp [forcedC2] at hf
  | succ g ihg =>
    intro seq fuel listed F1 w1 hsz hfu hl hlt hnd hf hdown h
    match seq, hl, hlt, hnd, hf, h with
    | [], hl, hlt, hnd, hf, h => exact forced_run hok hin [] fuel listed F1 w1 hsz hfu hl hlt hnd rfl hdown h
    | [a], hl, hlt, hnd, hf, h =>
      refine forced_run hok hin [a] fuel listed F1 w1 hsz hfu hl hlt hnd ?_ hdown h
      unfold forcedC2 at hf
      unfold forcedB forcedB
      simp only [List.all_nil, Bool.true_and, Bool.and_true]
      refine List.all_eq_true.2 fun j hj => ?_
      have := nbeq (List.all_eq_true.1 hf j hj)
      simpa using this
    | a :: b :: t, hl, hlt, hnd, hf, h =>
      unfold forcedC2 at hf
      simp only [Bool.and_eq_true] at hf
      obtain ⟨⟨⟨f1, f2⟩, f3⟩, f4⟩ := hf
      have ha : a < ops.length := hlt a (by simp)
      have hb : b < ops.length := hlt b (by simp)
      obtain ⟨hat, hnd'⟩ := List.nodup_cons.1 hnd
      obtain ⟨hbt, hnd''⟩ := List.nodup_cons.1 hnd'
      have hunl : ∀ q, q < ops.length → q ∈ a :: b :: t → listed[q]? = some false := fun q hq hm => by
        have h1 : ¬ listed[q]? = some true := fun e => ((hl q hq).1 e) hm
        have : q < listed.size := by omega
        rw [Array.getElem?_eq_getElem this] at h1 ⊢
        simpa using h1
      have han := hunl a ha (by simp)
      have hbn := hunl b hb (by simp)
      have hula := unl_set ha hsz han
      have hulb := unl_set hb hsz hbn
      obtain ⟨fuel, rfl⟩ : ∃ f, fuel = f + 1 := ⟨fuel - 1, by omega⟩
      have haq : ∀ j ∈ aft ops a, listed[j]? = some true := fun j hj => by
        have h1 := List.all_eq_true.1 f1 j hj
        exact (hl j (hin a ha j hj)).2 (by simpa using h1)
      have hset : ∀ i, i < ops.length → ∀ j, (listed.setIfInBounds i true)[j]? = some true ↔ j = i ∨ listed[j]? = some true := fun i hi j => by
        rw [Array.getElem?_setIfInBounds]
        by_cases hji : i = j
        · subst hji; simp; omega
        · rw [if_neg hji]; exact ⟨fun h => .inr h, fun h => h.resolve_left (fun e => hji e.symm)⟩
      refine ⟨fun h0 => ?_, fun i hi => ?_⟩
      · have := ready_of' hsz ha han haq
        rw [h0] at this; cases this
      · obtain ⟨hnl, hil⟩ := notyet hi hsz
        have hmem : i ∈ a :: b :: t := Classical.byContradiction fun hc => by have := (hl i hil).2 hc; rw [hnl] at this; cases this
        have hready := aft_ready (List.getElem?_eq_getElem hil) hi hsz (hin i hil)
        have hwait : ∀ q, waitsB ops i q = true → listed[q]? = some true := fun q hq => by
          unfold waitsB at hq
          exact grow_sub (D := fun j => listed[j]? = some true) hdown _ _ hready q (by simpa using hq)
        rcases List.mem_cons.1 hmem with rfl | hmem
        · rw [seqOps_cons ha] at h
          refine run_step hok ha h fun F w hK => ihg (b :: t) fuel _ F w (by simpa using hsz) (by omega) (fun j hj => ?_) (fun j hj => hlt j (List.mem_cons_of_mem _ hj)) hnd' f3 (fun j hj x hx => ?_) hK
          · rw [hset i ha j, hl j hj]
            constructor
            · rintro (rfl | h1)
              · exact hat
              · exact fun h2 => h1 (List.mem_cons_of_mem _ h2)
            · intro h1
              by_cases hji : j = i
              · exact .inl hji
              · exact .inr fun h2 => by rcases List.mem_cons.1 h2 with h3 | h3; exact hji h3; exact h1 h3
          · rw [hset i ha x]
            rcases (hset i ha j).1 hj with h1 | h1
            · subst h1; exact .inr (haq x hx)
            · exact .inr (hdown j h1 x hx)
        · rcases List.mem_cons.1 hmem with rfl | hmem
          · -- the second comes first
            simp only [Bool.or_eq_true, Bool.and_eq_true] at f4
            rcases f4 with f4 | ⟨⟨f4, f5⟩, f6⟩
            · have := hwait a f4; rw [han] at this; cases this
            · rw [seqOps_cons ha, seqOps_cons hb] at h
              have h' := wl_swap2 f4 (List.getElem?_eq_getElem ha) (List.getElem?_eq_getElem hb) hok hqp h
              rw [← seqOps_cons (t := t) ha] at h'
              refine run_step hok hb h' fun F w hK => ihg (a :: t) fuel _ F w (by simpa using hsz) (by omega) (fun j hj => ?_) (fun j hj => hlt j (by rcases List.mem_cons.1 hj with h1 | h1; exact h1 ▸ List.mem_cons_self; exact List.mem_cons_of_mem _ (List.mem_cons_of_mem _ h1))) (List.nodup_cons.2 ⟨fun h2 => hat (List.mem_cons_of_mem _ h2), hnd''⟩) f6 (fun j hj x hx => ?_) hK
              · rw [hset i hb j, hl j hj]
                constructor
                · rintro (rfl | h1)
                  · intro h2
                    rcases List.mem_cons.1 h2 with h3 | h3
                    · exact hat (h3 ▸ List.mem_cons_self)
                    · exact hbt h3
                  · intro h2
                    apply h1
                    rcases List.mem_cons.1 h2 with h3 | h3
                    · rw [h3]; exact List.mem_cons_self
                    · exact List.mem_cons_of_mem _ (List.mem_cons_of_mem _ h3)
                · intro h1
                  by_cases hji : j = i
                  · exact .inl hji
                  · refine .inr fun h2 => ?_
                    rcases List.mem_cons.1 h2 with h3 | h3
                    · exact h1 (h3 ▸ List.mem_cons_self)
                    · rcases List.mem_cons.1 h3 with h4 | h4
                      · exact hji h4
                      · exact h1 (List.mem_cons_of_mem _ h4)
              · rw [hset i hb x]
                rcases (hset i hb j).1 hj with h1 | h1
                · subst h1
                  have h5 := List.all_eq_true.1 f5 x hx
                  exact .inr ((hl x (hin j hb x hx)).2 (by simpa using h5))
                · exact .inr (hdown j h1 x hx)
          · have := hwait a (List.all_eq_true.1 f2 i hmem)
            rw [han] at this; cases this

theorem qp_end {fn : Func} {R : Ending → World → Prop} : ∀ (c : List PanicEntry) (F : Fr) (d : Tmp) (v : Value) (w : World), d < n → (endQ P fn n R (.panic c) (upd F d v) w ↔ endQ P fn n R (.panic c) F w) := fun c F d v w hd => by
  show (dec (upd F d v n) = [] ∧ _) ↔ (dec (F n) = [] ∧ _); rw [upd_ne F d v (Nat.ne_of_gt hd)]
def subs : List Nat → List (List Nat)
  | [] => [[]]
  | a :: l => (subs l).map (a :: ·) ++ subs l
theorem filter_subs (p : Nat → Bool) : ∀ l : List Nat, l.filter p ∈ subs l
  | [] => by simp [subs]
  | a :: l => by
    unfold subs
    rw [List.mem_append, List.filter_cons]
    split
    · exact .inl (List.mem_map.2 ⟨_, filter_subs p l, rfl⟩)
    · exact .inr (filter_subs p l)
def upB (ops : List Oper) (U S : List Nat) : Bool := S.all fun a => U.all fun b => !waitsB ops b a || S.contains b
def lat (lates : List (List Nat)) (c : Nat) : List Nat := (lates[c]?).getD []
def lateOkN (ops : List Oper) (m : Nat) (late : List Nat) (lates : List (List Nat)) : Bool :=
  (List.range m).all (fun i => (List.range m).all fun j => Nat.beq i j || (match (ops[i]?).bind (·.dst), (ops[j]?).bind (·.dst) with | some a, some b => !Nat.beq a b | _, _ => true)) &&
  (List.range m).all (fun j => late.contains j || waitsB ops m j) && (tailSeq ops m).all (fun k => waitsB ops k m) &&
  (List.range ops.length).all (fun k => (aft ops k).all fun j => Nat.blt j k) && Nat.blt m ops.length && lates.all (fun S => S.all (Nat.blt · m)) &&
  (subs late).all (fun S => S.isEmpty || !upB ops late S || lates.any (fun L => L.all S.contains && S.all L.contains)) &&
  forcedC2 ops (ops.length + 1) (m :: tailSeq ops m) && lates.all (fun S => forcedC2 ops (ops.length + 1) (S ++ tailSeq ops m))
/-- The first m operations, in whatever order, under an invariant; some may come behind operation m. -/
theorem draw_runN {ops : List Oper} {m : Nat} {late : List Nat} {lates : List (List Nat)} {om : Oper} (INV : Array Bool → Fr → World → Prop) (hqp : ∀ c F d v w, d < n → (Q (.panic c) (upd F d v) w ↔ Q (.panic c) F w)) (hd : lateOkN ops m late lates = true) (hndl : ∀ S ∈ lates, S.Nodup) (hok : ops.all (okO n ops) = true) (hom : ops[m]? = some om)
    (hdown : ∀ listed F1 w1, INV listed F1 w1 → ∀ i, listed[i]? = some true → ∀ j ∈ aft ops i, listed[j]? = some true)
    (hstep : ∀ (listed : Array Bool) (F1 : Fr) (w1 : World) (i : Nat) (o : Oper), listed.size = ops.length → INV listed F1 w1 → i < m → ops[i]? = some o → listed[i]? = some false → (∀ j ∈ aft ops i, listed[j]? = some true) →
      (Region.wanted o (yieldF ops F1) = true → OpW P o.op o.type F1 w1 (fun v w2 => INV (listed.setIfInBounds i true) (putF F1 o.dst v) w2) (fun _ _ => False)) ∧
      (Region.wanted o (yieldF ops F1) = false → INV (listed.setIfInBounds i true) (putF F1 o.dst undef) w1))
    (fin : ∀ listed F1 w1, INV listed F1 w1 → (∀ j, j < m → listed[j]? = some true) → (∀ j, m ≤ j → listed[j]? ≠ some true) → WL false P ops Q (om :: seqOps ops (tailSeq ops m)) F1 w1)
    (finL : ∀ c, c < lates.length → ∀ listed F1 w1, INV listed F1 w1 → (∀ j, j < m → (listed[j]? = some true ↔ j ∉ lat lates c)) → (∀ j, m ≤ j → listed[j]? ≠ some true) → WL false P ops Q (om :: (seqOps ops (lat lates c) ++ seqOps ops (tailSeq ops m))) F1 w1) :
    ∀ (fuel : Nat) (listed : Array Bool) (F1 : Fr) (w1 : World), listed.size = ops.length → unl ops listed ≤ fuel → (∀ j, m ≤ j → listed[j]? ≠ some true) → INV listed F1 w1 → wpAny P .any ops.toArray (lift n Q) fuel listed (mk n F1) w1 := by
  unfold lateOkN at hd
  simp only [Bool.and_eq_true] at hd
  obtain ⟨⟨⟨⟨⟨⟨⟨⟨d1, d2⟩, d3⟩, d4⟩, d5⟩, d6⟩, d7⟩, d8⟩, d9⟩ := hd
  have hml : m < ops.length := blt d5
  have hback : ∀ k, k < ops.length → ∀ j ∈ aft ops k, j < k := fun k hk j hj => blt (List.all_eq_true.1 (List.all_eq_true.1 d4 k (by simpa using hk)) j hj)
  have hin : ∀ k, k < ops.length → ∀ j ∈ aft ops k, j < ops.length := fun k hk j hj => Nat.lt_trans (hback k hk j hj) hk
  have hlm : ∀ S ∈ lates, ∀ j ∈ S, j < m := fun S hS j hj => blt (List.all_eq_true.1 (List.all_eq_true.1 d6 S hS) j hj)
  have htl : ∀ j, j ∈ tailSeq ops m ↔ m < j ∧ j < ops.length := fun j => by
    unfold tailSeq
    rw [List.mem_iff_getElem?]
    simp only [List.getElem?_drop]
    constructor
    · rintro ⟨i, hi⟩
      have := (List.getElem?_eq_some_iff.1 hi)
      obtain ⟨h1, h2⟩ := this
      simp at h1 h2; omega
    · rintro ⟨h1, h2⟩
      exact ⟨j - (m + 1), by rw [List.getElem?_eq_getElem (by simp; omega)]; simp; omega⟩
  have hndt : (tailSeq ops m).Nodup := by unfold tailSeq; exact List.Nodup.sublist (List.drop_sublist _ _) List.nodup_range
  intro fuel
  induction fuel with
  | zero =>
    intro listed F1 w1 hsz hfu hno hi
    exfalso
    have h0 : unl ops listed = 0 := by omega
    unfold unl at h0
    have := List.countP_eq_zero.1 h0 m (by simpa using hml)
    exact hno m (Nat.le_refl _) (by simpa using this)
  | succ fuel ih =>
    intro listed F1 w1 hsz hfu hno hi
    have hmn : listed[m]? = some false := by
      have h1 := hno m (Nat.le_refl _)
      have : m < listed.size := by omega
      rw [Array.getElem?_eq_getElem this] at h1 ⊢
      simpa using h1
    by_cases hall : ∀ j, j < m → listed[j]? = some true
    · -- all of the first part have been carried out
      have e : seqOps ops (m :: tailSeq ops m) = om :: seqOps ops (tailSeq ops m) := by unfold seqOps; rw [List.filterMap_cons, hom]
      refine forced_runC2 hok hqp hin (ops.length + 1) (m :: tailSeq ops m) (fuel + 1) listed F1 w1 hsz hfu (fun j hj => ⟨fun h => ?_, fun h => ?_⟩) (fun j hj => ?_) (List.nodup_cons.2 ⟨fun h => by have := (htl m).1 h; omega, hndt⟩) d8 (hdown _ _ _ hi) (by
        rw [e]
        exact fin listed F1 w1 hi hall hno)
      · intro hm'
        have : m ≤ j := by rcases List.mem_cons.1 hm' with h1 | h1; omega; have := (htl j).1 h1; omega
        exact hno j this h
      · exact hall j (by
          rcases Nat.lt_or_ge j m with h1 | h1
          · exact h1
          · exfalso; apply h
            rcases Nat.eq_or_lt_of_le h1 with h2 | h2
            · subst h2; simp
            · exact List.mem_cons_of_mem _ ((htl j).2 ⟨h2, hj⟩))
      · rcases List.mem_cons.1 hj with h1 | h1
        · omega
        · exact ((htl j).1 h1).2
    · have hex : ∃ j, j < m ∧ listed[j]? ≠ some true := by
        refine Classical.byContradiction fun hc => hall fun j hj => Classical.byContradiction fun hn => hc ⟨j, hj, hn⟩
      have hmin : ∀ q j, q = j → j < m → listed[j]? ≠ some true → ∃ k, k < m ∧ listed[k]? ≠ some true ∧ ∀ i, i < k → listed[i]? = some true := by
        intro q
        induction q using Nat.strongRecOn with
        | _ q ihq =>
          intro j hqj hj hn
          by_cases hb : ∀ i, i < j → listed[i]? = some true
          · exact ⟨j, hj, hn, hb⟩
          · have : ∃ i, i < j ∧ listed[i]? ≠ some true := Classical.byContradiction fun hc => hb fun i hi => Classical.byContradiction fun hn => hc ⟨i, hi, hn⟩
            obtain ⟨i, hij, hni⟩ := this
            exact ihq i (by omega) i rfl (by omega) hni
      obtain ⟨j0, hj0, hn0⟩ := hex
      obtain ⟨k, hkm, hkn, hkb⟩ := hmin j0 j0 rfl hj0 hn0
      have hkf : listed[k]? = some false := by
        have : k < listed.size := by omega
        rw [Array.getElem?_eq_getElem this] at hkn ⊢
        simpa using hkn
      refine ⟨fun h0 => ?_, fun i hir => ?_⟩
      · have := ready_of' hsz (by omega) hkf (fun j hj => hkb j (hback k (by omega) j hj))
        rw [h0] at this; cases this
      · obtain ⟨hnl, hil⟩ := notyet hir hsz
        have ho : ops[i]? = some ops[i] := List.getElem?_eq_getElem hil
        have haft := aft_ready ho hir hsz (hin i hil)
        have hclose : ∀ j, waitsB ops i j = true → listed[j]? = some true := fun j hj => by
          unfold waitsB at hj
          exact grow_sub (D := fun j => listed[j]? = some true) (hdown _ _ _ hi) _ _ haft j (by simpa using hj)
        rcases Nat.lt_or_ge i m with him | hge
        · have hsp := hstep listed F1 w1 i ops[i] hsz hi him ho hnl haft
          have hno' : ∀ j, m ≤ j → (listed.setIfInBounds i true)[j]? ≠ some true := fun j hj => by
            rw [Array.getElem?_setIfInBounds, if_neg (by omega)]; exact hno j hj
          refine wpOp_F (K := fun F2 w2 => INV (listed.setIfInBounds i true) F2 w2) hok ho (fun F2 w2 hK => ih _ F2 w2 (by simpa using hsz) (by have := unl_set hil hsz hnl; omega) hno' hK) (fun hw => ?_) (fun hw => hsp.2 hw)
          have h1 := hsp.1 hw
          unfold OpW at h1 ⊢
          generalize (execOp (evF F1) ⟨none, ops[i].op, ops[i].type, "", #[], none⟩).run P w1 = r at h1 ⊢
          cases r with
          | ok x w' =>
            cases x <;> simp only [uponF] at h1 ⊢ <;> try exact h1.elim
            case value v => exact h1
            case skip => exact h1
            case enter f args =>
              exact Calls.mono h1 fun e w'' he => by
                cases e with
                | returned v => exact he
                | panicked c => exact he.elim
                | outgrown => exact he.elim
          | halt x w' => cases x <;> simp only [uponF] at h1 ⊢ <;> exact h1.elim
        · -- operation m comes ahead of some late ones
          have him : i = m := by
            rcases Nat.eq_or_lt_of_le hge with h1 | h1
            · exact h1.symm
            · have h2 := hclose m (List.all_eq_true.1 d3 i ((htl i).2 ⟨h1, hil⟩))
              rw [hmn] at h2; cases h2
          subst him
          have hnl' : ∀ j, j < i → j ∉ late → listed[j]? = some true := fun j hj hjl => by
            have h1 := List.all_eq_true.1 d2 j (by simpa using hj)
            simp only [Bool.or_eq_true, List.contains_iff_mem] at h1
            exact hclose j (h1.resolve_left hjl)
          have hcw : ∀ b a, listed[b]? = some true → waitsB ops b a = true → listed[a]? = some true := fun b a hb hba => by
            unfold waitsB at hba
            exact grow_sub (D := fun j => listed[j]? = some true) (hdown _ _ _ hi) _ _ ((hdown _ _ _ hi) b hb) a (by simpa using hba)
          have hS := List.all_eq_true.1 d7 _ (filter_subs (fun j => listed[j]? != some true) late)
          have hmS : ∀ j, j ∈ late.filter (fun j => listed[j]? != some true) ↔ j ∈ late ∧ listed[j]? ≠ some true := fun j => by simp [List.mem_filter]
          generalize late.filter (fun j => listed[j]? != some true) = S at hS hmS
          simp only [Bool.or_eq_true] at hS
          have hne : ¬ S.isEmpty = true := fun h => by
            have h1 : j0 ∈ late := Classical.byContradiction fun hc => hn0 (hnl' j0 hj0 hc)
            have := (hmS j0).2 ⟨h1, hn0⟩
            rw [List.isEmpty_iff.1 h] at this; simp at this
          have hup : upB ops late S = true := by
            unfold upB
            refine List.all_eq_true.2 fun a ha => List.all_eq_true.2 fun b hb => ?_
            simp only [Bool.or_eq_true, List.contains_iff_mem]
            cases hw : waitsB ops b a with
            | false => exact .inl rfl
            | true => exact .inr ((hmS b).2 ⟨hb, fun h => ((hmS a).1 ha).2 (hcw b a h hw)⟩)
          rw [hup] at hS
          have hS := (hS.resolve_left (fun h => h.elim hne (fun h => by cases h)))
          obtain ⟨L, hL, hLS⟩ := List.any_eq_true.1 hS
          simp only [Bool.and_eq_true] at hLS
          obtain ⟨c, hc⟩ := List.mem_iff_getElem?.1 hL
          have hcl : c < lates.length := (List.getElem?_eq_some_iff.1 hc).1
          have hlat : lat lates c = L := by unfold lat; rw [hc]; rfl
          have hmL : ∀ j, j ∈ L ↔ j ∈ late ∧ listed[j]? ≠ some true := fun j => by
            rw [← hmS j]
            exact ⟨fun h => by simpa using List.all_eq_true.1 hLS.1 j h, fun h => by simpa using List.all_eq_true.1 hLS.2 j h⟩
          have hdropn : ∀ j ∈ lat lates c, ¬ listed[j]? = some true := fun j hj => by rw [hlat] at hj; exact ((hmL j).1 hj).2
          have hdropm : ∀ j, j < i → (listed[j]? = some true ↔ j ∉ lat lates c) := fun j hj => by
            constructor
            · intro h1 h2; exact hdropn j h2 h1
            · intro h1
              by_cases hjl : j ∈ late
              · exact Classical.byContradiction fun h2 => h1 (by rw [hlat]; exact (hmL j).2 ⟨hjl, h2⟩)
              · exact hnl' j hj hjl
          have hK := finL c hcl listed F1 w1 hi hdropm hno
          have hom' : om = ops[i] := by rw [ho] at hom; exact (Option.some.inj hom).symm
          have hso : seqOps ops (lat lates c) ++ seqOps ops (tailSeq ops i) = seqOps ops (lat lates c ++ tailSeq ops i) := by unfold seqOps; rw [List.filterMap_append]
          rw [hso, hom'] at hK
          have hset : ∀ j, (listed.setIfInBounds i true)[j]? = some true ↔ j = i ∨ listed[j]? = some true := fun j => by
            rw [Array.getElem?_setIfInBounds]
            by_cases hji : i = j
            · subst hji; simp; omega
            · rw [if_neg hji]; exact ⟨fun h => .inr h, fun h => h.resolve_left (fun e => hji e.symm)⟩
          refine wpOp_F (K := fun F w => WL false P ops Q (seqOps ops (lat lates c ++ tailSeq ops i)) F w) hok ho (fun F2 w2 hK2 => forced_runC2 hok hqp hin (ops.length + 1) (lat lates c ++ tailSeq ops i) fuel _ F2 w2 (by simpa using hsz) (by have := unl_set hil hsz hnl; omega) (fun j hj => ?_) (fun j hj => ?_) ?_ (by rw [hlat]; exact List.all_eq_true.1 d9 L hL) (fun j hj q hq => ?_) hK2) (fun hw => ?_) (fun hw => ?_)
          · rw [hset j, List.mem_append, htl j]
            constructor
            · rintro (rfl | h1)
              · rintro (h2 | h2)
                · have := hlm L hL j (hlat ▸ h2); omega
                · omega
              · rintro (h2 | h2)
                · exact hdropn j h2 h1
                · exact hno j (by omega) h1
            · intro h1
              rcases Nat.lt_trichotomy j i with h2 | h2 | h2
              · exact .inr ((hdropm j h2).2 (fun h3 => h1 (.inl h3)))
              · exact .inl h2
              · exact absurd (.inr ⟨h2, hj⟩) h1
          · rcases List.mem_append.1 hj with h1 | h1
            · have := hlm L hL j (hlat ▸ h1); omega
            · exact ((htl j).1 h1).2
          · refine List.nodup_append.2 ⟨hlat ▸ hndl L hL, hndt, fun a ha b hb e => ?_⟩
            have h1 := hlm L hL a (hlat ▸ ha)
            have h2 := (htl b).1 hb
            omega
          · rw [hset q]
            rcases (hset j).1 hj with rfl | h1
            · exact .inr (haft q hq)
            · exact .inr ((hdown _ _ _ hi) j h1 q hq)
          · unfold WL at hK; rw [if_pos hw] at hK; exact hK.resolve_right (fun e => by cases e.1)
          · unfold WL at hK; rw [if_neg (by rw [hw]; simp)] at hK; exact hK
/-- The same, where operations of the first part may come behind operation m. -/
theorem cw_drawUN {id : Nat} {ops : List Oper} {F : Fr} {w : World} (m : Nat) (late : List Nat) (lates : List (List Nat)) (hqp : ∀ c F d v w, d < n → (Q (.panic c) (upd F d v) w ↔ Q (.panic c) F w)) (pre : List Oper) (om : Oper) (tl : List Oper) (Ts : List PrU) (G : List Gr) (B : List Nat) (hm : P.follows .mixedOrders = true) (hok : ops.all (okO n ops) = true) (hd : lateOkN ops m late lates = true) (hlen : (Nat.beq Ts.length m && Nat.beq G.length m && Nat.ble m ops.length) = true) (hgr : groupsOk ops m G = true) (hnd : ∀ S ∈ lates, S.Nodup)
    (hpre : ops.take m = pre) (hom : ops[m]? = some om) (htl : seqOps ops (tailSeq ops m) = tl) (hst : StabU Ts G) (hs : SpecsU P ops m Ts G F w.drew B 0 pre Ts)
    (fin : FinU ops m Ts G F w B [] (WL false P ops Q (om :: tl))) (finL : ∀ c, c < lates.length → FinU ops m Ts G F w B (lat lates c) (WL false P ops Q (om :: (seqOps ops (lat lates c) ++ tl)))) : CW P (ro := none) n (.region id ops.toArray true) Q F w := by
  subst hpre; subst htl
  simp only [Bool.and_eq_true] at hlen
  have hTl : Ts.length = m := Nat.eq_of_beq_eq_true hlen.1.1
  have hGl : G.length = Ts.length := by rw [hTl]; exact Nat.eq_of_beq_eq_true hlen.1.2
  have hle : m ≤ ops.length := Nat.le_of_ble_eq_true hlen.2
  have hdr : ({ w with drawn := w.drawn + 1 } : World) = w.drew := rfl
  have hd' := hd
  unfold lateOkN at hd'
  simp only [Bool.and_eq_true] at hd'
  obtain ⟨⟨⟨⟨⟨⟨⟨⟨d1, d2⟩, d3⟩, d4⟩, d5⟩, d6⟩, d7⟩, d8⟩, d9⟩ := hd'
  have hdist : ∀ (i j : Nat) (oi oj : Oper), i < m → j < m → i ≠ j → ops[i]? = some oi → ops[j]? = some oj → oi.dst ≠ none → oi.dst ≠ oj.dst := by
    intro i j oi oj hi hj hij hoi hoj hne
    have := List.all_eq_true.1 (List.all_eq_true.1 d1 i (by simpa using hi)) j (by simpa using hj)
    simp only [Bool.or_eq_true] at this
    rcases this with h5 | h5
    · exact absurd (Nat.eq_of_beq_eq_true h5) hij
    · rw [hoi, hoj] at h5
      intro e
      cases hd : oi.dst with
      | none => exact hne hd
      | some d =>
        rw [hd] at e
        simp only [Option.bind_some, hd, ← e] at h5
        simp at h5
  refine wpIn_wide.2 (wp_region_any hm ?_)
  rw [hdr, List.size_toArray]
  refine draw_runN (late := late) (lates := lates) (UInv ops m Ts G F w.drew B) hqp hd hnd hok hom (fun listed F1 w1 h => h.down) (fun listed F1 w1 i o hsz h him ho hnl haft => stepU hdist hTl hGl hle hgr hst hs hsz h him ho hnl haft)
    (fun listed F1 w1 hi hall hno => hi.fin (fun i him _ => hall i him) hno fin) (fun c hc listed F1 w1 hi hall hno => hi.fin (fun i him hex => (hall i him).2 (by simpa using hex)) hno (finL c hc)) ops.length _ F w.drew (by simp) ?_ (fun j _ => ?_) UInv.start
  · unfold unl; exact Nat.le_trans (List.countP_le_length) (by simp)
  · simp [Array.getElem?_replicate]
end
end Go.Fw
