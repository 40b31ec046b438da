/- Frames as functions; a list of operations, a piece of code and a call read over such frames. Program-independent. -/
import Derived.WalkKit
import Derived.WalkSpells
import Derived.WalkLawsBesides
import Derived.RangeFuncLeaves
set_option linter.unusedSimpArgs false
set_option linter.unusedVariables false
namespace Go.Fw
open Go.RowKit

abbrev Fr := Nat → Value
/-- Different blocks; said so that 'omega' does not split it. -/
def NeB (a b : Nat) : Prop := a ≠ b
def upd (F : Fr) (d : Nat) (v : Value) : Fr := fun t => bif Nat.beq t d then v else F t
theorem upd_same (F : Fr) (d : Nat) (v : Value) : upd F d v d = v := by simp [upd]
theorem upd_ne (F : Fr) (d : Nat) (v : Value) {t : Nat} (h : t ≠ d) : upd F d v t = F t := by
  unfold upd
  have : Nat.beq t d = false := by
    cases hb : Nat.beq t d with
    | false => rfl
    | true => exact absurd (Nat.eq_of_beq_eq_true hb) h
  rw [this]; rfl
theorem blt {a b : Nat} (h : Nat.blt a b = true) : a < b := Nat.le_of_ble_eq_true h
def evF (F : Fr) : Operand → Value
  | .tmp t => F t
  | .const v => v
  | .global g => .pointer (some ⟨g, 0, none⟩)
  | .func f => .func (.func f) #[] #[]
def putF (F : Fr) (d : Option Tmp) (v : Value) : Fr := match d with | some d => upd F d v | none => F
/-- The deferred calls of an activation, kept as a value in the slot behind the last. -/
def decD : Value → Deferred
  | .pointer (some a) => ⟨.collected a.block, #[]⟩
  | .func f first cap => ⟨.fn f cap, first⟩
  | _ => ⟨.nil, #[]⟩
def dec : Value → List Deferred
  | .tuple xs => xs.toList.map decD
  | _ => []
def mk (n : Nat) (F : Fr) : Act := ⟨Array.ofFn (fun i : Fin n => F i.val), dec (F n)⟩
/-- Every function, every depth; in no round, or in the round of the record l. -/
def fen (ro : Option Nat) : Fence := { Fence.wide with round := ro }
theorem callsIn_fen {ro : Option Nat} {n : Nat} {P : Program} {f : FuncId} {args : Array Value} {w : World} {R : Ending → World → Prop} (h : Calls P f args w R) : CallsIn (fen ro) n P f args w R :=
  ⟨trivial, fun cs _ => let ⟨e, w', fr, r, s, x⟩ := h cs; ⟨e, w', fr, r, comesIn_wide.2 s, x⟩⟩

theorem mk_get (n : Nat) (F : Fr) (t : Nat) (h : t < n) : (mk n F).tmps[t]? = some (F t) := by
  simp [mk, h]
theorem mk_eval (n : Nat) (F : Fr) (x : Operand) (h : ∀ t, x = .tmp t → t < n) : (mk n F).eval x = evF F x := by
  cases x with
  | tmp t =>
    have := mk_get n F t (h t rfl)
    simp [Act.eval, evF, Array.getD_eq_getD_getElem?, this]
  | _ => rfl
def okD (n : Nat) : Option Tmp → Bool
  | some d => Nat.blt d n
  | none => true
theorem mk_put (n : Nat) (F : Fr) (d : Option Tmp) (v : Value) (hd : okD n d = true) : (mk n F).put d v = mk n (putF F d v) := by
  cases d with
  | none => rfl
  | some d =>
    have hdn : d < n := blt hd
    have : ((mk n F).tmps.setIfInBounds d v) = (mk n (upd F d v)).tmps := by
      apply Array.ext_getElem?
      intro i
      rw [Array.getElem?_setIfInBounds]
      by_cases hi : i < n
      · rw [mk_get n _ i hi, mk_get n _ i hi]
        by_cases hd : d = i
        · subst hd; simp [mk, hi, upd_same]
        · rw [if_neg hd, upd_ne F d v (fun e => hd e.symm)]
      · have h1 : (mk n (upd F d v)).tmps[i]? = none := by simp [mk]; omega
        have h2 : (mk n F).tmps[i]? = none := by simp [mk]; omega
        rw [h1, h2]
        by_cases hd : d = i
        · subst hd; simp [mk, hi]
        · rw [if_neg hd]
    show (⟨_, _⟩ : Act) = ⟨_, _⟩
    rw [this]
    show (⟨_, dec (F n)⟩ : Act) = ⟨_, dec (upd F d v n)⟩
    rw [upd_ne F d v (Nat.ne_of_gt hdn)]; rfl

/-- What a region's guard looks at. -/
def yieldF (ops : List Oper) (F : Fr) (j : Nat) : Option Bool :=
  match (ops[j]?).bind (·.dst) with
  | some d => match F d with | .bool b => some b | _ => none
  | none => none

def okX (n : Nat) : Operand → Bool
  | .tmp t => Nat.blt t n
  | _ => true
def okO (n : Nat) (ops : List Oper) (o : Oper) : Bool :=
  o.op.operands.toList.all (okX n) && (match o.op with | .select .. => false | .defer .. => false | _ => true) && okD n o.dst &&
  (match o.guard with
   | none => true
   | some (j, _) => match (ops[j]?).bind (·.dst) with | some d => Nat.blt d n | none => false)

section
variable {P : Program}

/-- What is asked of an operation's outcome: 'K' of the value that it yields and the world that it leaves; 'Z' of a panic. -/
def uponF (P : Program) (K : Value → World → Prop) (Z : List PanicEntry → World → Prop) : Result Next → Prop
  | .ok (.value v) w' => K v w'
  | .ok .skip w' => K undef w'
  | .ok (.enter f args) w' => Calls P f args w' fun
      | .returned v, w'' => K v w''
      | .panicked chain, w'' => Z chain w''
      | .outgrown, _ => False
  | .halt (.panic v) w' => Z [{ v, recovered := false }] w'
  | _ => False
/-- The same of a call of 'yield': a round. -/
def uponR (P : Program) (K : Value → World → Prop) (Z : List PanicEntry → World → Prop) : Result Next → Prop
  | .ok (.round l f tmps assign body) w' => RoundIn Fence.wide 0 P l f tmps assign body w' fun
      | .returned v, w'' => K v w''
      | .panicked chain, w'' => Z chain w''
      | .outgrown, _ => False
  | _ => False

def OpW (P : Program) (op : Op) (ty : TypeId) (F : Fr) (w : World) (K : Value → World → Prop) (Z : List PanicEntry → World → Prop) : Prop :=
  uponF P K Z ((execOp (evF F) ⟨none, op, ty, "", #[], none⟩).run P w)

theorem execOp_eq (ρ : Operand → Value) (o : Oper) : execOp ρ o = execOp ρ ⟨none, o.op, o.type, "", #[], none⟩ := by
  obtain ⟨d, op, ty, pos, after, g⟩ := o
  cases op <;> rfl

theorem roundIn_fen {ro : Option Nat} {m l : Nat} {f : FuncId} {tmps : Array Value} {assign body : Code} {w : World} {R R' : Ending → World → Prop} (h : RoundIn Fence.wide 0 P l f tmps assign body w R) (hr : ∀ e w', R e w' → R' e w') : RoundIn (fen ro) m P l f tmps assign body w R' :=
  ⟨trivial, fun c cs _ => let ⟨e, w', r, s⟩ := h.2 c cs (room_wide _); ⟨e, w', hr _ _ r, s⟩⟩
theorem uponF_uponIn {ro : Option Nat} {o : Oper} {n m : Nat} {F : Fr} {K : Value → World → Prop} {Z : List PanicEntry → World → Prop} {next : Act → World → Prop} {Q : Exit → Act → World → Prop} {r : Result Next}
    (hK : ∀ v w', K v w' → next ((mk n F).put o.dst v) w') (hZ : ∀ c w', Z c w' → Q (.panic c) (mk n F) w') (h : uponF P K Z r) : o.uponIn (fen ro) m P (mk n F) next Q r := by
  cases r with
  | ok x w' =>
    cases x <;> simp only [uponF] at h <;> try exact h.elim
    case value v => exact hK _ _ h
    case skip => exact hK _ _ h
    case enter f args =>
      refine ⟨fun e => by simp [fen, Fence.wide] at e, callsIn_fen (Calls.mono h fun e w'' he => ?_)⟩
      cases e with
      | returned v => exact hK _ _ he
      | panicked c => exact hZ _ _ he
      | outgrown => exact he.elim
  | halt x w' =>
    cases x <;> simp only [uponF] at h <;> try exact h.elim
    case panic v => exact hZ _ _ h
theorem uponR_uponIn {ro : Option Nat} {o : Oper} {n m : Nat} {F : Fr} {K : Value → World → Prop} {Z : List PanicEntry → World → Prop} {next : Act → World → Prop} {Q : Exit → Act → World → Prop} {r : Result Next}
    (hK : ∀ v w', K v w' → next ((mk n F).put o.dst v) w') (hZ : ∀ c w', Z c w' → Q (.panic c) (mk n F) w') (h : uponR P K Z r) : o.uponIn (fen ro) m P (mk n F) next Q r := by
  cases r with
  | ok x w' =>
    cases x <;> simp only [uponR] at h
    case round l f tmps assign body =>
      refine ⟨fun e => by simp [fen, Fence.wide] at e, roundIn_fen h fun e w'' he => ?_⟩
      cases e with
      | returned v => exact hK _ _ he
      | panicked c => exact hZ _ _ he
      | outgrown => exact he.elim
  | halt x w' => cases x <;> simp only [uponR] at h
theorem uponF_upon {o : Oper} {n : Nat} {F : Fr} {K : Value → World → Prop} {Z : List PanicEntry → World → Prop} {next : Act → World → Prop} {Q : Exit → Act → World → Prop} {r : Result Next}
    (hK : ∀ v w', K v w' → next ((mk n F).put o.dst v) w') (hZ : ∀ c w', Z c w' → Q (.panic c) (mk n F) w') (h : uponF P K Z r) : o.upon P (mk n F) next Q r := by
  cases r with
  | ok x w' =>
    cases x <;> simp only [uponF] at h <;> try exact h.elim
    case value v => exact hK _ _ h
    case skip => exact hK _ _ h
    case enter f args =>
      refine Calls.mono h fun e w'' he => ?_
      cases e with
      | returned v => exact hK _ _ he
      | panicked c => exact hZ _ _ he
      | outgrown => exact he.elim
  | halt x w' =>
    cases x <;> simp only [uponF] at h <;> try exact h.elim
    case panic v => exact hZ _ _ h

def RoundW (P : Program) (op : Op) (ty : TypeId) (F : Fr) (w : World) (K : Value → World → Prop) (Z : List PanicEntry → World → Prop) : Prop :=
  uponR P K Z ((execOp (evF F) ⟨none, op, ty, "", #[], none⟩).run P w)
/-- A list of operations over a frame; r: whether rounds are allowed. -/
def WL (r : Bool) (P : Program) (ops : List Oper) (Q : Exit → Fr → World → Prop) : List Oper → Fr → World → Prop
  | [], F, w => Q .normal F w
  | o :: rest, F, w =>
    if Region.wanted o (yieldF ops F) = true then
      OpW P o.op o.type F w (fun v w' => WL r P ops Q rest (putF F o.dst v) w') (fun c w' => Q (.panic c) F w') ∨
      (r = true ∧ RoundW P o.op o.type F w (fun v w' => WL r P ops Q rest (putF F o.dst v) w') (fun c w' => Q (.panic c) F w'))
    else WL r P ops Q rest (putF F o.dst undef) w

def lift (n : Nat) (Q : Exit → Fr → World → Prop) : Exit → Act → World → Prop := fun e a w => ∃ F, a = mk n F ∧ Q e F w

theorem yieldF_eq {n : Nat} {ops : List Oper} {F : Fr} {o : Oper} (h : okO n ops o = true) : Region.wanted o (yielded ops.toArray (mk n F).tmps) = Region.wanted o (yieldF ops F) := by
  unfold Region.wanted
  cases hg : o.guard with
  | none => rfl
  | some p =>
    obtain ⟨j, b⟩ := p
    simp only
    have hj : yielded ops.toArray (mk n F).tmps j = yieldF ops F j := by
      unfold yielded yieldF
      unfold okO at h
      rw [hg] at h
      simp only [Bool.and_eq_true] at h
      have h2 := h.2
      simp only [List.getElem?_toArray]
      cases hd : (ops[j]?).bind (·.dst) with
      | none => rfl
      | some d =>
        rw [hd] at h2
        have hlt : d < n := blt h2
        have hs : (some d).bind (fun x => (mk n F).tmps[x]?) = some (F d) := mk_get n F d hlt
        rw [hs]
        cases hv : F d <;> simp [hv]
    rw [hj]

theorem evF_map {n : Nat} {F : Fr} (l : List Operand) (h : l.all (okX n) = true) (x : Operand) (hx : x ∈ l) : (mk n F).eval x = evF F x :=
  mk_eval n F x (fun t ht => by
    have := List.all_eq_true.1 h x hx
    subst ht
    exact blt this)

theorem map_ops {α : Type} {n : Nat} {F : Fr} (ps : Array (Nat × Operand)) (h : ∀ p ∈ ps.toList, (mk n F).eval p.2 = evF F p.2) (g : Nat → Value → α) :
    ps.map (fun p => g p.1 ((mk n F).eval p.2)) = ps.map (fun p => g p.1 (evF F p.2)) := by
  apply Array.map_congr_left
  intro p hp
  rw [h p (by simpa using hp)]

/-- An operation looks at its operands alone. -/
theorem execOp_mk {n : Nat} {ops : List Oper} {F : Fr} (o : Oper) (h : okO n ops o = true) : execOp (mk n F).eval o = execOp (evF F) o := by
  unfold okO at h
  simp only [Bool.and_eq_true] at h
  obtain ⟨⟨⟨h1, h2⟩, _⟩, _⟩ := h
  have key : ∀ x ∈ o.op.operands.toList, (mk n F).eval x = evF F x := fun x hx => evF_map _ h1 x hx
  have keyA : ∀ (xs : Array Operand), (∀ x ∈ xs.toList, x ∈ o.op.operands.toList) → xs.map (mk n F).eval = xs.map (evF F) := fun xs hx =>
    Array.map_congr_left fun x hm => key x (hx x (by simpa using hm))
  have keyO : ∀ (x : Option Operand), (∀ y, x = some y → y ∈ o.op.operands.toList) → x.map (mk n F).eval = x.map (evF F) := fun x hx => by
    cases x with
    | none => rfl
    | some y => simp [key y (hx y rfl)]
  obtain ⟨d, op, ty, pos, after, g⟩ := o
  simp only at key keyA keyO
  have call : ∀ (c : Call), c.operands = op.operands → (∀ t, resolve (mk n F).eval c t = resolve (evF F) c t) := fun c hc t => by
    obtain ⟨callee, args, ats⟩ := c
    have ha : args.map (mk n F).eval = args.map (evF F) := keyA args (fun x hx => by rw [← hc]; simp [Call.operands]; exact .inr (by simpa using hx))
    unfold resolve
    simp only [ha]
    cases callee with
    | value f => simp only [key f (by rw [← hc]; simp [Call.operands])]
    | invoke r m => simp only [key r (by rw [← hc]; simp [Call.operands])]
    | builtin b => rfl
  cases op with
  | select cs b => simp at h2
  | build t ps =>
    simp only [execOp]
    have := map_ops (n := n) (F := F) ps (fun p hp => key p.2 (by simp only [Op.operands, List.mem_map]; exact ⟨p, hp, rfl⟩)) (fun i v => (i, v))
    rw [this]
  | buildSlice t len ps =>
    simp only [execOp]
    have := map_ops (n := n) (F := F) ps (fun p hp => key p.2 (by simp only [Op.operands, List.mem_map]; exact ⟨p, hp, rfl⟩)) (fun i v => (i, v))
    rw [this]
  | call c => simp only [execOp, call c rfl]
  | go c => simp only [execOp, call c rfl]
  | defer c => simp only [execOp, call c rfl]
  | makeFunc fn first captured =>
    simp only [execOp]
    rw [keyA first (fun x hx => by simp [Op.operands]; exact .inl (by simpa using hx)), keyA captured (fun x hx => by simp [Op.operands]; exact .inr (by simpa using hx))]
  | makeMap t r =>
    simp only [execOp]
    rw [keyO r (fun y hy => by subst hy; simp [Op.operands])]
  | slice t x lo hi mx =>
    simp only [execOp]
    rw [key x (by simp [Op.operands]), keyO lo (fun y hy => by subst hy; simp [Op.operands]), keyO hi (fun y hy => by subst hy; simp [Op.operands]), keyO mx (fun y hy => by subst hy; simp [Op.operands])]
  | alloc t => rfl
  | ready g => rfl
  | waits g => rfl
  | move x | assign x | box _ x | load _ x | nilCheck x | unOp _ _ x | convert _ _ x | sliceToArrayPointer _ x | makeInterface _ x | makeChan _ x | fieldAddr _ x _ | field _ x _ | range _ x | next x _ | entry x | typeAssert x _ _ _ | extract x _ | panic x | recv _ x _ =>
    simp only [execOp, key x (by simp [Op.operands])]
  | pick c a b => simp only [execOp, key c (by simp [Op.operands]), key a (by simp [Op.operands]), key b (by simp [Op.operands])]
  | store _ a v | binOp _ _ a v _ | makeSlice _ a v | indexAddr _ a v | index _ a v | lookup _ a v _ | mapEntry _ a v | send a v =>
    simp only [execOp, key a (by simp [Op.operands]), key v (by simp [Op.operands])]
  | mapUpdate _ m k v | entryStore _ m k v | insert _ m k v =>
    simp only [execOp, key m (by simp [Op.operands]), key k (by simp [Op.operands]), key v (by simp [Op.operands])]

theorem okO_dst {n : Nat} {ops : List Oper} {o : Oper} (h : okO n ops o = true) : okD n o.dst = true := by
  unfold okO at h; simp only [Bool.and_eq_true] at h; exact h.1.2
theorem okO_defer {n : Nat} {ops : List Oper} {o : Oper} (h : okO n ops o = true) : ∀ c, o.op ≠ .defer c := by
  unfold okO at h; simp only [Bool.and_eq_true] at h
  intro c hc; have := h.1.1.2; rw [hc] at this; simp at this
theorem wpOpsIn_of_WL {r : Bool} {ro : Option Nat} {n m : Nat} {ops : List Oper} {Q : Exit → Fr → World → Prop} : ∀ (l pre : List Oper) (F : Fr) (w : World), pre ++ l = ops → l.all (okO n ops) = true → WL r P ops Q l F w →
    wpOpsIn (fen ro) m P ops.toArray (lift n Q) (List.range' pre.length l.length) (mk n F) w
  | [], pre, F, w, _, _, h => ⟨F, rfl, h⟩
  | o :: rest, pre, F, w, hp, hok, h => by
    simp only [List.all_cons, Bool.and_eq_true] at hok
    have ih := fun (F : Fr) (w : World) (h : WL r P ops Q rest F w) => wpOpsIn_of_WL (m := m) (ro := ro) rest (pre ++ [o]) F w (by rw [← hp]; simp) hok.2 h
    rw [show (pre ++ [o]).length = pre.length + 1 by simp] at ih
    unfold WL at h
    rw [List.length_cons, List.range'_succ]
    unfold wpOpsIn
    have hat : ops.toArray[pre.length]? = some o := by rw [← hp]; simp
    rw [hat]
    simp only
    rw [yieldF_eq hok.1]
    split
    · rename_i hw
      rw [if_pos hw] at h
      refine ⟨fun _ _ => trivial, ?_⟩
      rw [Oper.semAt_eq _ _ _ (okO_defer hok.1), execOp_mk o hok.1, execOp_eq]
      rcases h with h | ⟨_, h⟩
      · exact uponF_uponIn (fun v w' hk => by rw [mk_put _ _ _ _ (okO_dst hok.1)]; exact ih _ _ hk) (fun c w' hz => ⟨F, rfl, hz⟩) h
      · exact uponR_uponIn (fun v w' hk => by rw [mk_put _ _ _ _ (okO_dst hok.1)]; exact ih _ _ hk) (fun c w' hz => ⟨F, rfl, hz⟩) h
    · rename_i hw
      rw [if_neg hw] at h
      rw [mk_put _ _ _ _ (okO_dst hok.1)]
      exact ⟨fun _ _ => trivial, ih _ _ h⟩

/-- A piece of code over a frame; ro: in no round, or in a round of the record l. -/
def CW (P : Program) {ro : Option Nat} (n : Nat) (c : Code) (Q : Exit → Fr → World → Prop) (F : Fr) (w : World) : Prop := c.wpIn (fen ro) 0 P (lift n Q) (mk n F) w

variable {ro : Option Nat} {n : Nat} {Q : Exit → Fr → World → Prop} {F : Fr} {w : World}

theorem CW.mono {c : Code} {Q' : Exit → Fr → World → Prop} (h : CW P (ro := ro) n c Q F w) (hq : ∀ e F w, Q e F w → Q' e F w) : CW P (ro := ro) n c Q' F w :=
  wpIn_mono h fun _ _ _ ⟨F, ha, hQ⟩ => ⟨F, ha, hq _ _ _ hQ⟩

def thenQ (next : Fr → World → Prop) (Q : Exit → Fr → World → Prop) : Exit → Fr → World → Prop
  | .normal, F, w => next F w
  | e, F, w => Q e F w
def blockQ (id : Nat) (Q : Exit → Fr → World → Prop) : Exit → Fr → World → Prop
  | .exit id', F, w => if id' = id then Q .normal F w else Q (.exit id') F w
  | e, F, w => Q e F w

theorem cw_seq {x y : Code} (h : CW P (ro := ro) n x (thenQ (CW P (ro := ro) n y Q) Q) F w) : CW P (ro := ro) n (.seq x y) Q F w := by
  refine wpIn_seq (wpIn_mono h fun e _ _ ⟨F, ha, hQ⟩ => ?_)
  subst ha
  cases e <;> first | exact hQ | exact ⟨F, rfl, hQ⟩
theorem cw_skip (h : Q .normal F w) : CW P (ro := ro) n .skip Q F w := wpIn_skip ⟨F, rfl, h⟩
theorem cw_exit {id : Nat} (h : Q (.exit id) F w) : CW P (ro := ro) n (.exit id) Q F w := wpIn_exit ⟨F, rfl, h⟩
theorem cw_ret (h : Q .ret F w) : CW P (ro := ro) n .ret Q F w := wpIn_ret ⟨F, rfl, h⟩
theorem cw_block {id : Nat} {c : Code} (h : CW P (ro := ro) n c (blockQ id Q) F w) : CW P (ro := ro) n (.block id c) Q F w := by
  refine wpIn_block (wpIn_mono h fun e _ _ ⟨F, ha, hQ⟩ => ?_)
  subst ha
  cases e with
  | exit id' =>
    unfold blockQ at hQ
    unfold Exit.inBlock
    simp only at hQ ⊢
    split
    · rename_i he; rw [if_pos he] at hQ; exact ⟨F, rfl, hQ⟩
    · rename_i he; rw [if_neg he] at hQ; exact ⟨F, rfl, hQ⟩
  | _ => exact ⟨F, rfl, hQ⟩
theorem cw_cond {t : Nat} {x y : Code} (b : Bool) (ht : Nat.blt t n = true) (hc : F t = .bool b) (h1 : b = true → CW P (ro := ro) n x Q F w) (h2 : b = false → CW P (ro := ro) n y Q F w) : CW P (ro := ro) n (.cond (.tmp t) x y) Q F w := by
  have he : (mk n F).eval (.tmp t) = .bool b := by rw [mk_eval n F (.tmp t) (fun u hu => by cases hu; exact blt ht)]; exact hc
  exact wpIn_cond_split he h1 h2
theorem cw_region {id : Nat} {l : List Oper} (hok : l.all (okO n l) = true) (h : WL true P l Q l F w) : CW P (ro := ro) n (.region id l.toArray false) Q F w :=
  wpIn_region (by rw [List.size_toArray, List.range_eq_range']; exact wpOpsIn_of_WL l [] F w rfl hok h)
/-- A loop: 'I m': what holds at the head of a round, with m a measure. -/
theorem cw_loop {c : Code} (I : Nat → Fr → World → Prop) (m : Nat) (h0 : I m F w)
    (round : ∀ m F w, I m F w → CW P (ro := ro) n c (thenQ (fun F' w' => ∃ m', m' < m ∧ I m' F' w') Q) F w) : CW P (ro := ro) n (.loop c) Q F w := by
  intro b k cs hro hb hr
  have key : ∀ m F w, I m F w →
      ∃ e a' w', lift n Q e a' w' ∧ ArrivesIn (Machine.fenced P (fen ro)) P (lone (b.atR (mk n F) (.code c :: .inLoop c :: k)) cs w) b k cs e a' w' := by
    intro m
    induction m using Nat.strongRecOn with
    | _ m ih =>
      intro F w hI
      obtain ⟨e, a₁, w₁, ⟨F₁, ha, hq⟩, harr⟩ := round m F w hI b (.inLoop c :: k) cs hro hb hr
      subst ha
      cases e with
      | normal =>
        obtain ⟨m', hlt, hI₁⟩ := hq
        obtain ⟨e₂, a₂, w₂, hq₂, harr₂⟩ := ih m' hlt F₁ w₁ hI₁
        exact ⟨e₂, a₂, w₂, hq₂, .of_steps (StepsIn.trans harr (.one (fenced_calm hb hr rfl) stepR_inLoop)) harr₂⟩
      | exit id => exact ⟨_, _, w₁, ⟨F₁, rfl, hq⟩, .pass (x := .inLoop c) rfl (fun _ _ => .inl (by simp)) harr⟩
      | goto l => exact ⟨_, _, w₁, ⟨F₁, rfl, hq⟩, .pass (x := .inLoop c) rfl (fun _ _ => .inl (by simp)) harr⟩
      | ret => exact ⟨_, _, w₁, ⟨F₁, rfl, hq⟩, .pass (x := .inLoop c) rfl (fun _ _ => .inl (by simp)) harr⟩
      | panic ch => exact ⟨_, _, w₁, ⟨F₁, rfl, hq⟩, .pass (x := .inLoop c) rfl (fun _ _ => .inl (by simp)) harr⟩
      | outgrown => exact ⟨_, _, w₁, ⟨F₁, rfl, hq⟩, .pass (x := .inLoop c) rfl (fun _ _ => .inl (by simp)) harr⟩
  obtain ⟨e, a', w', hq, harr⟩ := key m F w h0
  exact ⟨e, a', w', hq, .of_steps (.one (fenced_calm hb hr rfl) stepR_loop) harr⟩

/-- A function's frame at its beginning: the arguments; of the other slots nothing is known. -/
def argsF : List Value → Nat → Fr → Fr
  | [], _, F => F
  | v :: vs, i, F => upd (argsF vs (i + 1) F) i v
theorem argsF_get (F : Fr) : ∀ (vs : List Value) (i t : Nat), argsF vs i F t = if t < i then F t else (vs[t - i]?).getD (F t)
  | [], i, t => by simp [argsF]
  | v :: vs, i, t => by
    unfold argsF
    by_cases h : t = i
    · subst h; rw [upd_same]; simp
    · rw [upd_ne _ _ _ h, argsF_get F vs (i + 1) t]
      by_cases h1 : t < i
      · rw [if_pos h1, if_pos (by omega)]
      · rw [if_neg h1, if_neg (by omega)]
        have : t - i = (t - (i + 1)) + 1 := by omega
        rw [this, List.getElem?_cons_succ]

def endQ (P : Program) (fn : Func) (n : Nat) (R : Ending → World → Prop) : Exit → Fr → World → Prop
  | .normal, F, w | .ret, F, w => dec (F n) = [] ∧ ∃ v, (results fn (mk n F).tmps).run P w = .ok v w ∧ R (.returned v) w
  | .panic chain, F, w => dec (F n) = [] ∧ R (.panicked chain) w
  | _, _, _ => False

theorem enter_act {n : Nat} {args : List Value} (hle : args.length ≤ n) : (⟨args.toArray ++ Array.replicate (n - args.toArray.size) undef, []⟩ : Act) = mk n (argsF args 0 (fun _ => undef)) := by
  have : args.toArray ++ Array.replicate (n - args.toArray.size) undef = (mk n (argsF args 0 (fun _ => undef))).tmps := by
    apply Array.ext_getElem?
    intro i
    by_cases hi : i < n
    · rw [mk_get _ _ i hi, argsF_get]
      simp only [Nat.not_lt_zero, if_false, Nat.sub_zero]
      rw [Array.getElem?_append]
      by_cases h2 : i < args.length
      · simp [h2]
      · simp only [List.size_toArray, h2, if_false]
        rw [Array.getElem?_replicate, if_pos (by omega)]
        simp [List.getElem?_eq_none (by omega : args.length ≤ i)]
    · have h1 : (mk n (argsF args 0 (fun _ => undef))).tmps[i]? = none := by simp [mk]; omega
      rw [h1]
      apply Array.getElem?_eq_none
      simp; omega
  show (⟨_, _⟩ : Act) = ⟨_, dec (argsF args 0 (fun _ => undef) n)⟩
  rw [this, argsF_get, if_neg (by omega), List.getElem?_eq_none (by omega)]; rfl
theorem argsF_undef (n : Nat) (args : List Value) : argsF args 0 (fun _ => undef) = argsF args 0 (upd (fun _ => undef) n undef) := by
  have : upd (fun _ => undef) n undef = (fun _ => undef) := by funext t; unfold upd; cases Nat.beq t n <;> rfl
  rw [this]
theorem calls_of_cw {f : FuncId} {fn : Func} {c : Code} {args : List Value} {R : Ending → World → Prop} {w : World} (n : Nat) (hf : P.funcs[f]? = some fn) (hb : fn.body = some c) (hn : fn.ntmps = n) (hle : args.length ≤ n)
    (h : ∀ F, CW P (ro := none) n c (endQ P fn n R) (argsF args 0 (upd F n undef)) w) : Calls P f args.toArray w R := by
  refine calls_of_wp hf hb ?_
  subst hn
  rw [enter_act hle, argsF_undef fn.ntmps]
  refine wpIn_wide.1 (wpIn_mono (h _) fun e _ _ ⟨F, ha, hQ⟩ => ?_)
  subst ha
  cases e <;> simp only [endQ] at hQ
  case normal => exact hQ
  case ret => exact hQ
  case panic ch => exact hQ

theorem res1 {fn : Func} {t : Tmp} {F : Fr} {w : World} {v : Value} (h : fn.results = #[.tmp t]) (ht : Nat.blt t n = true) (hv : F t = v) : (results fn (mk n F).tmps).run P w = .ok v w := by
  rw [results_tmp h]
  have := mk_get n F t (blt ht)
  simp [Array.getD_eq_getD_getElem?, this, hv]
theorem res2 {fn : Func} {t u : Tmp} {F : Fr} {w : World} {v x : Value} (h : fn.results = #[.tmp t, .tmp u]) (ht : (Nat.blt t n && Nat.blt u n) = true) (hv : F t = v) (hx : F u = x) : (results fn (mk n F).tmps).run P w = .ok (.tuple #[v, x]) w := by
  rw [results_tmp2 h]
  simp only [Bool.and_eq_true] at ht
  have h1 := mk_get n F t (blt ht.1)
  have h2 := mk_get n F u (blt ht.2)
  simp [Array.getD_eq_getD_getElem?, h1, h2, hv, hx]
theorem res0 {fn : Func} {F : Fr} {w : World} (h : fn.results = #[]) : (results fn (mk n F).tmps).run P w = .ok (.tuple #[]) w := results_none h _ _ _
end
end Go.Fw
