/- Ranges over functions: the record, a round, the statement; the end of a function that holds one. Program-independent. -/
import Derived.Test.YtjpniibleelgiaaFwG
import Derived.RangeFuncRecord
set_option linter.unusedSimpArgs false
set_option linter.unusedVariables false
namespace Go.Fw
open Go.RowKit

/-- A heap object as it stands. -/
def Ob (w : World) (b : Nat) (o : Obj) : Prop := w.heap[b]? = some o
theorem Ob.lt {w : World} {b : Nat} {o : Obj} (h : Ob w b o) : b < w.heap.size := (Array.getElem?_eq_some_iff.1 h).1
theorem Ob.keep {w w' : World} {b : Nat} {o : Obj} {O : List Nat} (h : Ob w b o) (k : Keep O w w') (hb : b ∉ O) : Ob w' b o := (k.block b h.lt hb).trans h
theorem Keep.putObj (w : World) (l : Nat) (o : Obj) : Keep [l] w (w.putObj l o) :=
  ⟨rfl, rfl, rfl, by simp, fun k _ hk => World.putObj_heap_other (fun e => hk (by simp [e]))⟩
theorem Ob.putObj {w : World} {l : Nat} {o : Obj} (h : Ob w l o) (o' : Obj) : Ob (w.putObj l o') l o' := World.putObj_heap_same h.lt
theorem St.keepB {w0 w w' : World} {O0 B : List Nat} {l : Nat} (s : St w0 O0 w B) (k : Keep [l] w w') (hl : l ∈ B) : St w0 O0 w' B :=
  s.step ⟨k.mono (fun b hb => .inl (by simp at hb; exact hb ▸ hl)), fun _ h => .inl h⟩ (fun b hb => Nat.lt_of_lt_of_le (s.new b hb).2 k.size)
theorem Mv.keepB {B : List Nat} {w w' : World} {l : Nat} (k : Keep [l] w w') (hl : l ∈ B) : Mv B w B w' := ⟨k.mono (fun b hb => .inl (by simp at hb; exact hb ▸ hl)), fun _ h => .inl h⟩

/-- The record of a range over a function. -/
def Rec (fn : FuncId) (n : Nat) (F : Fr) (ps : List Tmp) (assign body : Code) (D : Nat) (s : LoopState) (p : Option Code) : Obj :=
  .loop { state := s, pending := p, fn, tmps := (mk n F).tmps, params := ps.toArray, assign, body, defers := D }

section
variable {P : Program} {n : Nat}
/-- A call of 'yield', by the record l. -/
def YieldsW (P : Program) (l : Nat) (vs : List Value) (w : World) (K : Value → World → Prop) : Prop :=
  ∃ fn tmps assign body, (Instr.yield l vs.toArray).run P w = .ok (.round l fn tmps assign body) w ∧ RoundIn Fence.wide 0 P l fn tmps assign body w (fun e w' => ∃ v, e = .returned v ∧ K v w')

theorem YieldsW.mono {l : Nat} {vs : List Value} {w : World} {K K' : Value → World → Prop} (h : YieldsW P l vs w K) (hk : ∀ v w', K v w' → K' v w') : YieldsW P l vs w K' := by
  obtain ⟨fn, tmps, assign, body, h1, h2⟩ := h
  exact ⟨fn, tmps, assign, body, h1, h2.mono fun e w' ⟨v, he, hv⟩ => ⟨v, he, hk v w' hv⟩⟩
/-- How a round ends. -/
def roundQ (l : Nat) (R : LoopState → Option Code → Obj) (K : Value → World → Prop) : Exit → Fr → World → Prop
  | .normal, _, w => Ob w l (R .busy none) ∧ ∀ w', Keep [l] w w' → Ob w' l (R .ready none) → K (.bool true) w'
  | .ret, _, w => Ob w l (R .busy none) ∧ ∀ w', Keep [l] w w' → Ob w' l (R .done (some .ret)) → K (.bool false) w'
  | .exit i, _, w => Ob w l (R .busy none) ∧ ∀ w', Keep [l] w w' → Ob w' l (R .done (some (.exit i))) → K (.bool false) w'
  | _, _, _ => False

section
variable {l : Nat} {R : LoopState → Option Code → Obj} {K : Value → World → Prop} {F : Fr} {w : World} {i : Nat}
theorem round_n (h : Ob w l (R .busy none)) (k : ∀ w', Keep [l] w w' → Ob w' l (R .ready none) → K (.bool true) w') : roundQ l R K .normal F w := ⟨h, k⟩
theorem round_r (h : Ob w l (R .busy none)) (k : ∀ w', Keep [l] w w' → Ob w' l (R .done (some .ret)) → K (.bool false) w') : roundQ l R K .ret F w := ⟨h, k⟩
end
theorem Mv.adopt2 {w w' : World} {B : List Nat} {b c : Nat} (k : Keep [] w w') (h1 : w.heap.size ≤ b) (h2 : w.heap.size ≤ c) : Mv B w (c :: b :: B) w' :=
  ⟨k.nil, fun x hx => by rcases List.mem_cons.1 hx with rfl | hx; exact .inr h2; rcases List.mem_cons.1 hx with rfl | hx; exact .inr h1; exact .inl hx⟩
theorem St.adopt2 {w0 w w' : World} {O0 B : List Nat} {b c : Nat} (s : St w0 O0 w B) (k : Keep [] w w') (h1 : w.heap.size ≤ b) (h2 : w.heap.size ≤ c) (l1 : b < w'.heap.size) (l2 : c < w'.heap.size) : St w0 O0 w' (c :: b :: B) :=
  ((s.call k).adopt (Nat.le_trans s.keep.size h1) l1).adopt (Nat.le_trans s.keep.size h2) l2
theorem Mv.same {L : List Nat} {w w' : World} (k : Keep L w w') : Mv L w L w' := ⟨k, fun _ h => .inl h⟩
/-- A variable of one's own, handed on for reading. -/
theorem PT.of_box {α : Type} {E : Enc α} {w : World} {O : List Nat} {b T : Nat} {cs : List Value} {x : α} (hb : Box w b T cs) (hx : E.rd w O cs x) (ho : b ∉ O) : PT E w O (.pointer (some ⟨b, 0, none⟩)) x :=
  ⟨⟨b, 0, none⟩, cs, rfl, ⟨hb.lt, ho, fun j v hj => by rw [add0, hb.cell, Nat.zero_add]; exact hj⟩, hx⟩
def foldF : List Tmp → List Value → Fr → Fr
  | p :: ps, v :: vs, F => foldF ps vs (upd F p v)
  | _, _, F => F
theorem foldF_tmps : ∀ (ps : List Tmp) (vs : List Value) (F : Fr), ps.all (Nat.blt · n) = true → (ps.zip vs).foldl (fun (t : Array Value) (x : Tmp × Value) => t.setIfInBounds x.1 x.2) (mk n F).tmps = (mk n (foldF ps vs F)).tmps
  | [], _, _, _ => rfl
  | p :: ps, [], F, _ => rfl
  | p :: ps, v :: vs, F, h => by
    simp only [List.all_cons, Bool.and_eq_true] at h
    have h1 : (mk n F).tmps.setIfInBounds p v = (mk n (upd F p v)).tmps := congrArg Act.tmps (mk_put n F (some p) v h.1)
    simp only [List.zip_cons_cons, List.foldl_cons]
    rw [h1]; exact foldF_tmps ps vs _ h.2
theorem foldF_out : ∀ (ps : List Tmp) (vs : List Value) (F : Fr), ps.all (Nat.blt · n) = true → foldF ps vs F n = F n
  | [], _, _, _ => rfl
  | p :: ps, [], F, _ => rfl
  | p :: ps, v :: vs, F, h => by
    simp only [List.all_cons, Bool.and_eq_true] at h
    unfold foldF
    rw [foldF_out ps vs _ h.2, upd_ne]
    exact Nat.ne_of_gt (blt h.1)

theorem yields_of {l : Nat} {fn : FuncId} {F : Fr} {ps : List Tmp} {assign body : Code} {D : Nat} {vs : List Value} {w : World} {K : Value → World → Prop} {R : LoopState → Option Code → Obj} (hR : R = Rec fn n F ps assign body D) (hr : Ob w l (R .ready none)) (hlen : vs.length = ps.length) (hps : ps.all (Nat.blt · n) = true)
    (h : CW P (ro := some l) n assign (thenQ (fun F1 w1 => Ob w1 l (R .ready none) ∧ ∀ w2, Keep [l] w1 w2 → Ob w2 l (R .busy none) → CW P (ro := some l) n body (roundQ l R K) F1 w2) (fun _ _ _ => False)) (foldF ps vs (upd F n undef)) w) : YieldsW P l vs w K := by
  subst hR
  refine ⟨_, _, _, _, run_yield hr (by simp [hlen]), ?_⟩
  refine roundIn_of_wpIn trivial ?_
  have hz : (ps.toArray.zip vs.toArray).foldl (fun (tmps : Array Value) (x : Tmp × Value) => tmps.setIfInBounds x.1 x.2) (mk n F).tmps = (mk n (foldF ps vs (upd F n undef))).tmps := by
    have h1 : (mk n F).tmps = (mk n (upd F n undef)).tmps := by
      apply Array.ext_getElem?
      intro i
      by_cases hi : i < n
      · rw [mk_get _ _ i hi, mk_get _ _ i hi, upd_ne _ _ _ (Nat.ne_of_lt hi)]
      · have a1 : (mk n F).tmps[i]? = none := by simp [mk]; omega
        have a2 : (mk n (upd F n undef)).tmps[i]? = none := by simp [mk]; omega
        rw [a1, a2]
    rw [h1, ← foldF_tmps ps vs _ hps]
    simp [List.zip_toArray]
  have ha : ({ tmps := (ps.toArray.zip vs.toArray).foldl (fun (tmps : Array Value) (x : Tmp × Value) => tmps.setIfInBounds x.1 x.2) (mk n F).tmps, defers := [] } : Act) = mk n (foldF ps vs (upd F n undef)) := by
    rw [hz]
    show (⟨_, []⟩ : Act) = ⟨_, dec (foldF ps vs (upd F n undef) n)⟩
    rw [foldF_out ps vs _ hps, upd_same]; rfl
  have h' := h
  unfold CW at h'
  rw [← ha] at h'
  refine wpIn_mono h' fun e a w1 hq => ?_
  obtain ⟨F1, rfl, hq⟩ := hq
  cases e with
  | normal =>
    obtain ⟨hr1, hb⟩ := hq
    refine ⟨_, run_beginRound hr1 rfl, ?_⟩
    refine wpIn_mono (hb _ (Keep.putObj _ _ _) (hr1.putObj _)) fun e a w2 hq2 => ?_
    obtain ⟨F2, rfl, hq2⟩ := hq2
    cases e with
    | normal => exact ⟨_, _, run_endRound none hq2.1, _, rfl, hq2.2 _ (Keep.putObj _ _ _) (hq2.1.putObj _)⟩
    | ret => exact ⟨_, _, run_endRound (some .ret) hq2.1, _, rfl, hq2.2 _ (Keep.putObj _ _ _) (hq2.1.putObj _)⟩
    | exit i => exact ⟨_, _, run_endRound (some (.exit i)) hq2.1, _, rfl, hq2.2 _ (Keep.putObj _ _ _) (hq2.1.putObj _)⟩
    | goto t => exact hq2.elim
    | panic c => exact hq2.elim
    | outgrown => exact hq2.elim
  | _ => exact hq.elim

def markOf (D : Nat) : Value := .tuple #[.pointer (some ⟨D, 0, none⟩)]

/-- What is asked when the iterator has ended. -/
def rangeQ (P : Program) (n l D : Nat) (R : LoopState → Option Code → Obj) (Q : Exit → Fr → World → Prop) (F : Fr) (w2 : World) : Prop :=
  ∃ s p, s ≠ .busy ∧ Ob w2 l (R s p) ∧ ∀ w3, Keep [l] w2 w3 →
    (match p with | none => Q .normal (upd F n (markOf D)) w3 | some c => CW P (ro := none) n c Q (upd F n (markOf D)) w3)

theorem cw_range {g : Operand} {ps : List Tmp} {assign body : Code} {gf : Nat} {fs lb : List Value} {F : Fr} {w : World} {Q : Exit → Fr → World → Prop} (hg : okX n g = true) (hgv : evF F g = .func (.func gf) fs.toArray lb.toArray) (he : ∀ (as : Array Value) (w : World), (callFunc gf as).run P w = .ok (.enter gf as) w) (hd : F n = undef)
    (h : ∀ (l D : Nat) (w1 : World) (R : LoopState → Option Code → Obj) (fn : Nat), R = Rec fn n F ps assign body D → w.heap.size ≤ D → l = D + 1 → Keep [] w w1 → Ob w1 D (.deferred (some [])) → Ob w1 l (R .ready none) →
      Calls P gf (fs ++ [Value.func (.yield l) #[] #[]] ++ lb).toArray w1 (fun e w2 => (∃ v, e = .returned v) ∧ rangeQ P n l D R Q F w2)) :
    CW P (ro := none) n (.rangeFunc g ps.toArray assign body) Q F w := by
  refine wpIn_rangeFunc ?_
  intro fn _
  have hev : (mk n F).eval g = Value.func (.func gf) fs.toArray lb.toArray := by
    rw [mk_eval n F g (fun t ht => by subst ht; exact blt hg)]; exact hgv
  obtain ⟨W1, hW1⟩ : ∃ W1, (w.alloc (.deferred (some []))).alloc (Rec fn n F ps assign body w.heap.size .ready none) = W1 := ⟨_, rfl⟩
  have hent : (Instr.enterLoop fn (mk n F).tmps ps.toArray assign body none).run P w = .ok (w.heap.size + 1, [{ target := .collected w.heap.size, args := #[] }]) W1 := by rw [← hW1]; exact run_enterLoop_outer fn _ _ _ _
  refine ⟨w.heap.size + 1, _, W1, { target := .fn (.func gf) lb.toArray, args := (fs ++ [Value.func (.yield (w.heap.size + 1)) #[] #[]]).toArray }, W1, gf, (fs ++ [Value.func (.yield (w.heap.size + 1)) #[] #[]] ++ lb).toArray, W1, hent, ?_, fun _ _ => trivial, ?_, fun e => by simp [fen, Fence.wide] at e, ?_⟩
  · have : (mk n F).eval (.const (.func (.yield (w.heap.size + 1)) #[] #[])) = .func (.yield (w.heap.size + 1)) #[] #[] := rfl
    simp [resolve, Deferred.ofValue, hev, this]
  · simp [invoke, he]
  · have hsz : ((w.alloc (.deferred (some []))).heap.size) = w.heap.size + 1 := by simp
    subst hW1
    have h1 := h (w.heap.size + 1) w.heap.size ((w.alloc (.deferred (some []))).alloc (Rec fn n F ps assign body w.heap.size .ready none)) (Rec fn n F ps assign body w.heap.size) fn rfl (Nat.le_refl _) rfl
      ((Keep.alloc _ _ _).trans (Keep.alloc _ _ _)) ((Below.heap_alloc _ _ _ (by simp)).trans (World.alloc_heap_new w _)) (by have := World.alloc_heap_new (w.alloc (.deferred (some []))) (Rec fn n F ps assign body w.heap.size .ready none); rwa [hsz] at this)
    refine CallsIn.mono (callsIn_fen h1) fun e w2 hq => ?_
    obtain ⟨⟨v, rfl⟩, s, p, hs, ho, hk⟩ := hq
    have hF : (⟨(mk n F).tmps, [{ target := .collected w.heap.size, args := #[] }] ++ (mk n F).defers⟩ : Act) = mk n (upd F n (markOf w.heap.size)) := by
      have e1 : (mk n F).defers = [] := by show dec (F n) = []; rw [hd]; rfl
      have e2 : (mk n (upd F n (markOf w.heap.size))).tmps = (mk n F).tmps := by
        apply Array.ext_getElem?
        intro i
        by_cases hi : i < n
        · rw [mk_get _ _ i hi, mk_get _ _ i hi, upd_ne _ _ _ (Nat.ne_of_lt hi)]
        · have a1 : (mk n F).tmps[i]? = none := by simp [mk]; omega
          have a2 : (mk n (upd F n (markOf w.heap.size))).tmps[i]? = none := by simp [mk]; omega
          rw [a1, a2]
      rw [e1, ← e2]
      show (⟨_, _⟩ : Act) = ⟨_, dec (upd F n (markOf w.heap.size) n)⟩
      rw [upd_same]; rfl
    refine ⟨p, _, run_endLoop ho hs, ?_⟩
    have hq := hk _ (Keep.putObj w2 (w.heap.size + 1) (.loop { state := .exhausted, pending := p, fn, tmps := (mk n F).tmps, params := ps.toArray, assign, body, defers := w.heap.size }))
    cases p with
    | none => rw [hF]; exact ⟨_, rfl, hq⟩
    | some c => rw [hF]; exact hq

/-! ### the end of a function that holds a range -/
def endQM (P : Program) (fn : Func) (n : Nat) (R : Ending → World → Prop) : Exit → Fr → World → Prop
  | .normal, F, w | .ret, F, w => LeavesInM Fence.wide 0 P fn (mk n F).tmps R (dec (F n)) .returning w
  | .panic chain, F, w => LeavesInM Fence.wide 0 P fn (mk n F).tmps R (dec (F n)) (.panicking chain) w
  | _, _, _ => False
theorem calls_of_cwM {f : FuncId} {fn : Func} {c : Code} {args : List Value} {R : Ending → World → Prop} {w : World} (n : Nat) (hf : P.funcs[f]? = some fn) (hb : fn.body = some c) (hn : fn.ntmps = n) (hle : args.length ≤ n)
    (h : ∀ F, CW P (ro := none) n c (endQM P fn n R) (argsF args 0 (upd F n undef)) w) : Calls P f args.toArray w R := by
  refine (callsIn_wide (n := 0)).1 (callsIn_of_wp_marks hf hb trivial ?_)
  subst hn
  rw [enter_act hle, argsF_undef fn.ntmps]
  refine wpIn_mono (h _) fun e _ _ ⟨F, ha, hQ⟩ => ?_
  subst ha
  cases e <;> simp only [endQM] at hQ <;> first | exact hQ.elim | exact hQ
theorem callsK_ofM {f : FuncId} {fn : Func} {c : Code} {vs : List Value} {R : Value → World → Prop} {w : World} (n : Nat) (hf : P.funcs[f]? = some fn) (hb : fn.body = some c) (hn : fn.ntmps = n) (hle : vs.length ≤ n)
    (h : ∀ F, CW P (ro := none) n c (endQM P fn n (fun e w' => ∃ v, e = .returned v ∧ Keep [] w w' ∧ R v w')) (argsF vs 0 (upd F n undef)) w) : CallsK P f vs w R := calls_of_cwM n hf hb hn hle h
section
variable {fn : Func} {F : Fr} {w : World} {R : Ending → World → Prop} {v : Value}
theorem endM_r (hd : F n = undef) (hr : (results fn (mk n F).tmps).run P w = .ok v w) (h : R (.returned v) w) : endQM P fn n R .ret F w := by
  show LeavesInM _ _ _ _ _ _ (dec (F n)) _ _; rw [hd]; exact ⟨v, hr, h⟩
theorem leave_mark {D : Nat} (hd : F n = markOf D) (ho : Ob w D (.deferred (some []))) (h : ∀ w', Keep [D] w w' → ∃ v, (results fn (mk n F).tmps).run P w' = .ok v w' ∧ R (.returned v) w') : LeavesInM Fence.wide 0 P fn (mk n F).tmps R (dec (F n)) .returning w := by
  rw [hd]
  exact ⟨by simp, .inl ⟨D, _, rfl, run_takeDeferred ho, h _ (Keep.putObj _ _ _)⟩⟩
theorem endM_rm {D : Nat} (hd : F n = markOf D) (ho : Ob w D (.deferred (some []))) (h : ∀ w', Keep [D] w w' → ∃ v, (results fn (mk n F).tmps).run P w' = .ok v w' ∧ R (.returned v) w') : endQM P fn n R .ret F w := leave_mark hd ho h
/-- A result that lies in a cell. -/
theorem resc {t T b o T0 : Nat} {D : TypeDesc} {cs : List Value} (hres : fn.results = #[.cell t T]) (ht : Nat.blt t n = true) (hT : P.underlying T = some D) (hD : notAgg D = true) (hx : F t = .pointer (some ⟨b, o, none⟩)) (hb : Box w b T0 cs) (hv : cs[o]? = some v) : (results fn (mk n F).tmps).run P w = .ok v w := by
  have := mk_get n F t (blt ht)
  have h3 : (loadVar T ⟨b, o, none⟩).run P w = .ok v w := by
    simp [loadVar, run_isAgg hT, hD, show w.cell? ⟨b, o, none⟩ = some v from by rw [hb.cell]; exact hv]
  simp [results, hres, Array.getD_eq_getD_getElem?, this, hx, asAddr, h3]
end

/-! ### a call of 'yield' -/
theorem wl_y {ops rest : List Oper} {Q : Exit → Fr → World → Prop} {F : Fr} {w : World} {d : Tmp} {ty : TypeId} {pos : String} {af : Array Edge} {xf : Operand} {xs : List Operand} {ats : Array TypeId} (l : Nat) (vs : List Value)
    (hf : evF F xf = .func (.yield l) #[] #[]) (hv : xs.map (evF F) = vs) (hy : YieldsW P l vs w (fun v w' => WL true P ops Q rest (upd F d v) w')) :
    WL true P ops Q (⟨some d, .call { callee := .value xf, args := xs.toArray, argTypes := ats }, ty, pos, af, none⟩ :: rest) F w := by
  unfold WL
  rw [if_pos (show Region.wanted _ _ = true from rfl)]
  refine .inr ⟨rfl, ?_⟩
  unfold RoundW
  obtain ⟨fn, tmps, assign, body, h1, h2⟩ := hy
  have : (execOp (evF F) ⟨none, .call { callee := .value xf, args := xs.toArray, argTypes := ats }, ty, "", #[], none⟩).run P w = .ok (.round l fn tmps assign body) w := by
    simp [execOp, resolve, Deferred.ofValue, invoke, hf, hv, h1]
  rw [this]
  exact h2.mono fun e w' ⟨v, he, hk⟩ => by subst he; exact hk
end
end Go.Fw
