/- Structures without slices: '=='; maps. Program-independent. -/
import Derived.Test.YtjpniibleelgiaaFwU
import Derived.Laws.StructEq
import Derived.ChangeKeysEq
set_option linter.unusedSimpArgs false
set_option linter.unusedVariables false
namespace Go.Fw
open Go.RowKit

def cellV : Int ⊕ Bool → Value
  | .inl a => vI a
  | .inr b => .bool b
def isL : Int ⊕ Bool → Bool
  | .inl _ => true
  | .inr _ => false
def flatOk (P : Program) : Nat → List Field → List Bool → Bool
  | i, f :: fs, k :: ks => f.name != "_" && Nat.beq f.offset i && P.plainKey f.type && (match P.underlying f.type, k with | some (.int _), true => true | some .bool, false => true | _, _ => false) && flatOk P (i + 1) fs ks
  | _, [], [] => true
  | _, _, _ => false
section
variable {P : Program} {w : World}
theorem run_eqFlat {d : Nat} {xs ys : Array Value} : ∀ (fs : List Field) (ks : List Bool) (as bs : List (Int ⊕ Bool)) (i : Nat), flatOk P i fs ks = true → as.map isL = ks → bs.map isL = ks →
    (∀ j v, as[j]? = some v → xs[i + j]? = some (cellV v)) → (∀ j v, bs[j]? = some v → ys[i + j]? = some (cellV v)) → (Op.eqFields (d + 1) xs ys fs).run P w = .ok (decide (as = bs)) w
  | [], ks, as, bs, i, hf, ha, hb, _, _ => by
    cases ks with
    | cons _ _ => simp [flatOk] at hf
    | nil =>
      have : as = [] := by simpa using ha
      have : bs = [] := by simpa using hb
      subst_vars; simp [Op.eqFields]
  | f :: fs, [], as, bs, i, hf, _, _, _, _ => by simp [flatOk] at hf
  | f :: fs, k :: ks, [], _, _, _, ha, _, _, _ => by simp at ha
  | f :: fs, k :: ks, _ :: _, [], _, _, _, hb, _, _ => by simp at hb
  | f :: fs, k :: ks, a :: as, b :: bs, i, hf, ha, hb, hx, hy => by
    simp only [flatOk, Bool.and_eq_true] at hf
    obtain ⟨⟨⟨⟨h1, h2⟩, h3⟩, h4⟩, h5⟩ := hf
    have hn : f.name ≠ "_" := by simpa using h1
    have ho := Nat.eq_of_beq_eq_true h2
    simp only [List.map_cons, List.cons.injEq] at ha hb
    have ih := run_eqFlat (d := d) (xs := xs) (ys := ys) fs ks as bs (i + 1) h5 ha.2 hb.2 (fun j v hj => by have := hx (j + 1) v (by simpa using hj); rwa [show i + (j + 1) = i + 1 + j by omega] at this) (fun j v hj => by have := hy (j + 1) v (by simpa using hj); rwa [show i + (j + 1) = i + 1 + j by omega] at this)
    have pa := run_part_plain (w := w) h3 (hx 0 a rfl)
    have pb := run_part_plain (w := w) h3 (hy 0 b rfl)
    rw [Nat.add_zero, ← ho] at pa pb
    have e : (Op.equalIn (d + 1) f.type (cellV a) (cellV b)).run P w = .ok (decide (a = b)) w := by
      cases hu : P.underlying f.type with
      | none => rw [hu] at h4; cases k <;> simp at h4
      | some D =>
        rw [hu] at h4
        cases k with
        | true =>
          cases D <;> simp at h4
          cases a with
          | inr _ => simp [isL] at ha
          | inl a =>
            cases b with
            | inr _ => simp [isL] at hb
            | inl b =>
              simp only [cellV, vI]
              rw [run_equalIn_int w d f.type _ _ a b hu]
              congr 1; rw [Bool.eq_iff_iff]; simp
        | false =>
          cases D <;> simp at h4
          cases a with
          | inl _ => simp [isL] at ha
          | inr a =>
            cases b with
            | inl _ => simp [isL] at hb
            | inr b =>
              simp only [cellV]
              rw [run_equalIn_bool' w d f.type a b hu]
              congr 1; rw [Bool.eq_iff_iff]; simp
    unfold Op.eqFields
    rw [if_pos hn]
    simp only [Sem.run_bind, pa, pb, e, Result.andThen_ok]
    by_cases hab : a = b
    · subst hab; simp [ih]
    · simp [hab]
/-- What the rules of '==' and of maps ask of a type. -/
def flatT (P : Program) (t : TypeId) (ks : List Bool) : Bool :=
  flatOk P 0 (P.fieldsOf t).toList ks && !P.stoodInHeld t && !P.eqGuardType P.depth t
theorem run_equalFlat {d : Nat} {t : TypeId} {ks : List Bool} (as bs : List (Int ⊕ Bool)) (ht : P.underlying t = some (.struct (P.fieldsOf t))) (hf : flatT P t ks = true) (ha : as.map isL = ks) (hb : bs.map isL = ks) :
    (Op.equalIn (d + 2) t (.agg (as.map cellV).toArray) (.agg (bs.map cellV).toArray)).run P w = .ok (decide (as = bs)) w := by
  unfold flatT at hf
  simp only [Bool.and_eq_true] at hf
  rw [run_equalIn_struct w (d + 1) t _ _ ht (by simpa using hf.1.2)]
  exact run_eqFlat _ ks as bs 0 hf.1.1 ha hb (fun j v hj => by simp [hj]) (fun j v hj => by simp [hj])
variable {ty yt : TypeId} {F : Fr} {K : Value → World → Prop} {Z : List PanicEntry → World → Prop} {x y : Operand}
theorem o_eqlF {t : TypeId} {ks : List Bool} {r : Bool} (as bs : List (Int ⊕ Bool)) (ht : P.underlying t = some (.struct (P.fieldsOf t))) (hf : flatT P t ks = true) (ha : as.map isL = ks) (hb : bs.map isL = ks) (hx : evF F x = .agg (as.map cellV).toArray) (hy : evF F y = .agg (bs.map cellV).toArray) (hr : decide (as = bs) = r) (h : K (.bool r) w) : OpW P (.binOp .eql t x y yt) ty F w K Z := by
  have hg : P.eqGuardType P.depth t = false := by unfold flatT at hf; simp only [Bool.and_eq_true] at hf; simpa using hf.2
  subst hr
  refine opw_run ?_ h
  have e := run_equalFlat (P := P) (w := w) (d := 9998) as bs ht hf ha hb
  simp only [execOp, hx, hy, Sem.run_bind, run_eqGuard_agg w _ t x y _ _ hg, Result.andThen_ok, run_eql_struct, e]
  try rfl
theorem o_neqF {t : TypeId} {ks : List Bool} {r : Bool} (as bs : List (Int ⊕ Bool)) (ht : P.underlying t = some (.struct (P.fieldsOf t))) (hf : flatT P t ks = true) (ha : as.map isL = ks) (hb : bs.map isL = ks) (hx : evF F x = .agg (as.map cellV).toArray) (hy : evF F y = .agg (bs.map cellV).toArray) (hr : (!decide (as = bs)) = r) (h : K (.bool r) w) : OpW P (.binOp .neq t x y yt) ty F w K Z := by
  have hg : P.eqGuardType P.depth t = false := by unfold flatT at hf; simp only [Bool.and_eq_true] at hf; simpa using hf.2
  subst hr
  refine opw_run ?_ h
  have e := run_equalFlat (P := P) (w := w) (d := 9998) as bs ht hf ha hb
  simp only [execOp, hx, hy, Sem.run_bind, run_eqGuard_agg w _ t x y _ _ hg, Result.andThen_ok, run_neq_struct, e]
  try rfl

/-! ### maps, as functions -/
/-- Keys of this type can be looked up: 'enc' says how they lie. -/
structure KeyT (P : Program) (kt : TypeId) {κ : Type} [BEq κ] (enc : κ → Value) : Prop where
  same : ∀ k : κ, Instr.sameBits 10000 (enc k) (enc k) = true
  check : ∀ (k : κ) (b : Bool) (w : World), (Instr.checkKey b 10000 kt (enc k)).run P w = .ok () w
  find : ∀ (k : κ) (l : List (κ × Value)) (es : List MapEntry) (w : World), es.map (fun e => (e.key, e.val)) = l.map (fun x => (enc x.1, x.2)) → (Instr.findKey kt (enc k) es).run P w = .ok ((l.findIdx? (fun x => k == x.1)).bind fun j => (l[j]?).map fun x => (j, x.2)) w
theorem key_int {kt : TypeId} (hk : P.underlying kt = some (.int .i64)) : KeyT P kt (κ := Int) vI :=
  ⟨fun k => by simp [Instr.sameBits, vI], fun k b w => run_checkF hk b, fun k l es w he => by
    have := run_findF (P := P) (w := w) (kt := kt) (k := k) (l := l) (es := es.toArray) hk (r := 0) (by simpa using he)
    simpa using this⟩
def mfind {κ : Type} [BEq κ] (l : List (κ × Value)) (k : κ) : Option Value := (l.findIdx? (fun x => k == x.1)).bind fun j => (l[j]?).map (·.2)
def MapV {κ α : Type} [BEq κ] (enc : κ → Value) (venc : α → Value) (w : World) (r : Nat) (M : κ → Option α) : Prop :=
  ∃ es c, ∃ l : List (κ × Value), Ob w r (.map es c) ∧ es.toList.map (fun e => (e.key, e.val)) = l.map (fun x => (enc x.1, x.2)) ∧ ∀ k, mfind l k = (M k).map venc
section
variable {κ α : Type} [BEq κ] {enc : κ → Value} {venc : α → Value} {r : Nat} {M : κ → Option α}
theorem MapV.lt (h : MapV enc venc w r M) : r < w.heap.size := let ⟨_, _, _, h, _⟩ := h; h.lt
theorem MapV.keep {w' : World} {O : List Nat} (h : MapV enc venc w r M) (k : Keep O w w') (hb : r ∉ O) : MapV enc venc w' r M := let ⟨es, c, l, h1, h2⟩ := h; ⟨es, c, l, h1.keep k hb, h2⟩
variable {w0 : World} {O0 B : List Nat} {z : Operand}
def noM {κ α : Type} : κ → Option α := fun _ => none
def upM {κ α : Type} [BEq κ] (M : κ → Option α) (k : κ) (a : α) : κ → Option α := fun k' => if k' == k then some a else M k'
theorem o_makeMapV (enc : κ → Value) (venc : α → Value) {t : TypeId} (s : St w0 O0 w B) (h : ∀ r w', r = w.heap.size → St w0 O0 w' (r :: B) → Mv B w (r :: B) w' → Keep [] w w' → MapV enc venc w' r noM → K (.map (some r)) w') : OpW P (.makeMap t none) ty F w K Z := by
  refine o_makeMapF s fun r w' e s' m k hm => h r w' e s' m k ?_
  obtain ⟨es, c, ho, he⟩ := hm
  exact ⟨es, c, [], ho, by simpa using he, fun k => rfl⟩
theorem o_lookV1 {t kt et : TypeId} {k : κ} {z0 : α} (ht : P.underlying t = some (.map kt et)) (hk : KeyT P kt enc) (hz : zeroT P et = some (venc z0)) (hx : evF F x = .map (some r)) (hy : evF F y = enc k) (hm : MapV enc venc w r M) (h : K (venc ((M k).getD z0)) w) : OpW P (.lookup t x y false) ty F w K Z := by
  obtain ⟨es, c, l, ho, he, hM⟩ := hm
  have h1 := hk.find k l es.toList w he
  have hMk := hM k
  unfold mfind at hMk
  refine opw_run ?_ h
  cases hj : l.findIdx? (fun x => k == x.1) with
  | none =>
    rw [hj] at h1 hMk
    have : M k = none := by cases hh : M k with | none => rfl | some a => rw [hh] at hMk; simp at hMk
    simp [execOp, Instr.lookup, run_underlying ht, hx, hy, run_getMap ho, hk.check, h1, run_zero hz, this]
  | some j =>
    rw [hj] at h1 hMk
    obtain ⟨hjl, _⟩ := List.findIdx?_eq_some_iff_getElem.1 hj
    have hl : l[j]? = some l[j] := List.getElem?_eq_getElem hjl
    rw [Option.bind_some, hl, Option.map_some] at h1 hMk
    cases hh : M k with
    | none => rw [hh] at hMk; simp at hMk
    | some a =>
      rw [hh] at hMk
      simp only [Option.map_some, Option.some.injEq] at hMk
      simp [execOp, Instr.lookup, run_underlying ht, hx, hy, run_getMap ho, hk.check, h1, hMk]
theorem o_lookV2 {t kt et : TypeId} {k : κ} {z0 : α} (ht : P.underlying t = some (.map kt et)) (hk : KeyT P kt enc) (hz : zeroT P et = some (venc z0)) (hx : evF F x = .map (some r)) (hy : evF F y = enc k) (hm : MapV enc venc w r M) (h : K (.tuple #[venc ((M k).getD z0), .bool (M k).isSome]) w) : OpW P (.lookup t x y true) ty F w K Z := by
  obtain ⟨es, c, l, ho, he, hM⟩ := hm
  have h1 := hk.find k l es.toList w he
  have hMk := hM k
  unfold mfind at hMk
  refine opw_run ?_ h
  cases hj : l.findIdx? (fun x => k == x.1) with
  | none =>
    rw [hj] at h1 hMk
    have : M k = none := by cases hh : M k with | none => rfl | some a => rw [hh] at hMk; simp at hMk
    simp [execOp, Instr.lookup, run_underlying ht, hx, hy, run_getMap ho, hk.check, h1, run_zero hz, this]
  | some j =>
    rw [hj] at h1 hMk
    obtain ⟨hjl, _⟩ := List.findIdx?_eq_some_iff_getElem.1 hj
    have hl : l[j]? = some l[j] := List.getElem?_eq_getElem hjl
    rw [Option.bind_some, hl, Option.map_some] at h1 hMk
    cases hh : M k with
    | none => rw [hh] at hMk; simp at hMk
    | some a =>
      rw [hh] at hMk
      simp only [Option.map_some, Option.some.injEq] at hMk
      simp [execOp, Instr.lookup, run_underlying ht, hx, hy, run_getMap ho, hk.check, h1, hMk]
theorem findIdx_set {l : List (κ × Value)} {j : Nat} {q : κ × Value} (hj : j < l.length) (hq : q.1 = l[j].1) (k' : κ) : (l.set j q).findIdx? (fun x => k' == x.1) = l.findIdx? (fun x => k' == x.1) := by
  induction l generalizing j with
  | nil => simp at hj
  | cons a l ih =>
    cases j with
    | zero =>
      simp only [List.getElem_cons_zero] at hq
      rw [List.set_cons_zero, List.findIdx?_cons, List.findIdx?_cons, hq]
    | succ j =>
      simp only [List.length_cons, Nat.add_lt_add_iff_right] at hj
      simp only [List.getElem_cons_succ] at hq
      rw [List.set_cons_succ, List.findIdx?_cons, List.findIdx?_cons, ih hj hq]
variable [LawfulBEq κ]
theorem mfind_push {l : List (κ × Value)} {k : κ} {v : Value} (hn : l.findIdx? (fun x => k == x.1) = none) (k' : κ) : mfind (l ++ [(k, v)]) k' = if k' == k then some v else mfind l k' := by
  unfold mfind
  rw [List.findIdx?_append]
  by_cases e : k' == k
  · have e' : k' = k := by simpa using e
    subst e'
    rw [hn]; simp
  · rw [if_neg e]
    cases hf : l.findIdx? (fun x => k' == x.1) with
    | none => simp [e]
    | some j =>
      obtain ⟨hjl, _⟩ := List.findIdx?_eq_some_iff_getElem.1 hf
      simp [List.getElem?_append_left hjl]
theorem mfind_set {l : List (κ × Value)} {k : κ} {v : Value} {j : Nat} (hf : l.findIdx? (fun x => k == x.1) = some j) {q : κ} (hq : ∀ h : j < l.length, q = l[j].1) (k' : κ) : mfind (l.set j (q, v)) k' = if k' == k then some v else mfind l k' := by
  obtain ⟨hjl, h1, h2⟩ := List.findIdx?_eq_some_iff_getElem.1 hf
  have hk : k = l[j].1 := by simpa using h1
  unfold mfind
  rw [findIdx_set hjl (hq hjl)]
  by_cases e : k' == k
  · have e' : k' = k := by simpa using e
    subst e'
    rw [hf, if_pos e]; simp [hjl]
  · rw [if_neg e]
    cases hg : l.findIdx? (fun x => k' == x.1) with
    | none => rfl
    | some i =>
      have hij : i ≠ j := fun hij => by
        subst hij
        obtain ⟨_, h3, _⟩ := List.findIdx?_eq_some_iff_getElem.1 hg
        have : k' = l[i].1 := by simpa using h3
        exact e (by rw [this, ← hk]; simp)
      simp [List.getElem?_set, Ne.symm hij]
theorem o_updV {t kt et : TypeId} {k : κ} {a : α} (ht : P.underlying t = some (.map kt et)) (hk : KeyT P kt enc) (hx : evF F x = .map (some r)) (hy : evF F y = enc k) (hv : evF F z = venc a) (hm : MapV enc venc w r M) (hr : r ∈ B) (s : St w0 O0 w B)
    (h : ∀ w', St w0 O0 w' B → Mv B w B w' → Keep [r] w w' → MapV enc venc w' r (upM M k a) → K undef w') : OpW P (.mapUpdate t x y z) ty F w K Z := by
  obtain ⟨es, c, l, ho, he, hM⟩ := hm
  have h1 := hk.find k l es.toList w he
  cases hj : l.findIdx? (fun x => k == x.1) with
  | none =>
    rw [hj] at h1
    have h2 : Keep [r] w (w.putObj r (.map (es.push { key := enc k, val := venc a, born := c }) (c + 1))) := Keep.putObj _ _ _
    refine opw_skip (w' := w.putObj r (.map (es.push { key := enc k, val := venc a, born := c }) (c + 1))) ?_ (h _ (s.keepB h2 (by simpa using hr)) (Mv.keepB h2 (by simpa using hr)) h2 ⟨_, _, l ++ [(k, venc a)], ho.putObj _, by simp [he], fun k' => ?_⟩)
    · simp [execOp, Instr.mapUpdate, run_underlying ht, hx, hy, hv, run_getMap ho, hk.check, h1, run_setMap _ ho]
    · rw [mfind_push hj]; unfold upM; split
      · rfl
      · exact hM k'
  | some j =>
    rw [hj] at h1
    obtain ⟨hjl, hj1, _⟩ := List.findIdx?_eq_some_iff_getElem.1 hj
    have hkj : k = l[j].1 := by simpa using hj1
    have hel : es.toList.length = l.length := by have := congrArg List.length he; simpa using this
    have hje : j < es.size := by simpa using (by omega : j < es.toList.length)
    have hkey : es[j].key = enc k ∧ es[j].val = l[j].2 := by
      have := congrArg (·[j]?) he
      simp only [List.getElem?_map] at this
      rw [List.getElem?_eq_getElem hjl, List.getElem?_eq_getElem (by omega : j < es.toList.length)] at this
      simp only [Option.map_some, Option.some.injEq, Prod.mk.injEq] at this
      rw [hkj]
      exact ⟨by simpa using this.1, by simpa using this.2⟩
    have hst : (Instr.keyThatStays (enc k) (enc k)).run P w = .ok (enc k) w := by unfold Instr.keyThatStays; rw [if_pos (hk.same k)]; rfl
    rw [Option.bind_some, List.getElem?_eq_getElem hjl, Option.map_some] at h1
    have h2 : Keep [r] w (w.putObj r (.map (es.modify j fun e => { e with key := enc k, val := venc a }) c)) := Keep.putObj _ _ _
    refine opw_skip (w' := w.putObj r (.map (es.modify j fun e => { e with key := enc k, val := venc a }) c)) ?_ (h _ (s.keepB h2 (by simpa using hr)) (Mv.keepB h2 (by simpa using hr)) h2 ⟨_, _, l.set j (k, venc a), ho.putObj _, ?_, fun k' => ?_⟩)
    · simp [execOp, Instr.mapUpdate, run_underlying ht, hx, hy, hv, run_getMap ho, hk.check, h1, run_setMap _ ho, hje, hkey.1, hst]
    · apply List.ext_getElem?
      intro i
      have hi := congrArg (·[i]?) he
      simp only [List.getElem?_map, Array.getElem?_toList] at hi
      simp only [List.getElem?_map, Array.getElem?_toList, Array.getElem?_modify, List.getElem?_set]
      by_cases hij : j = i
      · subst hij
        simp [hje, hjl]
      · rw [if_neg hij, if_neg hij]; exact hi
    · rw [mfind_set hj (q := k) (fun _ => hkj)]; unfold upM; split
      · rfl
      · exact hM k'
theorem run_checkFlat {n : Nat} {b : Bool} {xs : Array Value} : ∀ (fs : List Field) (ks : List Bool) (as : List (Int ⊕ Bool)) (i : Nat) (w : World), flatOk P i fs ks = true → as.map isL = ks → (∀ j v, as[j]? = some v → xs[i + j]? = some (cellV v)) →
    (forIn fs PUnit.unit fun f _ => if f.name ≠ "_" then do { let x ← part f.type xs f.offset; Instr.checkKey b (n + 1) f.type x; pure (ForInStep.yield PUnit.unit) } else pure (ForInStep.yield PUnit.unit) : Sem PUnit).run P w = .ok PUnit.unit w
  | [], _, _, _, _, _, _, _ => by simp
  | f :: fs, [], _, _, _, hf, _, _ => by simp [flatOk] at hf
  | f :: fs, k :: ks, [], _, _, _, ha, _ => by simp at ha
  | f :: fs, k :: ks, a :: as, i, w, hf, ha, hx => by
    simp only [flatOk, Bool.and_eq_true] at hf
    obtain ⟨⟨⟨⟨h1, h2⟩, h3⟩, h4⟩, h5⟩ := hf
    have hn : f.name ≠ "_" := by simpa using h1
    have ho := Nat.eq_of_beq_eq_true h2
    simp only [List.map_cons, List.cons.injEq] at ha
    have ih := run_checkFlat (n := n) (b := b) (xs := xs) fs ks as (i + 1) w h5 ha.2 (fun j v hj => by have := hx (j + 1) v (by simpa using hj); rwa [show i + (j + 1) = i + 1 + j by omega] at this)
    have pa := run_part_plain (w := w) h3 (hx 0 a rfl)
    rw [Nat.add_zero, ← ho] at pa
    have e : (Instr.checkKey b (n + 1) f.type (cellV a)).run P w = .ok () w := by
      cases hu : P.underlying f.type with
      | none => rw [hu] at h4; cases k <;> simp at h4
      | some D =>
        rw [hu] at h4
        rw [Instr.checkKey]
        cases k <;> cases D <;> simp at h4 <;> cases a <;> simp [run_underlying hu, cellV, vI]
    rw [List.forIn_cons]
    simp only [hn, ne_eq, not_false_eq_true, if_true, Sem.run_bind, pa, e, Result.andThen_ok, Sem.run_pure]
    exact ih
end
section
variable {κ : Type} [BEq κ] [LawfulBEq κ]
theorem run_findFlat {kt : TypeId} {ks : List Bool} (cs : κ → List (Int ⊕ Bool)) (ht : P.underlying kt = some (.struct (P.fieldsOf kt))) (hf : flatT P kt ks = true) (hks : ∀ k, (cs k).map isL = ks) (hinj : ∀ a b, cs a = cs b → a = b) (k : κ) : ∀ (l : List (κ × Value)) (es : List MapEntry) (i : Nat) (w : World), es.map (fun e => (e.key, e.val)) = l.map (fun x => (Value.agg ((cs x.1).map cellV).toArray, x.2)) →
    (Instr.findAsking kt (.agg ((cs k).map cellV).toArray) es i).run P w = .ok ((l.findIdx? (fun x => k == x.1)).bind fun j => (l[j]?).map fun x => (i + j, x.2)) w
  | [], [], i, w, _ => rfl
  | [], e :: es, i, w, h => by simp at h
  | x :: l, [], i, w, h => by simp at h
  | x :: l, e :: es, i, w, h => by
    simp only [List.map_cons, List.cons.injEq, Prod.mk.injEq] at h
    obtain ⟨⟨h1, h2⟩, h3⟩ := h
    have he := run_equalFlat (P := P) (w := w) (d := 9998) (cs k) (cs x.1) ht hf (hks k) (hks x.1)
    unfold Instr.findAsking
    have he' : (Op.equal kt (.agg ((cs k).map cellV).toArray) e.key).run P w = .ok (decide (cs k = cs x.1)) w := by rw [h1]; exact he
    simp only [Sem.run_bind, he', Result.andThen_ok]
    rw [List.findIdx?_cons]
    by_cases hc : k = x.1
    · have : (k == x.1) = true := by simp [hc]
      simp [hc, h2]
    · have hc' : ¬ cs k = cs x.1 := fun e => hc (hinj _ _ e)
      have : (k == x.1) = false := by simpa using hc
      rw [this]
      simp only [hc', decide_false, Bool.false_eq_true, if_false]
      rw [run_findFlat cs ht hf hks hinj k l es (i + 1) w h3]
      cases hf2 : l.findIdx? (fun x => k == x.1) with
      | none => simp
      | some j => simp; congr 1; funext y; congr 1; omega
theorem key_flat {kt : TypeId} {ks : List Bool} (cs : κ → List (Int ⊕ Bool)) (ht : P.underlying kt = some (.struct (P.fieldsOf kt))) (hf : flatT P kt ks = true) (hks : ∀ k, (cs k).map isL = ks) (hinj : ∀ a b, cs a = cs b → a = b) : KeyT P kt (fun k => Value.agg ((cs k).map cellV).toArray) := by
  refine ⟨fun k => ?_, fun k b w => ?_, fun k l es w he => ?_⟩
  · have : ∀ l : List (Int ⊕ Bool), (((l.map cellV).toArray.toList.zip (l.map cellV).toArray.toList).all fun p => Instr.sameBits 9999 p.1 p.2) = true := by
      intro l
      induction l with
      | nil => rfl
      | cons a l ih =>
        cases a <;> simp [cellV, vI, Instr.sameBits] at ih ⊢ <;> exact ih
    rw [show (10000 : Nat) = 9999 + 1 from rfl, Instr.sameBits]
    simpa using this (cs k)
  · unfold flatT at hf
    simp only [Bool.and_eq_true] at hf
    rw [show (10000 : Nat) = 9998 + 1 + 1 from rfl, Instr.checkKey]
    simp only [Sem.run_bind, run_underlying ht, Result.andThen_ok]
    rw [← Array.forIn_toList]
    rw [run_checkFlat (xs := (List.map cellV (cs k)).toArray) _ ks (cs k) 0 w hf.1.1 (hks k) (fun j v hj => by simp [hj])]
    rfl
  · have h := run_findFlat cs ht hf hks hinj k l es 0 w he
    simp only [Nat.zero_add] at h
    unfold Instr.findKey
    simp only [Sem.run_bind, run_underlying ht, Result.andThen_ok]
    cases es with
    | nil =>
      cases l with
      | nil => simp [Instr.findNow]
      | cons _ _ => simp at he
    | cons e es =>
      cases l with
      | nil => simp at he
      | cons x l =>
        simp only [List.map_cons, List.cons.injEq, Prod.mk.injEq] at he
        have : Instr.findNow (.struct (P.fieldsOf kt)) (Value.agg ((cs k).map cellV).toArray) (e :: es) 0 = none := by
          unfold Instr.findNow
          rw [he.1.1]; rfl
        rw [this]
        exact h
end
end
end Go.Fw
