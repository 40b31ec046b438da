/- What the proofs of this seat's rows share: the last step of a row, and a byte as the walks write it. -/
import Derived.Test.YtjpniibleelgiaaRows
import Derived.Test.YtjpniibleelgiaaFwG
import Derived.OpenShut
import Derived.ProofKit
import Derived.Below
import Derived.ChangeSame
import Derived.Carry
set_option linter.unusedSimpArgs false
set_option linter.unusedVariables false
namespace Go.Proofs.Ytjpniibleelgiaa
open Go.ChangeShapes Go.WideShapes Go.ChangeAt Go.RowKit Go.Fw

theorem Try.own : ownKnob Try.prog.godebug = none := by kernel_rfl
theorem Try.laidOut : laidOutB Try.prog = true := by kernel_rfl

section
variable {H : Type} {enc : TypeId × Value → H} {P : Program}
theorem post_keep {f : Func} {s : ChangeSpec} {apart fresh handsOn again : Bool} {W W' : World} {args : Array Value} {v : Value} {ds gs : List (DataW H)} {before pa pv : List MemPlace}
    (hW : DataW.Whole enc P f.params.toList s.vars apart W args.toList ds gs before)
    (hres : ∀ (b : Nat) (sp : Nat → Bool) (hd : Bool), DataW.TrodAll enc P W' b sp hd f.resultTypes.toList (v.resultList f.resultTypes.size) (s.fn H (ds ++ gs)).results [])
    (hargs : ∀ sp : Nat → Bool, (∀ p ∈ before, sp p.block = true) → DataW.TrodAll enc P W' 0 sp true f.params.toList args.toList (s.fn H (ds ++ gs)).args pa)
    (hvars : ∀ sp : Nat → Bool, (∀ p ∈ before, sp p.block = true) → DataW.TrodVars enc P W' sp s.vars (s.fn H (ds ++ gs)).vars pv)
    (hps : before = pa ++ pv) (hb : Below W.heap.size W W')
    (hok : ∀ (j : Nat) (t : TypeId) (r : Value), f.resultTypes[j]? = some t → (v.resultList f.resultTypes.size)[j]? = some r → Value.okWide P W' .any 0 t r) :
    s.post enc P f apart fresh handsOn again W args v W' := by
  have hlt : ∀ p ∈ before, p.block < W.heap.size := fun p hp => hW.lt p hp
  have hold : ∀ p ∈ before, (fun b => decide (b < W.heap.size)) p.block = true := fun p hp => by simpa using hlt p hp
  refine ⟨ds, gs, before, [], pa, pv, hW, hres _ _ _, hargs _ hold, hvars _ hold, World.keptBut_mono (fun p hp => ⟨hp, ?_⟩) (hb.frame (· ∈ before)), fun _ => ?_⟩
  · rw [hps, List.mem_append] at hp
    exact Or.inr hp
  · obtain ⟨_, _, _, _, _, hz, hn⟩ := hW
    refine ⟨hok, _, _, ([] ++ pa) ++ pv, ⟨[] ++ pa, pv, trodAll_append (hargs _ (fun _ _ => rfl)) (hres _ _ _), hvars _ (fun _ _ => rfl), rfl, ?_, ?_⟩, ?_⟩
    · intro b off hp
      have hin : MemPlace.cell b off ∈ before := by rw [hps]; simpa using hp
      rw [hb.frozen (hlt _ hin)]
      exact hz b off hin
    · intro ha
      have := hn ha
      rw [hps] at this
      simpa using this
    · intro p hp _
      rw [hps]
      simpa using hp
end
/-- A byte, as the walks write it. -/
theorem u8_wf {n : Int} (h : (Lit.int .u8 n).wf = true) : ∃ a : UInt8, Value.int .u8 n = vB a ∧ n = (a.toNat : Int) := by
  have hh := bounds_u8 h
  refine ⟨UInt8.ofNat n.toNat, ?_, ?_⟩
  · show _ = Value.int .u8 _
    congr 1
    rw [UInt8.toNat_ofNat']; omega
  · rw [UInt8.toNat_ofNat']; omega

section
variable {H : Type} {enc : TypeId × Value → H} {P : Program}
/-- The arguments read as before, where below the old heap nothing has turned. -/
theorem trodAll_stays (hl : laidOutB P = true) {W W' : World} {sp' : Nat → Bool} (hb : Below W.heap.size W W') : ∀ {ts : List TypeId} {vs : List Value} {ds : List (DataW H)} {ps : List MemPlace},
    ts.all (fun t => P.readableRec t && decide (t < P.types.size)) = true → DataW.TrodAll enc P W 0 (fun _ => true) true ts vs ds ps → (∀ p ∈ ps, p.block < W.heap.size) → (∀ p ∈ ps, sp' p.block = true) → DataW.TrodAll enc P W' 0 sp' true ts vs ds ps
  | [], vs, ds, ps, _, h, _, _ => by obtain ⟨rfl, rfl, rfl⟩ := trodAll_nil h; exact trodAll_mk0
  | t :: ts, vs, ds, ps, hr, h, h1, h2 => by
    obtain ⟨v, vs', d, ds', p, q, rfl, rfl, rfl, hd, hs⟩ := trodAll_cons h
    simp only [List.all_cons, Bool.and_eq_true, decide_eq_true_eq] at hr
    refine ⟨p, q, WideElems.Trod_stays hl hr.1.1 hr.1.2 hd (fun x hx => hb.same (h1 x (List.mem_append_left _ hx))) (fun x hx => h2 x (List.mem_append_left _ hx)), ?_, rfl⟩
    exact trodAll_stays hl hb hr.2 hs (fun x hx => h1 x (List.mem_append_right _ hx)) (fun x hx => h2 x (List.mem_append_right _ hx))
/-- What reads as data of the type t lies in cells as E says. -/
structure Opens (P : Program) (t : TypeId) {α : Type} (E : Enc α) : Prop where
  size : P.cellsOf t = E.size
  opens : ∀ {H : Type} {enc : TypeId × Value → H} {w : World} {fuel : Nat} {cs : List Value} {x : DataW H × List MemPlace}, DataW.trod enc P w 0 (fun _ => true) true fuel t cs = some x → ∃ y, E.rd w [] cs y
theorem opens_int {t : TypeId} (ht : P.underlying t = some (.int .i64)) (hs : P.cellsOf t = 1) : Opens P t Enc.int :=
  ⟨hs, fun h => by obtain ⟨n, rfl, _, _⟩ := DataW.trod_int ht h; exact ⟨n, rfl⟩⟩
theorem opens_bool {t : TypeId} (ht : P.underlying t = some .bool) (hs : P.cellsOf t = 1) : Opens P t Enc.bool :=
  ⟨hs, fun h => by obtain ⟨n, rfl, _⟩ := DataW.trod_bool ht h; exact ⟨n, rfl⟩⟩
theorem opens_u8 {t : TypeId} (ht : P.underlying t = some (.int .u8)) (hs : P.cellsOf t = 1) : Opens P t Enc.u8 :=
  ⟨hs, fun h => by obtain ⟨n, rfl, _, hw⟩ := DataW.trod_int ht h; obtain ⟨a, e, _⟩ := u8_wf hw; exact ⟨a, by rw [e]; rfl⟩⟩
theorem opens_slice {t e : TypeId} {α : Type} {E : Enc α} (ht : P.underlying t = some (.slice e)) (hs : P.cellsOf t = 1) (hp : 0 < E.size) (o : Opens P e E) : Opens P t E.slice :=
  ⟨hs, fun {H enc w fuel cs x} h => by
    rcases DataW.trod_slice ht h with ⟨rfl, _⟩ | ⟨a, len, cap, elems, rest, n, _, rfl, _, _, hle, hcap, hel, hget, _, _⟩
    · exact ⟨[], _, rfl, RdL.nil _ _ _⟩
    · have key : ∀ i, i < len → ∃ cs, Cells w [] (a.add (i * E.size)) cs ∧ ∃ y, E.rd w [] cs y := fun i hi => by
        have h1 := hget i hi
        rw [List.getElem?_eq_getElem (by omega)] at h1
        obtain ⟨cs, h2, h3⟩ := Option.bind_eq_some_iff.1 h1
        obtain ⟨y, hy⟩ := o.opens h3
        rw [o.size] at h2
        obtain ⟨_, hl, hc⟩ := World.cells?_some h2
        have hc' : ∀ j v, cs[j]? = some v → w.cell? ((a.add (i * E.size)).add j) = some v := fun j v hv => by
          rw [hc j (by rw [← hl]; exact (List.getElem?_eq_some_iff.1 hv).1), hv]
        refine ⟨cs, ⟨?_, by simp, hc'⟩, y, hy⟩
        have h0 : ∃ v, cs[0]? = some v := ⟨_, List.getElem?_eq_getElem (by omega)⟩
        obtain ⟨v, hv⟩ := h0
        have := World.block_lt_of_cell? w _ (hc' 0 v hv)
        simpa [Addr.add] using this
      have : Nonempty (∀ i : Fin len, { p : List Value × α // Cells w [] (a.add (i.val * E.size)) p.1 ∧ E.rd w [] p.1 p.2 }) := ⟨fun i => Classical.choice (by obtain ⟨cs, h1, y, h2⟩ := key i.val i.isLt; exact ⟨⟨(cs, y), h1, h2⟩⟩)⟩
      obtain ⟨f⟩ := this
      refine ⟨List.ofFn fun i => (f i).1.2, _, rfl, some a, cap, by simp, by simpa using hle, hcap, fun i y hi => ?_⟩
      have hlt : i < len := by have := (List.getElem?_eq_some_iff.1 hi).1; simpa using this
      have e : y = (f ⟨i, hlt⟩).1.2 := by rw [List.getElem?_ofFn] at hi; simp [hlt] at hi; exact hi.symm
      subst e
      exact ⟨a, _, rfl, (f ⟨i, hlt⟩).2.1, (f ⟨i, hlt⟩).2.2⟩⟩
/-- A part of a structure. -/
theorem open_at {t : TypeId} {α : Type} {E : Enc α} {w : World} {n off i : Nat} {cs : List Value} {xs : List (DataW H × List MemPlace)} (o : Opens P t E)
    (h : DataW.trod enc P w 0 (fun _ => true) true n t ((cs.drop off).take (P.cellsOf t)) = xs[i]?) (hi : i < xs.length) : ∃ y, E.rd w [] ((cs.drop off).take E.size) y := by
  rw [List.getElem?_eq_getElem hi, o.size] at h
  exact o.opens h
/-! ### arguments -/
theorem arg_int {t : TypeId} {v : Value} {W : World} {base : Nat} {d : DataW H} {p : List MemPlace} (ht : P.underlying t = some (.int .i64)) (h : DataW.Trod enc P W 0 (fun _ => true) true t v d p) (hv : Value.okWide P W .any base t v) : ∃ n : Int, v = vI n := by
  obtain ⟨n, rfl⟩ := okWide_int ht hv; exact ⟨n, rfl⟩
theorem arg_u8 {t : TypeId} {v : Value} {W : World} {base : Nat} {d : DataW H} {p : List MemPlace} (ht : P.underlying t = some (.int .u8)) (h : DataW.Trod enc P W 0 (fun _ => true) true t v d p) (hv : Value.okWide P W .any base t v) : ∃ n : UInt8, v = vB n := by
  obtain ⟨x, rfl, _, _, w⟩ := open_int ht hv h
  obtain ⟨y, e, _⟩ := u8_wf w
  exact ⟨y, e⟩
theorem arg_slice {t e : TypeId} {α : Type} {E : Enc α} {v : Value} {W : World} {base : Nat} {d : DataW H} {p : List MemPlace} (ht : P.underlying t = some (.slice e)) (o : Opens P t E.slice) (h : DataW.Trod enc P W 0 (fun _ => true) true t v d p) (hv : Value.okWide P W .any base t v) : ∃ l : List α, RdL E W [] v l := by
  obtain ⟨A, n, c, rfl⟩ := okWide_slice ht hv
  obtain ⟨fuel, h⟩ := h
  obtain ⟨l, v', e, hl⟩ := o.opens h
  have : [Value.slice A n c] = [v'] := e
  cases this
  exact ⟨l, hl⟩
theorem arg_struct {t : TypeId} {fs : Array Field} {α : Type} {E : Enc α} {v : Value} {W : World} {base : Nat} {d : DataW H} {p : List MemPlace} (ht : P.underlying t = some (.struct fs)) (o : Opens P t E) (h : DataW.Trod enc P W 0 (fun _ => true) true t v d p) (hv : Value.okWide P W .any base t v) : ∃ (cs : List Value) (x : α), v = .agg cs.toArray ∧ E.rd W [] cs x := by
  obtain ⟨cs, rfl, _⟩ := okWide_struct ht hv
  obtain ⟨fuel, h⟩ := h
  obtain ⟨x, hx⟩ := o.opens h
  exact ⟨cs.toList, x, by simp, hx⟩
end

end Go.Proofs.Ytjpniibleelgiaa
