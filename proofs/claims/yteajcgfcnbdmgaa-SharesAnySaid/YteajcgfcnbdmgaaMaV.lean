/- Shares: what chapter 8 says of splitting, joining, explaining and refreshing. No program in sight. -/
import Derived.Test.YteajcgfcnbdmgaaMaU
set_option linter.unusedSimpArgs false
set_option linter.unusedVariables false
namespace Go.Proofs.Yteajcgfcnbdmgaa
open Go.Fw

/-! ### a choice of shares -/
def selB (mask : UInt8) (i : Nat) : Bool := decide (i < 8) && (mask >>> UInt8.ofNat i &&& 1 == 1)
def selL (mask : UInt8) (n : Nat) : List Nat := (List.range n).filter (selB mask)
def someM (l : List Share) (mask : UInt8) (n : Nat) : List Share := (selL mask n).map fun i => l[i]!
theorem selL_succ (mask : UInt8) (n : Nat) : selL mask (n + 1) = selL mask n ++ if selB mask n then [n] else [] := by
  unfold selL; rw [List.range_succ, List.filter_append]; congr 1
  cases h : selB mask n <;> simp [List.filter, h]
theorem someM_zero (l : List Share) (mask : UInt8) : someM l mask 0 = [] := rfl
theorem someM_hit {l : List Share} {mask : UInt8} {n : Nat} (h : n < 8) (h2 : mask >>> UInt8.ofNat n &&& 1 = 1) : someM l mask (n + 1) = someM l mask n ++ [l[n]!] := by
  unfold someM; rw [selL_succ, if_pos (by simp [selB, h, h2])]; simp
theorem someM_miss {l : List Share} {mask : UInt8} {n : Nat} (h : ¬ (n < 8 ∧ mask >>> UInt8.ofNat n &&& 1 = 1)) : someM l mask (n + 1) = someM l mask n := by
  unfold someM; rw [selL_succ, if_neg (by simp only [selB, Bool.and_eq_true, decide_eq_true_eq, beq_iff_eq]; exact h)]; simp
theorem selL_lt {mask : UInt8} {n j : Nat} (h : j < (selL mask n).length) : (selL mask n)[j]! < n := by
  rw [getElem!_pos _ j h]
  have := List.getElem_mem h
  unfold selL at this
  exact List.mem_range.1 (List.mem_filter.1 this).1
theorem selL_inc {mask : UInt8} {n i j : Nat} (hij : i < j) (h : j < (selL mask n).length) : (selL mask n)[i]! < (selL mask n)[j]! := by
  rw [getElem!_pos _ j h, getElem!_pos _ i (by omega)]
  have : (selL mask n).Pairwise (· < ·) := List.Pairwise.filter _ List.pairwise_lt_range
  exact List.pairwise_iff_getElem.1 this i j _ _ hij
theorem someM_len (l : List Share) (mask : UInt8) (n : Nat) : (someM l mask n).length = (selL mask n).length := by simp [someM]
theorem someM_le (l : List Share) (mask : UInt8) (n : Nat) : (someM l mask n).length ≤ n := by
  rw [someM_len]; unfold selL; exact Nat.le_trans (List.length_filter_le _ _) (by simp)
theorem someM_get {l : List Share} {mask : UInt8} {n j : Nat} (h : j < (someM l mask n).length) : (someM l mask n)[j]! = l[(selL mask n)[j]!]! := by
  rw [someM_len] at h
  unfold someM
  rw [getElem!_pos _ j (by simpa using h), getElem!_pos _ j h]; simp
/-! ### shares of polynomials -/
structure Num (ep t m : Int) (n : Nat) : Prop where
  t1 : 1 ≤ t
  tm : t ≤ m
  m8 : m ≤ 8
  n64 : n ≤ 64
  ep0 : 0 ≤ ep
  ep1 : ep ≤ 1048576
structure On (P : Nat → List UInt8) (ep t m : Int) (n : Nat) (x : List Share) : Prop where
  ep : ∀ j, j < x.length → x[j]!.epoch = ep
  th : ∀ j, j < x.length → x[j]!.threshold = t
  ma : ∀ j, j < x.length → x[j]!.many = m
  da : ∀ j, j < x.length → x[j]!.data.length = n
  ix : ∀ j, j < x.length → 1 ≤ x[j]!.index ∧ x[j]!.index ≤ m
  inc : ∀ i j, i < j → j < x.length → x[i]!.index < x[j]!.index
  val : ∀ j, j < x.length → ∀ p, p < n → x[j]!.data[p]! = pev (P p) (u8of x[j]!.index)
theorem On.good {P : Nat → List UInt8} {ep t m : Int} {n : Nat} {x : List Share} (h : On P ep t m n x) (hn : Num ep t m n) (hx : 0 < x.length) : Good x :=
  ⟨hx, by rw [h.th 0 hx]; exact hn.t1, by rw [h.th 0 hx, h.ma 0 hx]; exact hn.tm, by rw [h.ma 0 hx]; exact hn.m8, by rw [h.da 0 hx]; exact hn.n64,
   fun k hk => by rw [h.th k hk, h.th 0 hx], fun k hk => by rw [h.ma k hk, h.ma 0 hx], fun k hk => by rw [h.da k hk, h.da 0 hx], fun k hk => by rw [h.ma 0 hx]; exact h.ix k hk, fun k hk => h.inc k (k + 1) (by omega) hk⟩
theorem On.vd {P : Nat → List UInt8} {ep t m : Int} {n : Nat} {x : List Share} (h : On P ep t m n x) (hn : Num ep t m n) (hx : 0 < x.length) : Vd x :=
  ⟨h.good hn hx, fun k hk => by rw [h.ep k hk, h.ep 0 hx], by rw [h.ep 0 hx]; exact hn.ep0, by rw [h.ep 0 hx]; exact hn.ep1⟩
theorem On.some {P : Nat → List UInt8} {ep t m : Int} {n : Nat} {l : List Share} (h : On P ep t m n l) (mask : UInt8) : On P ep t m n (someM l mask l.length) := by
  have hs : ∀ j, j < (someM l mask l.length).length → (selL mask l.length)[j]! < l.length := fun j hj => selL_lt (by rw [someM_len] at hj; exact hj)
  refine ⟨fun j hj => ?_, fun j hj => ?_, fun j hj => ?_, fun j hj => ?_, fun j hj => ?_, fun i j hij hj => ?_, fun j hj => ?_⟩
  · rw [someM_get hj]; exact h.ep _ (hs j hj)
  · rw [someM_get hj]; exact h.th _ (hs j hj)
  · rw [someM_get hj]; exact h.ma _ (hs j hj)
  · rw [someM_get hj]; exact h.da _ (hs j hj)
  · rw [someM_get hj]; exact h.ix _ (hs j hj)
  · rw [someM_get hj, someM_get (by omega)]; exact h.inc _ _ (selL_inc hij (by rw [someM_len] at hj; exact hj)) (hs j hj)
  · rw [someM_get hj]; exact h.val _ (hs j hj)
theorem takeLen {α : Type} {l : List α} {n : Nat} (h : n ≤ l.length) : (l.take n).length = n := by rw [List.length_take]; omega
/-- Enough shares lead back to the values at 0. -/
theorem On.join {P : Nat → List UInt8} {ep t m : Int} {n : Nat} {x : List Share} (h : On P ep t m n x) (hn : Num ep t m n) (hx : t ≤ (x.length : Int)) (hd : ∀ p, p < n → ∀ i : Nat, t.toNat ≤ i → (P p)[i]! = 0) :
    joinM x = ((List.range n).map fun p => pev (P p) 0, 0) := by
  have ht1 := hn.t1
  have hpos : 0 < x.length := by omega
  have hv := h.vd hn hpos
  refine joinM_ok ((check_iff x).2 hv) (by rw [h.th 0 hpos]; exact hx) ?_
  rw [h.th 0 hpos]
  have hl : (x.take t.toNat).length = t.toNat := takeLen (by omega)
  unfold joinL
  rw [take0 (by omega), h.da 0 hpos]
  apply List.map_congr_left
  intro p hp
  have hp : p < n := by simpa using hp
  have hm8 := hn.m8; have htm := hn.tm
  have hxg : ∀ i, i < t.toNat → (idxM (x.take t.toNat))[i]! = u8of x[i]!.index := fun i hi => by
    unfold idxM; rw [map_getB _ _ _ (by rw [hl]; exact hi), takeS hi]
  have hyg : ∀ i, i < t.toNat → (colM (x.take t.toNat) p)[i]! = x[i]!.data[p]! := fun i hi => by
    unfold colM; rw [map_getB _ _ _ (by rw [hl]; exact hi), takeS hi]
  have hnd : (idxM (x.take t.toNat)).Nodup := by
    rw [nodup_get]
    intro i j hij hj he
    rw [idxM_len, hl] at hj
    rw [hxg i (by omega), hxg j hj] at he
    have h1 := h.ix i (by omega); have h2 := h.ix j (by omega)
    have := u8of_inj (by omega) (by omega) (by omega) (by omega) he
    have := h.inc i j hij (by omega)
    omega
  have hw : wrongM (idxM (x.take t.toNat)) (colM (x.take t.toNat) p) = false := (wrong_iff _ _).2 ⟨by rw [idxM_len, colM_len], hnd⟩
  rw [through_ok _ hw]
  refine pev_congr _ _ ((coeff_ok hw).2.1.unique hnd (fun i hi => hd p hp i (by rw [idxM_len, hl] at hi; exact hi)) fun i hi => ?_) 0
  rw [idxM_len, hl] at hi
  rw [hxg i hi, hyg i hi, h.val i (by omega) p hp]
theorem On.few {P : Nat → List UInt8} {ep t m : Int} {n : Nat} {x : List Share} (h : On P ep t m n x) (hn : Num ep t m n) (hpos : 0 < x.length) (hx : (x.length : Int) < t) : joinM x = ([], 80) :=
  joinM_few ((check_iff x).2 (h.vd hn hpos)) (by rw [h.th 0 hpos]; exact hx) rfl
/-! ### the shares of a splitting -/
theorem split_num {secret : List UInt8} {ep t m : Int} {coins : List UInt8} (h : splitBad secret ep t m coins = 0) : Num ep t m secret.length := by
  have := (splitBad_iff _ _ _ _ _).1 h
  exact ⟨by omega, by omega, by omega, by omega, by omega, by omega⟩
def pol (secret coins : List UInt8) (t : Int) (p : Nat) : List UInt8 := polyM secret coins t p
theorem split_on {secret : List UInt8} {ep t m : Int} {coins : List UInt8} (h : splitBad secret ep t m coins = 0) : On (pol secret coins t) ep t m secret.length (splitL secret ep t m coins) := by
  have hn := split_num h
  have hg : ∀ j, j < (splitL secret ep t m coins).length → (splitL secret ep t m coins)[j]! = splitShare secret (polysM secret coins t) ep t m j := fun j hj => splitL_get (by rw [splitL_len] at hj; exact hj)
  refine ⟨fun j hj => ?_, fun j hj => ?_, fun j hj => ?_, fun j hj => ?_, fun j hj => ?_, fun i j hij hj => ?_, fun j hj p hp => ?_⟩
  · rw [hg j hj]; rfl
  · rw [hg j hj]; rfl
  · rw [hg j hj]; rfl
  · rw [hg j hj, splitShare_len]
  · rw [hg j hj]; rw [splitL_len] at hj; simp only [splitShare]; omega
  · rw [hg j hj, hg i (by omega)]; simp only [splitShare]; omega
  · rw [hg j hj]; simp only [splitShare]; rw [map_getB _ _ _ hp, polys_get hp]; rfl
theorem pol_len {secret : List UInt8} {t : Int} {coins : List UInt8} (ht : 1 ≤ t) (hc : (coins.length : Int) = (secret.length : Int) * (t - 1)) {p : Nat} (hp : p < secret.length) : (pol secret coins t p).length = t.toNat := by
  have hb := polyB (m := coins.length) hp ht hc
  unfold pol polyM
  rw [List.length_cons, List.length_drop, List.length_take, Nat.min_eq_left hb, Nat.add_mul]
  omega
theorem pol_high {secret : List UInt8} {ep t m : Int} {coins : List UInt8} (h : splitBad secret ep t m coins = 0) : ∀ p, p < secret.length → ∀ i : Nat, t.toNat ≤ i → (pol secret coins t p)[i]! = 0 := fun p hp i hi => by
  have := (splitBad_iff _ _ _ _ _).1 h
  exact get_out (by rw [pol_len (by omega) this.2.2.2.2.2.2 hp]; exact hi)
theorem pol_at0 (secret coins : List UInt8) (t : Int) (p : Nat) : pev (pol secret coins t p) 0 = secret[p]! := by
  unfold pol polyM; rw [pev_cons, gmul_zero, UInt8.zero_xor]
theorem range_get (l : List UInt8) : ((List.range l.length).map fun p => l[p]!) = l := by
  apply ext_get (by simp)
  intro i
  by_cases hi : i < l.length
  · rw [map_getB _ _ _ hi]
  · rw [get_out (by simp; omega), get_out (by omega)]
theorem split_join {secret : List UInt8} {ep t m : Int} {coins : List UInt8} (h : splitBad secret ep t m coins = 0) (mask : UInt8) (hx : t ≤ ((someM (splitL secret ep t m coins) mask (splitL secret ep t m coins).length).length : Int)) :
    joinM (someM (splitL secret ep t m coins) mask (splitL secret ep t m coins).length) = (secret, 0) := by
  rw [((split_on h).some mask).join (split_num h) hx (pol_high h)]
  congr 1
  simp only [pol_at0]
  exact range_get secret
/-! ### explaining -/
theorem expL_length {l : List Share} {secret : List UInt8} {m : Nat} (hg : Good l) (h : 1 + l.length + m ≤ 100) : ∀ p, (expL l secret m p).length = p * (l.length + m)
  | 0 => by simp [expL]
  | p + 1 => by rw [expL, List.length_append, expL_length hg h p, List.length_drop, exp_len hg h, Nat.add_mul]; omega
theorem expL_take {l : List Share} {secret : List UInt8} {m : Nat} (hg : Good l) (h : 1 + l.length + m ≤ 100) {p : Nat} : ∀ n, p ≤ n → (expL l secret m n).take (p * (l.length + m)) = expL l secret m p
  | 0, hp => by obtain rfl : p = 0 := by omega
                simp [expL]
  | n + 1, hp => by
    by_cases hpn : p = n + 1
    · subst hpn; rw [← expL_length (secret := secret) hg h (n + 1)]; exact List.take_length
    · rw [expL, List.take_append_of_le_length (by rw [expL_length hg h]; exact Nat.mul_le_mul_right _ (by omega))]
      exact expL_take hg h n (by omega)
/-- The polynomials that the explaining coins make are those through the shares and the other secret. -/
theorem exp_pol {l : List Share} {secret : List UInt8} {m : Nat} {t : Int} (hg : Good l) (h : 1 + l.length + m ≤ 100) (ht : t.toNat = 1 + l.length + m) {p : Nat} (hp : p < secret.length) :
    pol secret (expL l secret m secret.length) t p = (coeff (expX l m) (expY l secret[p]! p m)).1 := by
  have hk : (t - 1).toNat = l.length + m := by omega
  have hlen := exp_len hg h secret[p]! p
  have hthr := (coeff_ok (exp_right hg h secret[p]! p)).2.1
  unfold pol polyM
  rw [hk, expL_take hg h _ (by omega), expL, List.drop_append_of_le_length (by rw [expL_length hg h]; exact Nat.le_refl _), List.drop_of_length_le (by rw [expL_length hg h]; exact Nat.le_refl _), List.nil_append]
  have h0 := hthr.at_ 0 (by rw [expX_len]; omega)
  rw [show (expX l m)[0]! = 0 from rfl, show (expY l secret[p]! p m)[0]! = secret[p]! from rfl] at h0
  generalize coeff (expX l m) (expY l secret[p]! p m) = c at *
  obtain ⟨c, e⟩ := c
  cases c with
  | nil => simp at hlen; omega
  | cons a c =>
    simp only [pev_cons, gmul_zero, UInt8.zero_xor] at h0
    simp [h0]
theorem exp_at {l : List Share} {b : UInt8} {m : Nat} (hg : Good l) (h : 1 + l.length + m ≤ 100) (p : Nat) {j : Nat} (hj : j < l.length) : pev (coeff (expX l m) (expY l b p m)).1 (u8of l[j]!.index) = l[j]!.data[p]! := by
  have hthr := (coeff_ok (exp_right hg h b p)).2.1
  have := hthr.at_ (j + 1) (by rw [expX_len]; omega)
  rw [expX_get (by omega), expY_get, if_neg (by omega), if_pos (by omega)] at this
  unfold expI at this
  rw [if_neg (by omega), if_pos (by omega)] at this
  simp only [Nat.add_sub_cancel] at this
  rw [this]
  unfold colM; rw [map_getB _ _ _ hj]
theorem share_ext {a b : Share} (h1 : a.epoch = b.epoch) (h2 : a.index = b.index) (h3 : a.threshold = b.threshold) (h4 : a.many = b.many) (h5 : a.data = b.data) : a = b := by
  cases a; cases b; simp_all
/-- Shares of a full list: the share at place k has the index k + 1. -/
def Full (m : Int) (l : List Share) : Prop := l.length = m.toNat ∧ ∀ k, k < l.length → l[k]!.index = (k : Int) + 1
theorem split_full (secret : List UInt8) (ep t m : Int) (coins : List UInt8) : Full m (splitL secret ep t m coins) :=
  ⟨splitL_len _ _ _ _ _, fun k hk => by rw [splitL_get (by rw [splitL_len] at hk; exact hk)]; rfl⟩
/-- Too few shares explain every secret. -/
theorem explain_all {P : Nat → List UInt8} {ep t m : Int} {n : Nat} {l : List Share} (h : On P ep t m n l) (hf : Full m l) (hn : Num ep t m n) (mask : UInt8) {other : List UInt8} (ho : other.length = n)
    (hpos : 0 < (someM l mask l.length).length) (hx : ((someM l mask l.length).length : Int) < t) :
    (explainM (someM l mask l.length) other).2 = 0 ∧ splitBad other ep t m (explainM (someM l mask l.length) other).1 = 0 ∧
      someM (splitL other ep t m (explainM (someM l mask l.length) other).1) mask (splitL other ep t m (explainM (someM l mask l.length) other).1).length = someM l mask l.length := by
  have hon := h.some mask
  have hv := hon.vd hn hpos
  have ht1 := hn.t1; have htm := hn.tm; have hm8 := hn.m8
  rw [explainM_ok (x := expL (someM l mask l.length) other (t.toNat - 1 - (someM l mask l.length).length) other.length) ((check_iff _).2 hv) (by rw [hon.th 0 hpos]; exact hx) (by rw [hon.da 0 hpos, ho]) (by rw [hon.th 0 hpos])]
  generalize hxe : someM l mask l.length = x at *
  have hmm : 1 + x.length + (t.toNat - 1 - x.length) ≤ 100 := by omega
  have htt : t.toNat = 1 + x.length + (t.toNat - 1 - x.length) := by omega
  generalize t.toNat - 1 - x.length = q at *
  have hcl := expL_length (secret := other) hv.toGood hmm other.length
  have hb : splitBad other ep t m (expL x other q other.length) = 0 := by
    refine (splitBad_iff _ _ _ _ _).2 ⟨by rw [ho]; exact hn.n64, ht1, htm, hm8, hn.ep0, hn.ep1, ?_⟩
    rw [hcl, show t - 1 = ((x.length + q : Nat) : Int) by omega, Int.natCast_mul]
  refine ⟨rfl, hb, ?_⟩
  have hl1 : (splitL other ep t m (expL x other q other.length)).length = l.length := by rw [splitL_len, hf.1]
  rw [hl1]
  have hlx : (someM (splitL other ep t m (expL x other q other.length)) mask l.length).length = x.length := by rw [← hxe, someM_len, someM_len]
  refine ext_getS hlx fun j hj => ?_
  rw [hlx] at hj
  have hj2 : j < (someM l mask l.length).length := by rw [hxe]; exact hj
  have hsl : (selL mask l.length)[j]! < l.length := selL_lt (by rw [someM_len] at hj2; exact hj2)
  have hxj : x[j]! = l[(selL mask l.length)[j]!]! := by rw [← hxe, someM_get hj2]
  rw [someM_get (by rw [hlx]; exact hj), splitL_get (by rw [← hf.1]; exact hsl)]
  refine share_ext (hon.ep j hj).symm ?_ (hon.th j hj).symm (hon.ma j hj).symm ?_
  · rw [hxj, hf.2 _ hsl]; rfl
  · refine ext_get (by rw [splitShare_len, hon.da j hj, ho]) fun p => ?_
    by_cases hp : p < other.length
    · simp only [splitShare]
      rw [map_getB _ _ _ hp, polys_get hp]
      have hi : (((selL mask l.length)[j]! : Nat) : Int) + 1 = x[j]!.index := by rw [hxj, hf.2 _ hsl]
      rw [hi]
      have := exp_pol (t := t) hv.toGood hmm htt hp
      unfold pol at this
      rw [this, exp_at hv.toGood hmm p hj]
    · rw [get_out (by rw [splitShare_len]; omega), get_out (by rw [hon.da j hj]; omega)]
end Go.Proofs.Yteajcgfcnbdmgaa
