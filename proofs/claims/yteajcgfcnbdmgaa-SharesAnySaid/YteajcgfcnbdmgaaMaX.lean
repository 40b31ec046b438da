/- Shares that are refreshed, and shares of two epochs. No program in sight. -/
import Derived.Test.YteajcgfcnbdmgaaMaW
set_option linter.unusedSimpArgs false
set_option linter.unusedVariables false
namespace Go.Proofs.Yteajcgfcnbdmgaa
open Go.Fw

theorem Spl.epoch {secret : List UInt8} {ep t m : Int} {l : List Share} (h : Spl secret ep t m l) (mask : UInt8) {j : Nat} (hj : j < (someM l mask l.length).length) :
    (someM l mask l.length)[j]!.epoch = ep ∧ (someM l mask l.length)[j]!.threshold = t ∧ (someM l mask l.length)[j]!.many = m := by
  obtain ⟨P, h1, _⟩ := h.ex
  have := h1.some mask
  exact ⟨this.ep j hj, this.th j hj, this.ma j hj⟩
theorem refresh_bad {secret : List UInt8} {ep t m : Int} {l : List Share} (h : Spl secret ep t m l) (hep : ep < 1048576) (coins : List UInt8) :
    refreshBad l coins = splitBad (List.replicate secret.length 0) ep t m coins := by
  obtain ⟨P, h1, _⟩ := h.ex
  have hl := h.len
  have := h.num.t1; have := h.num.tm
  have hpos : 0 < l.length := by omega
  have hv := h1.vd h.num hpos
  unfold refreshBad
  rw [if_neg (by rw [(check_iff l).2 hv]; simp), if_neg (by rw [h1.ma 0 hpos, hl]; simp), if_neg (by rw [h1.ep 0 hpos]; omega)]
  unfold zeroS
  rw [splitM_snd, h1.da 0 hpos, h1.ep 0 hpos, h1.th 0 hpos, h1.ma 0 hpos]
theorem refresh_snd (l : List Share) (coins : List UInt8) : (refreshM l coins).2 = refreshBad l coins := by
  unfold refreshM; split
  · rename_i h; rw [h]
  · rfl
theorem refresh_iff {secret : List UInt8} {ep t m : Int} {l : List Share} (h : Spl secret ep t m l) (hep : ep < 1048576) (coins : List UInt8) :
    (refreshM l coins).2 = 0 ↔ (coins.length : Int) = (secret.length : Int) * (t - 1) := by
  rw [refresh_snd, refresh_bad h hep, splitBad_iff, List.length_replicate]
  have := h.num
  exact ⟨fun x => x.2.2.2.2.2.2, fun x => ⟨this.n64, this.t1, this.tm, this.m8, this.ep0, this.ep1, x⟩⟩
theorem replicate_get0 (n p : Nat) : (List.replicate n (0 : UInt8))[p]! = 0 := by
  by_cases h : p < n
  · rw [getElem!_pos _ p (by simpa using h)]; simp
  · rw [get_out (by simp; omega)]
theorem spl_refresh {secret : List UInt8} {ep t m : Int} {l : List Share} (h : Spl secret ep t m l) (hep : ep < 1048576) {coins : List UInt8} (h0 : (refreshM l coins).2 = 0) : Spl secret (ep + 1) t m (refreshM l coins).1 := by
  have hb := h0
  rw [refresh_snd] at hb
  rw [show (refreshM l coins).1 = refreshL l coins by unfold refreshM; rw [if_pos hb]]
  rw [refresh_bad h hep] at hb
  have hl := h.len
  have hn := h.num
  have := hn.t1; have := hn.tm
  have hpos : 0 < l.length := by omega
  obtain ⟨P, h1, h2, h3⟩ := h.ex
  have hz : (zeroS l[0]! coins).1 = splitL (List.replicate secret.length 0) ep t m coins := by
    unfold zeroS
    rw [h1.da 0 hpos, h1.ep 0 hpos, h1.th 0 hpos, h1.ma 0 hpos]
    exact (splitM_right (by rw [splitM_snd]; exact hb)).2
  have hzo := split_on hb
  have hzf := split_full (List.replicate secret.length 0) ep t m coins
  have hgl : (refreshL l coins).length = l.length := by simp [refreshL]
  have hg : ∀ j, j < l.length → (refreshL l coins)[j]! = refrShare l l[0]! (splitL (List.replicate secret.length 0) ep t m coins) j := fun j hj => by
    unfold refreshL; rw [map_getB _ _ _ hj, hz]
  have hzl : (splitL (List.replicate secret.length 0) ep t m coins).length = l.length := by rw [hzf.1, h.full.1]
  refine ⟨⟨hn.t1, hn.tm, hn.m8, hn.n64, by have := hn.ep0; omega, by omega⟩, ⟨by rw [hgl, h.full.1], fun k hk => by rw [hgl] at hk; rw [hg k hk]; exact h.full.2 k hk⟩, fun p => padd (P p) (pol (List.replicate secret.length 0) coins t p), ?_, fun p hp i hi => ?_, fun p hp => ?_⟩
  · refine ⟨fun j hj => ?_, fun j hj => ?_, fun j hj => ?_, fun j hj => ?_, fun j hj => ?_, fun i j hij hj => ?_, fun j hj p hp => ?_⟩ <;> rw [hgl] at hj
    · rw [hg j hj]; simp only [refrShare]; rw [h1.ep j hj]
    · rw [hg j hj]; exact h1.th j hj
    · rw [hg j hj]; exact h1.ma j hj
    · rw [hg j hj]; simp only [refrShare, refrData, List.length_map, List.length_range]; exact h1.da 0 hpos
    · rw [hg j hj]; exact h1.ix j hj
    · rw [hg j hj, hg i (by omega)]; exact h1.inc i j hij hj
    · rw [hg j hj]; simp only [refrShare, refrData]
      rw [map_getB _ _ _ (by rw [h1.da 0 hpos]; exact hp), padd_pev, h1.val j hj p hp, hzo.val j (by omega) p (by simpa using hp), h.full.2 j hj, hzf.2 j (by omega)]
  · rw [padd_get, h2 p hp i hi, pol_high hb p (by simpa using hp) i hi]; rfl
  · rw [padd_pev, h3 p hp, pol_at0, replicate_get0]; simp
/-- The shares behind k refreshings, and their epoch. -/
def refrS (more : List (List UInt8)) (first : List Share) : Nat → List Share × Int
  | 0 => (first, 3)
  | k + 1 => if (refreshM (refrS more first k).1 more[k]!).2 = 0 then ((refreshM (refrS more first k).1 more[k]!).1, (refrS more first k).2 + 1) else refrS more first k
theorem refrS_yes {more : List (List UInt8)} {first : List Share} {k : Nat} (h : (refreshM (refrS more first k).1 more[k]!).2 = 0) : refrS more first (k + 1) = ((refreshM (refrS more first k).1 more[k]!).1, (refrS more first k).2 + 1) := by rw [refrS, if_pos h]
theorem refrS_no {more : List (List UInt8)} {first : List Share} {k : Nat} (h : (refreshM (refrS more first k).1 more[k]!).2 ≠ 0) : refrS more first (k + 1) = refrS more first k := by rw [refrS, if_neg h]
theorem refrS_spl {secret : List UInt8} {t m : Int} {first : List Share} (h : Spl secret 3 t m first) (more : List (List UInt8)) : ∀ k, k ≤ 1000 → Spl secret (refrS more first k).2 t m (refrS more first k).1 ∧ 3 ≤ (refrS more first k).2 ∧ (refrS more first k).2 ≤ 3 + k
  | 0, _ => ⟨h, by simp [refrS], by simp [refrS]⟩
  | k + 1, hk => by
    have ih := refrS_spl h more k (by omega)
    by_cases hz : (refreshM (refrS more first k).1 more[k]!).2 = 0
    · rw [refrS_yes hz]; exact ⟨spl_refresh ih.1 (by omega) hz, by simp only; omega, by simp only; omega⟩
    · rw [refrS_no hz]; exact ⟨ih.1, by omega, by omega⟩
theorem refrS_said {secret : List UInt8} {t m : Int} {first : List Share} {coins : List UInt8} (h : Spl secret 3 t m first) (hc : (coins.length : Int) = (secret.length : Int) * (t - 1)) (more : List (List UInt8)) {k : Nat} (hk : k ≤ 1000) :
    ((refreshM (refrS more first k).1 more[k]!).2 == 0) = (((more[k]!).length : Int) == (coins.length : Int)) := by
  have := refrS_spl h more k hk
  have := refresh_iff this.1 (by omega) more[k]!
  rw [Bool.eq_iff_iff, beq_iff_eq, beq_iff_eq, this, hc]
/-! ### shares of two epochs -/
theorem selB_not (mask : UInt8) : ∀ i, i < 8 → selB (mask ^^^ 255) i = !selB mask i := by
  have : ∀ n : Fin 256, ∀ i : Fin 8, selB (UInt8.ofNat n.1 ^^^ 255) i.1 = !selB (UInt8.ofNat n.1) i.1 := by decide +kernel
  intro i hi
  have := this ⟨mask.toNat, mask.toNat_lt⟩ ⟨i, hi⟩
  simpa using this
def pickI (l : List Share) (i : Int) (k : Nat) : List Share := (l.take k).filter fun s => s.index == i
theorem pickI_yes {l : List Share} {i : Int} {k : Nat} (hk : k < l.length) (h : l[k]!.index = i) : pickI l i (k + 1) = pickI l i k ++ [l[k]!] := by
  unfold pickI
  rw [List.take_add_one, List.filter_append]
  congr 1
  rw [getElem!_pos l k hk] at h ⊢
  simp [h, hk]
theorem pickI_no {l : List Share} {i : Int} {k : Nat} (hk : k < l.length) (h : l[k]!.index ≠ i) : pickI l i (k + 1) = pickI l i k := by
  unfold pickI
  rw [List.take_add_one, List.filter_append]
  rw [getElem!_pos l k hk] at h
  simp [h, hk]
theorem pickI_le (l : List Share) (i : Int) (k : Nat) : (pickI l i k).length ≤ k := by
  unfold pickI
  exact Nat.le_trans (List.length_filter_le _ _) (by rw [List.length_take]; omega)
def bothL (l : List Share) : Nat → List Share
  | 0 => []
  | n + 1 => bothL l n ++ pickI l ((n : Int) + 1) l.length
theorem bothL_le (l : List Share) : ∀ n, (bothL l n).length ≤ n * l.length
  | 0 => by simp [bothL]
  | n + 1 => by rw [bothL, List.length_append, Nat.add_mul]; have := bothL_le l n; have := pickI_le l ((n : Int) + 1) l.length; omega
theorem range_filter_one (p : Nat → Bool) (j : Nat) : ∀ n, (List.range n).filter (fun k => p k && k == j) = if j < n ∧ p j = true then [j] else []
  | 0 => by simp
  | n + 1 => by
    rw [List.range_succ, List.filter_append, range_filter_one p j n]
    by_cases hj : n = j
    · subst hj
      cases hp : p n <;> simp [hp]
    · have : (n == j) = false := by simpa using hj
      by_cases h : j < n ∧ p j = true
      · rw [if_pos h, if_pos ⟨by omega, h.2⟩]; simp [this]
      · rw [if_neg h, if_neg (by intro hh; exact h ⟨by omega, hh.2⟩)]; simp [this]
theorem pick_some {l : List Share} {m : Int} (hf : Full m l) (mask : UInt8) {n : Nat} (hn : n < l.length) : (someM l mask l.length).filter (fun s => s.index == (n : Int) + 1) = if selB mask n then [l[n]!] else [] := by
  unfold someM
  rw [List.filter_map]
  have : (selL mask l.length).filter ((fun s : Share => s.index == (n : Int) + 1) ∘ fun i => l[i]!) = (List.range l.length).filter fun k => selB mask k && k == n := by
    unfold selL
    rw [List.filter_filter]
    apply List.filter_congr
    intro k hk
    have hk : k < l.length := by simpa using hk
    simp only [Function.comp]
    rw [hf.2 k hk, Bool.and_comm]
    congr 1
    rw [Bool.eq_iff_iff, beq_iff_eq, beq_iff_eq]; omega
  rw [this, range_filter_one]
  cases h : selB mask n <;> simp [hn]
def mixL (first l : List Share) (mask : UInt8) (n : Nat) : List Share := (List.range n).map fun k => if selB mask k then first[k]! else l[k]!
theorem both_mix {first l : List Share} {m : Int} (hf : Full m first) (hl : Full m l) (hm : m ≤ 8) (mask : UInt8) : ∀ n, n ≤ l.length → bothL (someM first mask first.length ++ someM l (mask ^^^ 255) l.length) n = mixL first l mask n
  | 0, _ => rfl
  | n + 1, hn => by
    have h8 : l.length ≤ 8 := by rw [hl.1]; omega
    rw [bothL, both_mix hf hl hm mask n (by omega), mixL, mixL, List.range_succ, List.map_append]
    congr 1
    unfold pickI
    rw [List.take_length, List.filter_append, pick_some hf mask (by rw [hf.1, ← hl.1]; exact hn), pick_some hl (mask ^^^ 255) hn, selB_not mask n (by omega)]
    cases h : selB mask n <;> simp [h]
theorem check81 {l : List Share} (hg : Good l) (hv : ¬ Vd l) : checkM l = 81 := by
  have h0 : checkM l ≠ 0 := fun h => hv ((check_iff l).1 h)
  have ha := (alike_iff l).2 hg
  unfold checkM at h0 ⊢
  rw [ha] at h0 ⊢
  simp only [Bool.not_true, Bool.false_eq_true, if_false] at h0 ⊢
  rcases scan_cases (f := fun k => if ep1 l k then some (81 : Int) else none) (d := (0 : Int)) (r := 81) (fun k => by split <;> simp) (l.length - 0) 0 with ⟨h1, _⟩ | ⟨h1, _⟩
  · exact absurd h1 h0
  · exact h1
theorem some_ex {l : List Share} {mask : UInt8} (h : 0 < (someM l mask l.length).length) : ∃ k, k < l.length ∧ selB mask k = true := by
  rw [someM_len] at h
  refine ⟨(selL mask l.length)[0]!, selL_lt h, ?_⟩
  rw [getElem!_pos _ 0 h]
  have := List.getElem_mem h
  unfold selL at this
  exact (List.mem_filter.1 this).2
/-- Shares of two epochs do not combine. -/
theorem two_epochs {secret : List UInt8} {ep ep' t m : Int} {first l : List Share} (h : Spl secret ep t m first) (h' : Spl secret ep' t m l) (hne : ep ≠ ep') (mask : UInt8)
    (ho : 0 < (someM first mask first.length).length) (hy : 0 < (someM l (mask ^^^ 255) l.length).length) :
    joinM (bothL (someM first mask first.length ++ someM l (mask ^^^ 255) l.length) m.toNat) = ([], 81) := by
  rw [both_mix h.full h'.full h.num.m8 mask m.toNat (by rw [h'.full.1]; exact Nat.le_refl _)]
  obtain ⟨P, h1, _⟩ := h.ex
  obtain ⟨Q, k1, _⟩ := h'.ex
  have hfl : first.length = m.toNat := h.full.1
  have hll : l.length = m.toNat := h'.full.1
  have hn := h.num
  have := hn.t1; have := hn.tm; have h8 := hn.m8
  have hlen : (mixL first l mask m.toNat).length = m.toNat := by simp [mixL]
  have hg : ∀ k, k < m.toNat → (mixL first l mask m.toNat)[k]! = if selB mask k then first[k]! else l[k]! := fun k hk => map_getB _ _ _ hk
  have hth : ∀ k, k < m.toNat → (mixL first l mask m.toNat)[k]!.threshold = t := fun k hk => by rw [hg k hk]; split; exact h1.th k (by omega); exact k1.th k (by omega)
  have hma : ∀ k, k < m.toNat → (mixL first l mask m.toNat)[k]!.many = m := fun k hk => by rw [hg k hk]; split; exact h1.ma k (by omega); exact k1.ma k (by omega)
  have hda : ∀ k, k < m.toNat → (mixL first l mask m.toNat)[k]!.data.length = secret.length := fun k hk => by rw [hg k hk]; split; exact h1.da k (by omega); exact k1.da k (by omega)
  have hix : ∀ k, k < m.toNat → (mixL first l mask m.toNat)[k]!.index = (k : Int) + 1 := fun k hk => by rw [hg k hk]; split; exact h.full.2 k (by omega); exact h'.full.2 k (by omega)
  have hgood : Good (mixL first l mask m.toNat) :=
    ⟨by omega, by rw [hth 0 (by omega)]; exact hn.t1, by rw [hth 0 (by omega), hma 0 (by omega)]; exact hn.tm, by rw [hma 0 (by omega)]; exact hn.m8, by rw [hda 0 (by omega)]; exact hn.n64,
     fun k hk => by rw [hth k (by omega), hth 0 (by omega)], fun k hk => by rw [hma k (by omega), hma 0 (by omega)], fun k hk => by rw [hda k (by omega), hda 0 (by omega)],
     fun k hk => by rw [hix k (by omega), hma 0 (by omega)]; omega, fun k hk => by rw [hix k (by omega), hix (k + 1) (by omega)]; omega⟩
  obtain ⟨j1, a1, a2⟩ := some_ex ho
  obtain ⟨j2, b1, b2⟩ := some_ex hy
  rw [selB_not mask j2 (by omega)] at b2
  have e1 : (mixL first l mask m.toNat)[j1]!.epoch = ep := by rw [hg j1 (by omega), if_pos a2]; exact h1.ep j1 a1
  have e2 : (mixL first l mask m.toNat)[j2]!.epoch = ep' := by rw [hg j2 (by omega), if_neg (by simpa using b2)]; exact k1.ep j2 b1
  have hnv : ¬ Vd (mixL first l mask m.toNat) := fun hv => hne (by rw [← e1, ← e2, hv.ep j1 (by omega), hv.ep j2 (by omega)])
  have hc := check81 hgood hnv
  exact joinM_bad (by rw [hc]; decide) hc
end Go.Proofs.Yteajcgfcnbdmgaa
