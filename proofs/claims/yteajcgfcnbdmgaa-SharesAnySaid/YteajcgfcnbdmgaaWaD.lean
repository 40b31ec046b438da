/- Walks, printed by gen.py. -/
import Derived.Test.YteajcgfcnbdmgaaWaC
set_option linter.unusedSimpArgs false
set_option linter.unusedVariables false
namespace Go.Proofs.Yteajcgfcnbdmgaa
open Go.Fw Go.RowKit

set_option maxHeartbeats 4000000 in
set_option maxRecDepth 100000 in
theorem c_coeff {O : List Nat} (xs_v : Value) (xs : List UInt8) (ys_v : Value) (ys : List UInt8) (w : World) (h_xs : RdL Enc.u8 w O xs_v xs) (h_ys : RdL Enc.u8 w O ys_v ys) (hpre0 : xs.length < 1000000) (hO : ∀ b ∈ O, b < w.heap.size) : CallsK Try.prog 24 [xs_v, ys_v] w (fun v w' => ∃ (x0 : Value), v = .tuple #[x0, vI ((coeff xs ys).2)] ∧ RdL Enc.u8 w' (O) x0 ((coeff xs ys).1)) :=  by
 have lim_xs := h_xs.len_le
 have h_xs : RdL Enc.u8 w ([] ++ O) xs_v xs := h_xs
 have lim_ys := h_ys.len_le
 have h_ys : RdL Enc.u8 w ([] ++ O) ys_v ys := h_ys
 have s0 : St w O w [] := St.start hO
 have hzl := zeros_len xs
 refine callsK_of 81 Try.func24 rfl rfl (of_decide_eq_true rfl) (fun F0 => ?_)
 refine cw_seq (?_)
 refine cw_region (by kernel_rfl) (wl_s (o_assign (.slice none 0 0) rfl (wl_s (o_assign (vI (0 : Int)) rfl (wl_nil (thenQ_n (?_)))))))
 refine cw_seq (?_)
 refine cw_seq (?_)
 refine cw_region (by kernel_rfl) (wl_s (o_move (xs_v) rfl (wl_s (o_move (ys_v) rfl (wl_s (o_callK (vs := [xs_v, ys_v]) enter_45 (c_wrong (O := [] ++ O) xs_v xs ys_v ys w h_xs h_ys s0.lt) rfl s0 fun v605 w606 s607 m608 k609 r610 => (?_)))))))
 obtain rfl := r610
 have h_xs := h_xs.mv m608
 have h_ys := h_ys.mv m608
 refine wl_nil (thenQ_n (?_))
 refine cw_cond (wrongM xs ys) rfl rfl (fun hc611 => ?_) (fun hc611 => ?_)
 ·have hp612 : (wrongM xs ys) = true := by first | simpa using hc611 | (have e := hc611; simp at e; omega)
  refine cw_seq (?_)
  refine cw_region (by kernel_rfl) (wl_s (o_assign (.slice none 0 0) rfl (wl_s (o_assign (vI (1 : Int)) rfl (wl_nil (thenQ_n (?_)))))))
  refine cw_ret (thenQ_r (end_r rfl (res2 rfl rfl rfl rfl) (?_)))
  have e : (coeff xs ys) = ([], (1 : Int)) := by simp [coeff, *]
  exact ⟨_, rfl, s607.keep, by rw [e]; exact ⟨.slice none 0 0, rfl, RdL.nil _ _ _⟩⟩
 ·have hp613 : (wrongM xs ys) = false := by first | simpa using hc611 | (have e := hc611; simp at e; omega)
  have hxy := wrongM_len (by simpa using hc611)
  refine cw_skip (thenQ_n (?_))
  refine cw_seq (?_)
  refine cw_region (by kernel_rfl) (wl_s (o_move (xs_v) rfl (wl_s (o_lenR Try.underlying28 rfl h_xs (wl_s (o_assign (vI (xs.length : Int)) rfl (wl_nil (thenQ_n (?_)))))))))
  refine cw_seq (?_)
  refine cw_region (by kernel_rfl) (wl_s (o_move (xs_v) rfl (wl_s (o_callK (vs := [xs_v]) enter_46 (c_zeros (O := [] ++ O) xs_v xs w606 h_xs (by first | omega | assumption | (simp; done)) s607.lt) rfl s607 fun v614 w615 s616 m617 k618 r619 => (?_)))))
  obtain ⟨_, rfl, hl620⟩ := r619
  have := hl620.len_le
  have h_xs := h_xs.mv m617
  have h_ys := h_ys.mv m617
  refine wl_s (o_assign (v614) rfl (wl_nil (thenQ_n (?_))))
  refine cw_seq (?_)
  refine cw_region (by kernel_rfl) (wl_s (o_move (vI (xs.length : Int)) rfl (wl_s (o_make (E := Enc.u8) Try.underlying28 i_5 [vB (0 : UInt8)] rfl rfl (by decide) (0 : UInt8) (fun _ _ => rfl) .i64 .i64 (xs.length : Int) (xs.length : Int) xs.length xs.length rfl rfl rfl rfl (by omega) (by omega) (by simp only [maxLen]; omega) s616 fun v625 b627 w621 e628 hb629 s622 m623 k624 hl626 => (?_)))))
  have hB630 : ∀ b, v625.ownBlock = some b → b ∈ (b627 :: []) := fun b hb => by rw [hb629] at hb; cases hb; simp
  clear e628 hb629
  have h_xs := h_xs.mv m623
  have h_ys := h_ys.mv m623
  have hl620 := hl620.mv m623
  refine wl_s (o_assign (v625) rfl (wl_nil (thenQ_n (?_))))
  refine cw_seq (?_)
  refine cw_region (by kernel_rfl) (wl_s (o_move (vI (xs.length : Int)) rfl (wl_s (o_make (E := Enc.u8) Try.underlying28 i_5 [vB (0 : UInt8)] rfl rfl (by decide) (0 : UInt8) (fun _ _ => rfl) .i64 .i64 (xs.length : Int) (xs.length : Int) xs.length xs.length rfl rfl rfl rfl (by omega) (by omega) (by simp only [maxLen]; omega) s622 fun v635 b637 w631 e638 hb639 s632 m633 k634 hl636 => (?_)))))
  have ne640 : ∀ b, v625.ownBlock = some b → v635.ownBlock ≠ some b := fun b hb => by have := (hl626.lt b hb).2; rw [hb639]; intro e; cases e; omega
  have ne640' : ∀ b, v635.ownBlock = some b → v625.ownBlock ≠ some b := fun b hb e => ne640 b e hb
  have hB641 : ∀ b, v635.ownBlock = some b → b ∈ (b637 :: (b627 :: [])) := fun b hb => by rw [hb639] at hb; cases hb; simp
  clear e638 hb639
  have hB630 : ∀ b, v625.ownBlock = some b → b ∈ (b637 :: (b627 :: [])) := fun b hb => List.mem_cons_of_mem _ (hB630 b hb)
  have h_xs := h_xs.mv m633
  have h_ys := h_ys.mv m633
  have hl626 := hl626.mv m633 k634 (by simp)
  have hl620 := hl620.mv m633
  refine wl_s (o_assign (v635) rfl (wl_nil (thenQ_n (?_))))
  refine cw_seq (?_)
  refine cw_seq (?_)
  refine cw_region (by kernel_rfl) (wl_s (o_move (xs_v) rfl (wl_s (o_lenR Try.underlying28 rfl h_xs (wl_s (o_move (vI (0 : Int)) rfl (wl_nil (thenQ_n (?_)))))))))
  refine cw_block (?_)
  refine cw_loop (fun mI FI wI => ∃ (i : Nat) (vo0_4 : Value) (vo0_8 : Value) (B : List Nat), i ≤ xs.length ∧ mI = xs.length - i ∧ (∃ F1, FI = upds F1 [(1, ys_v), (4, vo0_4), (6, vI (xs.length : Int)), (7, v614), (8, vo0_8), (26, xs_v), (27, vI (xs.length : Int)), (28, vI ((i : Nat) : Int)), (81, undef)]) ∧ St w O wI B ∧ Own Enc.u8 5 w.heap.size (B ++ O) wI vo0_4 (coL (zeros xs) xs ys xs.length i) ∧ (∀ b, vo0_4.ownBlock = some b → b ∈ B) ∧ Own Enc.u8 5 w.heap.size (B ++ O) wI vo0_8 (coQ (zeros xs) xs xs.length i) ∧ (∀ b, vo0_8.ownBlock = some b → b ∈ B) ∧ RdL Enc.u8 wI (B ++ O) (ys_v) (ys) ∧ RdL Enc.u8 wI (B ++ O) (v614) (zeros xs) ∧ RdL Enc.u8 wI (B ++ O) (xs_v) (xs) ∧ (∀ b, vo0_4.ownBlock = some b → vo0_8.ownBlock ≠ some b) ∧ (∀ b, vo0_8.ownBlock = some b → vo0_4.ownBlock ≠ some b)) (xs.length - (0)) ?_ ?_
  ·exact ⟨(0), v625, v635, (b637 :: (b627 :: [])), (by first | omega | (simp; done) | (simp; omega) | simp_all), rfl, ⟨_, upds_self _ ⟨rfl, rfl, rfl, rfl, rfl, rfl, rfl, (by first | rfl | exact congrArg (Value.int _) (by first | omega | (simp))), rfl, trivial⟩⟩, s632, (by rw [show coL (zeros xs) xs ys xs.length (0) = List.replicate xs.length (0 : UInt8) from rfl]; exact hl626), hB630, (by rw [show coQ (zeros xs) xs xs.length (0) = List.replicate xs.length (0 : UInt8) from rfl]; exact hl636), hB641, h_ys, hl620, h_xs, ne640, (fun b hb e => ne640 b e hb)⟩
  ·intro ml0 F wl0 hI
   clear h_ys hl620 h_xs
   obtain ⟨i, vo0_4, vo0_8, Bl0, hr0_0, hm0, ⟨Fl0, rfl⟩, sl0, ho0_4, hB0_4, ho0_8, hB0_8, h_ys, hl620, h_xs, nn0_4_8, nn0_8_4⟩ := hI
   refine cw_seq (?_)
   refine cw_region (by kernel_rfl) (wl_s (o_lss .i64 ((i : Nat) : Int) (xs.length : Int) rfl rfl (wl_nil (thenQ_n (?_)))))
   refine cw_seq (?_)
   refine cw_cond (decide (((i : Nat) : Int) < (xs.length : Int))) rfl rfl (fun hc642 => ?_) (fun hc642 => ?_)
   ·have hp643 : ((i : Nat) : Int) < (xs.length : Int) := by first | simpa using hc642 | (have e := hc642; simp at e; omega)
    refine cw_skip (thenQ_n (?_))
    refine cw_seq (?_)
    refine cw_block (?_)
    refine cw_seq (?_)
    refine cw_region (by kernel_rfl) (wl_s (o_move (vI ((i : Nat) : Int)) rfl (wl_s (o_idx Try.underlying28 s_5 .i64 ((i : Nat) : Int) i rfl rfl rfl h_xs (by omega) fun a644 hp645 => (wl_s (o_loadB Try.underlying5 rfl rfl hp645 (wl_s (o_assign (vI ((i : Nat) : Int)) rfl (wl_s (o_assign (vB (xs[i]!)) rfl (wl_nil (thenQ_n (?_)))))))))))))
    refine cw_seq (?_)
    refine cw_region (by kernel_rfl) (wl_s (o_assign (vB (0 : UInt8)) rfl (wl_nil (thenQ_n (?_)))))
    refine cw_seq (?_)
    refine cw_seq (?_)
    refine cw_region (by kernel_rfl) (wl_s (o_move (vI (xs.length : Int)) rfl (wl_s (o_sub .i64 (xs.length : Int) (1 : Int) ((xs.length : Int) - (1 : Int)) rfl rfl (w64 (by omega) (by omega)) (wl_s (o_assign (vI ((xs.length : Int) - (1 : Int))) rfl (wl_nil (thenQ_n (?_)))))))))
    refine cw_block (?_)
    refine cw_loop (fun mI FI wI => ∃ (k : Nat) (vo1_8 : Value) (B : List Nat), k ≤ xs.length ∧ mI = k ∧ (∃ F1, FI = upds F1 [(1, ys_v), (4, vo0_4), (6, vI (xs.length : Int)), (7, v614), (8, vo1_8), (9, vI ((i : Nat) : Int)), (10, vB (xs[i]!)), (11, vB (sdC (zeros xs) xs[i]! xs.length (xs.length - k))), (12, vI ((k : Int) - 1)), (26, xs_v), (27, vI (xs.length : Int)), (28, vI ((i : Nat) : Int)), (81, undef)]) ∧ St w O wI B ∧ Own Enc.u8 5 w.heap.size (B ++ O) wI vo1_8 (sdQ (coQ (zeros xs) xs xs.length i) (zeros xs) xs[i]! xs.length (xs.length - k)) ∧ (∀ b, vo1_8.ownBlock = some b → b ∈ B) ∧ RdL Enc.u8 wI (B ++ O) (ys_v) (ys) ∧ Own Enc.u8 5 w.heap.size (B ++ O) wI vo0_4 (coL (zeros xs) xs ys xs.length i) ∧ (∀ b, vo0_4.ownBlock = some b → b ∈ B) ∧ RdL Enc.u8 wI (B ++ O) (v614) (zeros xs) ∧ RdL Enc.u8 wI (B ++ O) (xs_v) (xs) ∧ (∀ b, vo1_8.ownBlock = some b → vo0_4.ownBlock ≠ some b) ∧ (∀ b, vo0_4.ownBlock = some b → vo1_8.ownBlock ≠ some b)) ((xs.length)) ?_ ?_
    ·exact ⟨(xs.length), vo0_8, Bl0, (by first | omega | (simp; done) | (simp; omega) | simp_all), rfl, ⟨_, upds_self _ ⟨rfl, rfl, rfl, rfl, rfl, rfl, rfl, (congrArg vB (by rw [Nat.sub_self]; rfl)), (by first | rfl | exact congrArg (Value.int _) (by first | omega | (omega))), rfl, rfl, rfl, rfl, trivial⟩⟩, sl0, (by rw [show sdQ (coQ (zeros xs) xs xs.length i) (zeros xs) xs[i]! xs.length (xs.length - (xs.length)) = coQ (zeros xs) xs xs.length i from by rw [Nat.sub_self]; rfl]; exact ho0_8), hB0_8, h_ys, ho0_4, hB0_4, hl620, h_xs, nn0_8_4, nn0_4_8⟩
    ·intro ml1 F wl1 hI
     clear h_ys ho0_4 hB0_4 hl620 h_xs
     obtain ⟨k, vo1_8, Bl1, hr1_0, hm1, ⟨Fl1, rfl⟩, sl1, ho1_8, hB1_8, h_ys, ho0_4, hB0_4, hl620, h_xs, no1_8_vo0_4, np1_8_vo0_4⟩ := hI
     refine cw_seq (?_)
     refine cw_seq (?_)
     refine cw_region (by kernel_rfl) (wl_s (o_move (vI ((k : Int) - 1)) rfl (wl_s (o_geq .i64 ((k : Int) - 1) (0 : Int) rfl rfl (wl_nil (thenQ_n (?_)))))))
     refine cw_cond (decide ((0 : Int) ≤ (k : Int) - 1)) rfl rfl (fun hc646 => ?_) (fun hc646 => ?_)
     ·have hp647 : (0 : Int) ≤ (k : Int) - 1 := by first | simpa using hc646 | (have e := hc646; simp at e; omega)
      obtain ⟨q, rfl⟩ : ∃ q, k = q + 1 := ⟨k - 1, by omega⟩
      rw [show ((q + 1 : Nat) : Int) - 1 = ((q : Nat) : Int) from by omega]
      refine cw_skip (thenQ_n (?_))
      refine cw_seq (?_)
      refine cw_block (?_)
      refine cw_seq (?_)
      refine cw_draw' 8 _ _ [fun (vT : Value) (wT : World) => RdL Enc.u8 wT (Bl1 ++ O) vT (zeros xs), isV (vI ((q : Nat) : Int)), isV (vI ((q + 1 : Nat) : Int)), fun (vT : Value) (wT : World) => ∃ aT, vT = .pointer (some aT) ∧ PT Enc.u8 wT (Bl1 ++ O) (.pointer (some aT)) ((zeros xs)[q + 1]!), isV (vB ((zeros xs)[q + 1]!)), isV (vB (sdC (zeros xs) xs[i]! xs.length (xs.length - (q + 1)))), isV (vB (xs[i]!)), isV (vB (gmul (sdC (zeros xs) xs[i]! xs.length (xs.length - (q + 1))) (xs[i]!)))] (by kernel_rfl) (by kernel_rfl) (by kernel_rfl) (by kernel_rfl) rfl rfl ⟨fun _ _ _ h k => h.mv (Mv.of_keep k), kI, kI, fun _ _ _ ⟨a, e, h⟩ k => ⟨a, e, h.mv (Mv.of_keep k)⟩, kI, kI, kI, kI, trivial⟩ ⟨?_, ?_, ?_, ?_, ?_, ?_, ?_, ?_, trivial⟩ ?_
      ·intro F1 w1 k1 hf hd
       have k0 := (Keep.drew [] wl1).trans k1
       have m1 : Mv Bl1 wl1 Bl1 w1 := Mv.of_keep k0
       have hl620 := hl620.mv m1
       obtain ⟨F2, rfl⟩ := lit_of (F := F1) [(7, v614)] ⟨hf 7 (by kernel_rfl), trivial⟩
       exact sp_plain rfl ((o_move (v614) rfl (⟨(Keep.refl _ _), hl620⟩)))
      ·intro F1 w1 k1 hf hd
       obtain ⟨F2, rfl⟩ := lit_of (F := F1) [(12, vI ((q : Nat) : Int))] ⟨hf 12 (by kernel_rfl), trivial⟩
       exact sp_plain rfl ((o_move (vI ((q : Nat) : Int)) rfl (⟨(Keep.refl _ _), rfl⟩)))
      ·intro F1 w1 k1 hf hd
       obtain ⟨F2, rfl⟩ := lit_of (F := F1) [(40, vI ((q : Nat) : Int))] ⟨hd 1 40 (by kernel_rfl), trivial⟩
       exact sp_plain rfl ((o_add .i64 ((q : Nat) : Int) (1 : Int) (((q + 1 : Nat) : Int)) rfl rfl (w64 (by omega) (by omega)) (⟨(Keep.refl _ _), rfl⟩)))
      ·intro F1 w1 k1 hf hd
       obtain ⟨v648, e650, hl649⟩ : ∃ v, F1 39 = v ∧ RdL Enc.u8 w1 (Bl1 ++ O) v (zeros xs) := ⟨_, rfl, hd 0 39 (by kernel_rfl)⟩
       have := hl649.len_le
       obtain ⟨F2, rfl⟩ := lit_of (F := F1) [(39, v648), (41, vI ((q + 1 : Nat) : Int))] ⟨e650, hd 2 41 (by kernel_rfl), trivial⟩
       exact sp_plain rfl ((o_idx Try.underlying28 s_5 .i64 ((q + 1 : Nat) : Int) (q + 1) rfl rfl rfl hl649 (by rw [zeros_len]; omega) fun a651 hp652 => (⟨(Keep.refl _ _), ⟨a651, rfl, hp652⟩⟩)))
      ·intro F1 w1 k1 hf hd
       obtain ⟨a653, e655, hp654⟩ : ∃ a, F1 42 = .pointer (some a) ∧ PT Enc.u8 w1 (Bl1 ++ O) (.pointer (some a)) ((zeros xs)[q + 1]!) := hd 3 42 (by kernel_rfl)
       obtain ⟨F2, rfl⟩ := lit_of (F := F1) [(42, Value.pointer (some a653))] ⟨e655, trivial⟩
       exact sp_plain rfl ((o_loadB Try.underlying5 rfl rfl hp654 (⟨(Keep.refl _ _), rfl⟩)))
      ·intro F1 w1 k1 hf hd
       obtain ⟨F2, rfl⟩ := lit_of (F := F1) [(11, vB (sdC (zeros xs) xs[i]! xs.length (xs.length - (q + 1))))] ⟨hf 11 (by kernel_rfl), trivial⟩
       exact sp_plain rfl ((o_move (vB (sdC (zeros xs) xs[i]! xs.length (xs.length - (q + 1)))) rfl (⟨(Keep.refl _ _), rfl⟩)))
      ·intro F1 w1 k1 hf hd
       obtain ⟨F2, rfl⟩ := lit_of (F := F1) [(10, vB (xs[i]!))] ⟨hf 10 (by kernel_rfl), trivial⟩
       exact sp_plain rfl ((o_move (vB (xs[i]!)) rfl (⟨(Keep.refl _ _), rfl⟩)))
      ·intro F1 w1 k1 hf hd
       have k0 := (Keep.drew [] wl1).trans k1
       have s1 := sl1.call k0
       obtain ⟨F2, rfl⟩ := lit_of (F := F1) [(44, vB (sdC (zeros xs) xs[i]! xs.length (xs.length - (q + 1)))), (45, vB (xs[i]!))] ⟨hd 5 44 (by kernel_rfl), hd 6 45 (by kernel_rfl), trivial⟩
       refine sp_plain rfl ((o_callK (vs := [vB (sdC (zeros xs) xs[i]! xs.length (xs.length - (q + 1))), vB (xs[i]!)]) enter_20 (c_mul (O := Bl1 ++ O) (sdC (zeros xs) xs[i]! xs.length (xs.length - (q + 1))) (xs[i]!) w1 s1.lt) rfl s1 fun v656 w657 s658 m659 k660 r661 => (?_)))
       obtain rfl := r661
       exact ⟨k660, rfl⟩
      intro F663 w664 k662 hT665 hF666
      have s667 := sl1.call k662
      have m668 : Mv Bl1 wl1 Bl1 w664 := Mv.of_keep k662
      have h_ys := h_ys.mv m668
      have ho0_4 := ho0_4.mv m668 k662 (by simp)
      have hl620 := hl620.mv m668
      have ho1_8 := ho1_8.mv m668 k662 (by simp)
      have h_xs := h_xs.mv m668
      obtain ⟨F2, rfl⟩ := lit_of (F := F663) [(1, ys_v), (4, vo0_4), (6, vI (xs.length : Int)), (7, v614), (8, vo1_8), (9, vI ((i : Nat) : Int)), (10, vB (xs[i]!)), (11, vB (sdC (zeros xs) xs[i]! xs.length (xs.length - (q + 1)))), (12, vI ((q : Nat) : Int)), (26, xs_v), (27, vI (xs.length : Int)), (28, vI ((i : Nat) : Int)), (81, undef), (43, vB ((zeros xs)[q + 1]!)), (46, vB (gmul (sdC (zeros xs) xs[i]! xs.length (xs.length - (q + 1))) (xs[i]!)))] ⟨hF666 1 (by kernel_rfl), hF666 4 (by kernel_rfl), hF666 6 (by kernel_rfl), hF666 7 (by kernel_rfl), hF666 8 (by kernel_rfl), hF666 9 (by kernel_rfl), hF666 10 (by kernel_rfl), hF666 11 (by kernel_rfl), hF666 12 (by kernel_rfl), hF666 26 (by kernel_rfl), hF666 27 (by kernel_rfl), hF666 28 (by kernel_rfl), hF666 81 (by kernel_rfl), hT665 4 43 (by kernel_rfl) (by decide), hT665 7 46 (by kernel_rfl) (by decide), trivial⟩
      clear hT665 hF666
      refine wl_s (o_xor8 ((zeros xs)[q + 1]!) (gmul (sdC (zeros xs) xs[i]! xs.length (xs.length - (q + 1))) (xs[i]!)) rfl rfl (wl_s (o_assign (vB (((zeros xs)[q + 1]!) ^^^ (gmul (sdC (zeros xs) xs[i]! xs.length (xs.length - (q + 1))) (xs[i]!)))) rfl (wl_nil (thenQ_n (?_))))))
      refine cw_region (by kernel_rfl) (wl_s (o_move (vo1_8) rfl (wl_s (o_move (vI ((q : Nat) : Int)) rfl (wl_s (o_move (vB (((zeros xs)[q + 1]!) ^^^ (gmul (sdC (zeros xs) xs[i]! xs.length (xs.length - (q + 1))) (xs[i]!)))) rfl (wl_s (o_indexO Try.underlying28 s_5 .i64 ((q : Nat) : Int) q rfl rfl rfl ho1_8 (by first | omega | (simp only [List.length_set, List.length_append, List.length_cons, List.length_nil, List.length_replicate, coL_len, coQ_len, sdQ_len, adF_len, zeros_len]; omega)) fun b670 hb671 => (wl_n (o_storeO (((zeros xs)[q + 1]!) ^^^ (gmul (sdC (zeros xs) xs[i]! xs.length (xs.length - (q + 1))) (xs[i]!))) s_5 rfl rfl rfl ho1_8 hb671 (hB1_8 _ hb671) (by first | omega | (simp only [List.length_set, List.length_append, List.length_cons, List.length_nil, List.length_replicate, coL_len, coQ_len, sdQ_len, adF_len, zeros_len]; omega)) rfl s667 fun w672 s673 m674 k675 bx676 => (?_)))))))))))
      have h_ys := h_ys.mv m674
      have ho0_4 := ho0_4.mv m674 k675 (fun b hb => by simp only [List.mem_singleton]; rintro rfl; exact absurd hb671 (np1_8_vo0_4 _ hb))
      have hl620 := hl620.mv m674
      have h_xs := h_xs.mv m674
      refine wl_nil (blockQ_n (thenQ_n (?_)))
      refine cw_region (by kernel_rfl) (wl_s (o_move (vI ((q : Nat) : Int)) rfl (wl_s (o_sub .i64 ((q : Nat) : Int) (1 : Int) (((q : Nat) : Int) - (1 : Int)) rfl rfl (w64 (by omega) (by omega)) (wl_s (o_assign (vI (((q : Nat) : Int) - (1 : Int))) rfl (wl_nil (thenQ_n (?_)))))))))
      exact ⟨_, (by omega), (q), vo1_8, Bl1, (by first | omega | (simp; done) | (simp; omega) | simp_all), rfl, ⟨_, upds_self _ ⟨rfl, rfl, rfl, rfl, rfl, rfl, rfl, (congrArg vB (by exact (sdC_step (by omega)).symm)), (by first | rfl | exact congrArg (Value.int _) (by first | omega | (simp))), rfl, rfl, rfl, rfl, trivial⟩⟩, s673, (by rw [show sdQ (coQ (zeros xs) xs xs.length i) (zeros xs) xs[i]! xs.length (xs.length - (q)) = (sdQ (coQ (zeros xs) xs xs.length i) (zeros xs) xs[i]! xs.length (xs.length - (q + 1))).set q (((zeros xs)[q + 1]!) ^^^ (gmul (sdC (zeros xs) xs[i]! xs.length (xs.length - (q + 1))) (xs[i]!))) from sdQ_step (by omega)]; exact bx676), hB1_8, h_ys, ho0_4, hB0_4, hl620, h_xs, no1_8_vo0_4, np1_8_vo0_4⟩
     ·have hp677 : (k : Int) - 1 < (0 : Int) := by first | simpa using hc646 | (have e := hc646; simp at e; omega)
      obtain rfl : k = 0 := by omega
      refine cw_exit (thenQ_x (thenQ_x (blockQ_x (thenQ_n (?_)))))
      refine cw_seq (?_)
      refine cw_draw' 8 _ _ [fun (vT : Value) (wT : World) => RdL Enc.u8 wT (Bl1 ++ O) vT (ys), isV (vI ((i : Nat) : Int)), fun (vT : Value) (wT : World) => ∃ aT, vT = .pointer (some aT) ∧ PT Enc.u8 wT (Bl1 ++ O) (.pointer (some aT)) (ys[i]!), isV (vB (ys[i]!)), isV vo1_8, isV (vB (xs[i]!)), isV (vB (pev (sdQ (coQ (zeros xs) xs xs.length i) (zeros xs) xs[i]! xs.length (xs.length - 0)) (xs[i]!))), isV (vB (ginv (pev (sdQ (coQ (zeros xs) xs xs.length i) (zeros xs) xs[i]! xs.length (xs.length - 0)) (xs[i]!))))] (by kernel_rfl) (by kernel_rfl) (by kernel_rfl) (by kernel_rfl) rfl rfl ⟨fun _ _ _ h k => h.mv (Mv.of_keep k), kI, fun _ _ _ ⟨a, e, h⟩ k => ⟨a, e, h.mv (Mv.of_keep k)⟩, kI, kI, kI, kI, kI, trivial⟩ ⟨?_, ?_, ?_, ?_, ?_, ?_, ?_, ?_, trivial⟩ ?_
      ·intro F1 w1 k1 hf hd
       have k0 := (Keep.drew [] wl1).trans k1
       have m1 : Mv Bl1 wl1 Bl1 w1 := Mv.of_keep k0
       have h_ys := h_ys.mv m1
       obtain ⟨F2, rfl⟩ := lit_of (F := F1) [(1, ys_v)] ⟨hf 1 (by kernel_rfl), trivial⟩
       exact sp_plain rfl ((o_move (ys_v) rfl (⟨(Keep.refl _ _), h_ys⟩)))
      ·intro F1 w1 k1 hf hd
       obtain ⟨F2, rfl⟩ := lit_of (F := F1) [(9, vI ((i : Nat) : Int))] ⟨hf 9 (by kernel_rfl), trivial⟩
       exact sp_plain rfl ((o_move (vI ((i : Nat) : Int)) rfl (⟨(Keep.refl _ _), rfl⟩)))
      ·intro F1 w1 k1 hf hd
       obtain ⟨v678, e680, hl679⟩ : ∃ v, F1 52 = v ∧ RdL Enc.u8 w1 (Bl1 ++ O) v (ys) := ⟨_, rfl, hd 0 52 (by kernel_rfl)⟩
       have := hl679.len_le
       obtain ⟨F2, rfl⟩ := lit_of (F := F1) [(52, v678), (53, vI ((i : Nat) : Int))] ⟨e680, hd 1 53 (by kernel_rfl), trivial⟩
       exact sp_plain rfl ((o_idx Try.underlying28 s_5 .i64 ((i : Nat) : Int) i rfl rfl rfl hl679 (by omega) fun a681 hp682 => (⟨(Keep.refl _ _), ⟨a681, rfl, hp682⟩⟩)))
      ·intro F1 w1 k1 hf hd
       obtain ⟨a683, e685, hp684⟩ : ∃ a, F1 54 = .pointer (some a) ∧ PT Enc.u8 w1 (Bl1 ++ O) (.pointer (some a)) (ys[i]!) := hd 2 54 (by kernel_rfl)
       obtain ⟨F2, rfl⟩ := lit_of (F := F1) [(54, Value.pointer (some a683))] ⟨e685, trivial⟩
       exact sp_plain rfl ((o_loadB Try.underlying5 rfl rfl hp684 (⟨(Keep.refl _ _), rfl⟩)))
      ·intro F1 w1 k1 hf hd
       obtain ⟨F2, rfl⟩ := lit_of (F := F1) [(8, vo1_8)] ⟨hf 8 (by kernel_rfl), trivial⟩
       exact sp_plain rfl ((o_move (vo1_8) rfl (⟨(Keep.refl _ _), rfl⟩)))
      ·intro F1 w1 k1 hf hd
       obtain ⟨F2, rfl⟩ := lit_of (F := F1) [(10, vB (xs[i]!))] ⟨hf 10 (by kernel_rfl), trivial⟩
       exact sp_plain rfl ((o_move (vB (xs[i]!)) rfl (⟨(Keep.refl _ _), rfl⟩)))
      ·intro F1 w1 k1 hf hd
       have k0 := (Keep.drew [] wl1).trans k1
       have s1 := sl1.call k0
       have m1 : Mv Bl1 wl1 Bl1 w1 := Mv.of_keep k0
       have ho1_8 := ho1_8.mv m1 k0 (by simp)
       obtain ⟨F2, rfl⟩ := lit_of (F := F1) [(56, vo1_8), (57, vB (xs[i]!))] ⟨hd 4 56 (by kernel_rfl), hd 5 57 (by kernel_rfl), trivial⟩
       refine sp_plain rfl ((o_callK (vs := [vo1_8, vB (xs[i]!)]) enter_26 (c_eval (O := []) vo1_8 (sdQ (coQ (zeros xs) xs xs.length i) (zeros xs) xs[i]! xs.length (xs.length - 0)) (xs[i]!) w1 ho1_8.rd0 no_blocks) rfl s1 fun v686 w687 s688 m689 k690 r691 => (?_)))
       obtain rfl := r691
       exact ⟨k690, rfl⟩
      ·intro F1 w1 k1 hf hd
       have k0 := (Keep.drew [] wl1).trans k1
       have s1 := sl1.call k0
       obtain ⟨F2, rfl⟩ := lit_of (F := F1) [(58, vB (pev (sdQ (coQ (zeros xs) xs xs.length i) (zeros xs) xs[i]! xs.length (xs.length - 0)) (xs[i]!)))] ⟨hd 6 58 (by kernel_rfl), trivial⟩
       refine sp_plain rfl ((o_callK (vs := [vB (pev (sdQ (coQ (zeros xs) xs xs.length i) (zeros xs) xs[i]! xs.length (xs.length - 0)) (xs[i]!))]) enter_42 (c_inverse (O := Bl1 ++ O) (pev (sdQ (coQ (zeros xs) xs xs.length i) (zeros xs) xs[i]! xs.length (xs.length - 0)) (xs[i]!)) w1 s1.lt) rfl s1 fun v692 w693 s694 m695 k696 r697 => (?_)))
       obtain rfl := r697
       exact ⟨k696, rfl⟩
      intro F699 w700 k698 hT701 hF702
      have s703 := sl1.call k698
      have m704 : Mv Bl1 wl1 Bl1 w700 := Mv.of_keep k698
      have h_ys := h_ys.mv m704
      have ho0_4 := ho0_4.mv m704 k698 (by simp)
      have hl620 := hl620.mv m704
      have ho1_8 := ho1_8.mv m704 k698 (by simp)
      have h_xs := h_xs.mv m704
      obtain ⟨F2, rfl⟩ := lit_of (F := F699) [(1, ys_v), (4, vo0_4), (6, vI (xs.length : Int)), (7, v614), (8, vo1_8), (26, xs_v), (27, vI (xs.length : Int)), (28, vI ((i : Nat) : Int)), (81, undef), (55, vB (ys[i]!)), (59, vB (ginv (pev (sdQ (coQ (zeros xs) xs xs.length i) (zeros xs) xs[i]! xs.length (xs.length - 0)) (xs[i]!))))] ⟨hF702 1 (by kernel_rfl), hF702 4 (by kernel_rfl), hF702 6 (by kernel_rfl), hF702 7 (by kernel_rfl), hF702 8 (by kernel_rfl), hF702 26 (by kernel_rfl), hF702 27 (by kernel_rfl), hF702 28 (by kernel_rfl), hF702 81 (by kernel_rfl), hT701 3 55 (by kernel_rfl) (by decide), hT701 7 59 (by kernel_rfl) (by decide), trivial⟩
      clear hT701 hF702
      refine wl_s (o_callK (vs := [vB (ys[i]!), vB (ginv (pev (sdQ (coQ (zeros xs) xs xs.length i) (zeros xs) xs[i]! xs.length (xs.length - 0)) (xs[i]!)))]) enter_20 (c_mul (O := Bl1 ++ O) (ys[i]!) (ginv (pev (sdQ (coQ (zeros xs) xs xs.length i) (zeros xs) xs[i]! xs.length (xs.length - 0)) (xs[i]!))) w700 s703.lt) rfl s703 fun v706 w707 s708 m709 k710 r711 => (?_))
      obtain rfl := r711
      have h_ys := h_ys.mv m709
      have ho0_4 := ho0_4.mv m709 k710 (by simp)
      have hl620 := hl620.mv m709
      have ho1_8 := ho1_8.mv m709 k710 (by simp)
      have h_xs := h_xs.mv m709
      refine wl_s (o_assign (vB (gmul (ys[i]!) (ginv (pev (sdQ (coQ (zeros xs) xs xs.length i) (zeros xs) xs[i]! xs.length (xs.length - 0)) (xs[i]!))))) rfl (wl_nil (thenQ_n (?_))))
      refine cw_seq (?_)
      refine cw_region (by kernel_rfl) (wl_s (o_move (vo0_4) rfl (wl_s (o_lenO Try.underlying28 rfl ho0_4 (wl_s (o_move (vI (0 : Int)) rfl (wl_nil (thenQ_n (?_)))))))))
      refine cw_block (?_)
      have hcl := coL_len (zeros xs) xs ys xs.length i
      refine cw_loop (fun mI FI wI => ∃ (j : Nat) (vo2_4 : Value) (B : List Nat), j ≤ xs.length ∧ mI = xs.length - j ∧ (∃ F1, FI = upds F1 [(1, ys_v), (4, vo2_4), (6, vI (xs.length : Int)), (7, v614), (8, vo1_8), (13, vB (gmul (ys[i]!) (ginv (pev (sdQ (coQ (zeros xs) xs xs.length i) (zeros xs) xs[i]! xs.length (xs.length - 0)) (xs[i]!))))), (26, xs_v), (27, vI (xs.length : Int)), (28, vI ((i : Nat) : Int)), (62, vI ((coL (zeros xs) xs ys xs.length i).length : Int)), (63, vI ((j : Nat) : Int)), (81, undef)]) ∧ St w O wI B ∧ Own Enc.u8 5 w.heap.size (B ++ O) wI vo2_4 (adF (coL (zeros xs) xs ys xs.length i) (sdQ (coQ (zeros xs) xs xs.length i) (zeros xs) xs[i]! xs.length (xs.length - 0)) (gmul ys[i]! (ginv (pev (sdQ (coQ (zeros xs) xs xs.length i) (zeros xs) xs[i]! xs.length (xs.length - 0)) xs[i]!))) j) ∧ (∀ b, vo2_4.ownBlock = some b → b ∈ B) ∧ RdL Enc.u8 wI (B ++ O) (ys_v) (ys) ∧ RdL Enc.u8 wI (B ++ O) (v614) (zeros xs) ∧ Own Enc.u8 5 w.heap.size (B ++ O) wI vo1_8 (sdQ (coQ (zeros xs) xs xs.length i) (zeros xs) xs[i]! xs.length (xs.length - 0)) ∧ (∀ b, vo1_8.ownBlock = some b → b ∈ B) ∧ RdL Enc.u8 wI (B ++ O) (xs_v) (xs) ∧ (∀ b, vo2_4.ownBlock = some b → vo1_8.ownBlock ≠ some b) ∧ (∀ b, vo1_8.ownBlock = some b → vo2_4.ownBlock ≠ some b)) (xs.length - (0)) ?_ ?_
      ·exact ⟨(0), vo0_4, Bl1, (by first | omega | (simp; done) | (simp; omega) | simp_all), rfl, ⟨_, upds_self _ ⟨rfl, rfl, rfl, rfl, rfl, rfl, rfl, rfl, rfl, rfl, (by first | rfl | exact congrArg (Value.int _) (by first | omega | (simp))), rfl, trivial⟩⟩, s708, (by rw [show adF (coL (zeros xs) xs ys xs.length i) (sdQ (coQ (zeros xs) xs xs.length i) (zeros xs) xs[i]! xs.length (xs.length - 0)) (gmul ys[i]! (ginv (pev (sdQ (coQ (zeros xs) xs xs.length i) (zeros xs) xs[i]! xs.length (xs.length - 0)) xs[i]!))) (0) = coL (zeros xs) xs ys xs.length i from rfl]; exact ho0_4), hB0_4, h_ys, hl620, ho1_8, hB1_8, h_xs, np1_8_vo0_4, no1_8_vo0_4⟩
      ·intro ml2 F wl2 hI
       clear h_ys hl620 ho1_8 hB1_8 h_xs
       obtain ⟨j, vo2_4, Bl2, hr2_0, hm2, ⟨Fl2, rfl⟩, sl2, ho2_4, hB2_4, h_ys, hl620, ho1_8, hB1_8, h_xs, no2_4_vo1_8, np2_4_vo1_8⟩ := hI
       refine cw_seq (?_)
       refine cw_region (by kernel_rfl) (wl_s (o_lss .i64 ((j : Nat) : Int) ((coL (zeros xs) xs ys xs.length i).length : Int) rfl rfl (wl_nil (thenQ_n (?_)))))
       refine cw_seq (?_)
       refine cw_cond (decide (((j : Nat) : Int) < ((coL (zeros xs) xs ys xs.length i).length : Int))) rfl rfl (fun hc712 => ?_) (fun hc712 => ?_)
       ·have hp713 : ((j : Nat) : Int) < ((coL (zeros xs) xs ys xs.length i).length : Int) := by first | simpa using hc712 | (have e := hc712; simp at e; omega)
        refine cw_skip (thenQ_n (?_))
        refine cw_seq (?_)
        refine cw_block (?_)
        refine cw_seq (?_)
        refine cw_region (by kernel_rfl) (wl_s (o_move (vI ((j : Nat) : Int)) rfl (wl_s (o_assign (vI ((j : Nat) : Int)) rfl (wl_nil (thenQ_n (?_)))))))
        refine cw_draw' 10 _ _ [isV vo2_4, isV (vI ((j : Nat) : Int)), fun (vT : Value) (wT : World) => ∃ bT, vT = .pointer (some ⟨bT, j * 1, none⟩) ∧ vo2_4.ownBlock = some bT, isV (vB ((adF (coL (zeros xs) xs ys xs.length i) (sdQ (coQ (zeros xs) xs xs.length i) (zeros xs) xs[i]! xs.length (xs.length - 0)) (gmul ys[i]! (ginv (pev (sdQ (coQ (zeros xs) xs xs.length i) (zeros xs) xs[i]! xs.length (xs.length - 0)) xs[i]!))) j)[j]!)), isV vo1_8, isV (vI ((j : Nat) : Int)), fun (vT : Value) (wT : World) => ∃ bT, vT = .pointer (some ⟨bT, j * 1, none⟩) ∧ vo1_8.ownBlock = some bT, isV (vB ((sdQ (coQ (zeros xs) xs xs.length i) (zeros xs) xs[i]! xs.length (xs.length - 0))[j]!)), isV (vB (gmul (ys[i]!) (ginv (pev (sdQ (coQ (zeros xs) xs xs.length i) (zeros xs) xs[i]! xs.length (xs.length - 0)) (xs[i]!))))), isV (vB (gmul ((sdQ (coQ (zeros xs) xs xs.length i) (zeros xs) xs[i]! xs.length (xs.length - 0))[j]!) (gmul (ys[i]!) (ginv (pev (sdQ (coQ (zeros xs) xs xs.length i) (zeros xs) xs[i]! xs.length (xs.length - 0)) (xs[i]!))))))] (by kernel_rfl) (by kernel_rfl) (by kernel_rfl) (by kernel_rfl) rfl rfl ⟨kI, kI, fun _ _ _ h _ => h, kI, kI, kI, fun _ _ _ h _ => h, kI, kI, kI, trivial⟩ ⟨?_, ?_, ?_, ?_, ?_, ?_, ?_, ?_, ?_, ?_, trivial⟩ ?_
        ·intro F1 w1 k1 hf hd
         obtain ⟨F2, rfl⟩ := lit_of (F := F1) [(4, vo2_4)] ⟨hf 4 (by kernel_rfl), trivial⟩
         exact sp_plain rfl ((o_move (vo2_4) rfl (⟨(Keep.refl _ _), rfl⟩)))
        ·intro F1 w1 k1 hf hd
         obtain ⟨F2, rfl⟩ := lit_of (F := F1) [(14, vI ((j : Nat) : Int))] ⟨hf 14 (by kernel_rfl), trivial⟩
         exact sp_plain rfl ((o_move (vI ((j : Nat) : Int)) rfl (⟨(Keep.refl _ _), rfl⟩)))
        ·intro F1 w1 k1 hf hd
         have k0 := (Keep.drew [] wl2).trans k1
         have m1 : Mv Bl2 wl2 Bl2 w1 := Mv.of_keep k0
         have ho2_4 := ho2_4.mv m1 k0 (by simp)
         obtain ⟨F2, rfl⟩ := lit_of (F := F1) [(66, vo2_4), (67, vI ((j : Nat) : Int))] ⟨hd 0 66 (by kernel_rfl), hd 1 67 (by kernel_rfl), trivial⟩
         exact sp_plain rfl ((o_indexO Try.underlying28 s_5 .i64 ((j : Nat) : Int) j rfl rfl rfl ho2_4 (by first | omega | (simp only [List.length_set, List.length_append, List.length_cons, List.length_nil, List.length_replicate, coL_len, coQ_len, sdQ_len, adF_len, zeros_len]; omega)) fun b714 hb715 => (⟨(Keep.refl _ _), ⟨_, rfl, hb715⟩⟩)))
        ·intro F1 w1 k1 hf hd
         have k0 := (Keep.drew [] wl2).trans k1
         have m1 : Mv Bl2 wl2 Bl2 w1 := Mv.of_keep k0
         have ho2_4 := ho2_4.mv m1 k0 (by simp)
         obtain ⟨b716, e718, hb717⟩ : ∃ b, F1 68 = .pointer (some ⟨b, j * 1, none⟩) ∧ vo2_4.ownBlock = some b := hd 2 68 (by kernel_rfl)
         obtain ⟨F2, rfl⟩ := lit_of (F := F1) [(68, Value.pointer (some ⟨b716, j * 1, none⟩))] ⟨e718, trivial⟩
         exact sp_plain rfl ((o_loadO8 Try.underlying5 rfl rfl ho2_4 hb717 (by first | omega | (simp only [List.length_set, List.length_append, List.length_cons, List.length_nil, List.length_replicate, coL_len, coQ_len, sdQ_len, adF_len, zeros_len]; omega)) (⟨(Keep.refl _ _), rfl⟩)))
        ·intro F1 w1 k1 hf hd
         obtain ⟨F2, rfl⟩ := lit_of (F := F1) [(8, vo1_8)] ⟨hf 8 (by kernel_rfl), trivial⟩
         exact sp_plain rfl ((o_move (vo1_8) rfl (⟨(Keep.refl _ _), rfl⟩)))
        ·intro F1 w1 k1 hf hd
         obtain ⟨F2, rfl⟩ := lit_of (F := F1) [(14, vI ((j : Nat) : Int))] ⟨hf 14 (by kernel_rfl), trivial⟩
         exact sp_plain rfl ((o_move (vI ((j : Nat) : Int)) rfl (⟨(Keep.refl _ _), rfl⟩)))
        ·intro F1 w1 k1 hf hd
         have k0 := (Keep.drew [] wl2).trans k1
         have m1 : Mv Bl2 wl2 Bl2 w1 := Mv.of_keep k0
         have ho1_8 := ho1_8.mv m1 k0 (by simp)
         obtain ⟨F2, rfl⟩ := lit_of (F := F1) [(70, vo1_8), (71, vI ((j : Nat) : Int))] ⟨hd 4 70 (by kernel_rfl), hd 5 71 (by kernel_rfl), trivial⟩
         exact sp_plain rfl ((o_indexO Try.underlying28 s_5 .i64 ((j : Nat) : Int) j rfl rfl rfl ho1_8 (by first | omega | (simp only [List.length_set, List.length_append, List.length_cons, List.length_nil, List.length_replicate, coL_len, coQ_len, sdQ_len, adF_len, zeros_len]; omega)) fun b719 hb720 => (⟨(Keep.refl _ _), ⟨_, rfl, hb720⟩⟩)))
        ·intro F1 w1 k1 hf hd
         have k0 := (Keep.drew [] wl2).trans k1
         have m1 : Mv Bl2 wl2 Bl2 w1 := Mv.of_keep k0
         have ho1_8 := ho1_8.mv m1 k0 (by simp)
         obtain ⟨b721, e723, hb722⟩ : ∃ b, F1 72 = .pointer (some ⟨b, j * 1, none⟩) ∧ vo1_8.ownBlock = some b := hd 6 72 (by kernel_rfl)
         obtain ⟨F2, rfl⟩ := lit_of (F := F1) [(72, Value.pointer (some ⟨b721, j * 1, none⟩))] ⟨e723, trivial⟩
         exact sp_plain rfl ((o_loadO8 Try.underlying5 rfl rfl ho1_8 hb722 (by first | omega | (simp only [List.length_set, List.length_append, List.length_cons, List.length_nil, List.length_replicate, coL_len, coQ_len, sdQ_len, adF_len, zeros_len]; omega)) (⟨(Keep.refl _ _), rfl⟩)))
        ·intro F1 w1 k1 hf hd
         obtain ⟨F2, rfl⟩ := lit_of (F := F1) [(13, vB (gmul (ys[i]!) (ginv (pev (sdQ (coQ (zeros xs) xs xs.length i) (zeros xs) xs[i]! xs.length (xs.length - 0)) (xs[i]!)))))] ⟨hf 13 (by kernel_rfl), trivial⟩
         exact sp_plain rfl ((o_move (vB (gmul (ys[i]!) (ginv (pev (sdQ (coQ (zeros xs) xs xs.length i) (zeros xs) xs[i]! xs.length (xs.length - 0)) (xs[i]!))))) rfl (⟨(Keep.refl _ _), rfl⟩)))
        ·intro F1 w1 k1 hf hd
         have k0 := (Keep.drew [] wl2).trans k1
         have s1 := sl2.call k0
         obtain ⟨F2, rfl⟩ := lit_of (F := F1) [(73, vB ((sdQ (coQ (zeros xs) xs xs.length i) (zeros xs) xs[i]! xs.length (xs.length - 0))[j]!)), (74, vB (gmul (ys[i]!) (ginv (pev (sdQ (coQ (zeros xs) xs xs.length i) (zeros xs) xs[i]! xs.length (xs.length - 0)) (xs[i]!)))))] ⟨hd 7 73 (by kernel_rfl), hd 8 74 (by kernel_rfl), trivial⟩
         refine sp_plain rfl ((o_callK (vs := [vB ((sdQ (coQ (zeros xs) xs xs.length i) (zeros xs) xs[i]! xs.length (xs.length - 0))[j]!), vB (gmul (ys[i]!) (ginv (pev (sdQ (coQ (zeros xs) xs xs.length i) (zeros xs) xs[i]! xs.length (xs.length - 0)) (xs[i]!))))]) enter_20 (c_mul (O := Bl2 ++ O) ((sdQ (coQ (zeros xs) xs xs.length i) (zeros xs) xs[i]! xs.length (xs.length - 0))[j]!) (gmul (ys[i]!) (ginv (pev (sdQ (coQ (zeros xs) xs xs.length i) (zeros xs) xs[i]! xs.length (xs.length - 0)) (xs[i]!)))) w1 s1.lt) rfl s1 fun v724 w725 s726 m727 k728 r729 => (?_)))
         obtain rfl := r729
         exact ⟨k728, rfl⟩
        intro F731 w732 k730 hT733 hF734
        have s735 := sl2.call k730
        have m736 : Mv Bl2 wl2 Bl2 w732 := Mv.of_keep k730
        have h_ys := h_ys.mv m736
        have ho2_4 := ho2_4.mv m736 k730 (by simp)
        have hl620 := hl620.mv m736
        have ho1_8 := ho1_8.mv m736 k730 (by simp)
        have h_xs := h_xs.mv m736
        obtain ⟨F2, rfl⟩ := lit_of (F := F731) [(1, ys_v), (4, vo2_4), (6, vI (xs.length : Int)), (7, v614), (8, vo1_8), (13, vB (gmul (ys[i]!) (ginv (pev (sdQ (coQ (zeros xs) xs xs.length i) (zeros xs) xs[i]! xs.length (xs.length - 0)) (xs[i]!))))), (26, xs_v), (27, vI (xs.length : Int)), (28, vI ((i : Nat) : Int)), (62, vI ((coL (zeros xs) xs ys xs.length i).length : Int)), (63, vI ((j : Nat) : Int)), (81, undef), (66, vo2_4), (67, vI ((j : Nat) : Int)), (69, vB ((adF (coL (zeros xs) xs ys xs.length i) (sdQ (coQ (zeros xs) xs xs.length i) (zeros xs) xs[i]! xs.length (xs.length - 0)) (gmul ys[i]! (ginv (pev (sdQ (coQ (zeros xs) xs xs.length i) (zeros xs) xs[i]! xs.length (xs.length - 0)) xs[i]!))) j)[j]!)), (75, vB (gmul ((sdQ (coQ (zeros xs) xs xs.length i) (zeros xs) xs[i]! xs.length (xs.length - 0))[j]!) (gmul (ys[i]!) (ginv (pev (sdQ (coQ (zeros xs) xs xs.length i) (zeros xs) xs[i]! xs.length (xs.length - 0)) (xs[i]!))))))] ⟨hF734 1 (by kernel_rfl), hF734 4 (by kernel_rfl), hF734 6 (by kernel_rfl), hF734 7 (by kernel_rfl), hF734 8 (by kernel_rfl), hF734 13 (by kernel_rfl), hF734 26 (by kernel_rfl), hF734 27 (by kernel_rfl), hF734 28 (by kernel_rfl), hF734 62 (by kernel_rfl), hF734 63 (by kernel_rfl), hF734 81 (by kernel_rfl), hT733 0 66 (by kernel_rfl) (by decide), hT733 1 67 (by kernel_rfl) (by decide), hT733 3 69 (by kernel_rfl) (by decide), hT733 9 75 (by kernel_rfl) (by decide), trivial⟩
        clear hT733 hF734
        refine wl_s (o_xor8 ((adF (coL (zeros xs) xs ys xs.length i) (sdQ (coQ (zeros xs) xs xs.length i) (zeros xs) xs[i]! xs.length (xs.length - 0)) (gmul ys[i]! (ginv (pev (sdQ (coQ (zeros xs) xs xs.length i) (zeros xs) xs[i]! xs.length (xs.length - 0)) xs[i]!))) j)[j]!) (gmul ((sdQ (coQ (zeros xs) xs xs.length i) (zeros xs) xs[i]! xs.length (xs.length - 0))[j]!) (gmul (ys[i]!) (ginv (pev (sdQ (coQ (zeros xs) xs xs.length i) (zeros xs) xs[i]! xs.length (xs.length - 0)) (xs[i]!))))) rfl rfl (wl_s (o_indexO Try.underlying28 s_5 .i64 ((j : Nat) : Int) j rfl rfl rfl ho2_4 (by first | omega | (simp only [List.length_set, List.length_append, List.length_cons, List.length_nil, List.length_replicate, coL_len, coQ_len, sdQ_len, adF_len, zeros_len]; omega)) fun b738 hb739 => (wl_n (o_storeO (((adF (coL (zeros xs) xs ys xs.length i) (sdQ (coQ (zeros xs) xs xs.length i) (zeros xs) xs[i]! xs.length (xs.length - 0)) (gmul ys[i]! (ginv (pev (sdQ (coQ (zeros xs) xs xs.length i) (zeros xs) xs[i]! xs.length (xs.length - 0)) xs[i]!))) j)[j]!) ^^^ (gmul ((sdQ (coQ (zeros xs) xs xs.length i) (zeros xs) xs[i]! xs.length (xs.length - 0))[j]!) (gmul (ys[i]!) (ginv (pev (sdQ (coQ (zeros xs) xs xs.length i) (zeros xs) xs[i]! xs.length (xs.length - 0)) (xs[i]!)))))) s_5 rfl rfl rfl ho2_4 hb739 (hB2_4 _ hb739) (by first | omega | (simp only [List.length_set, List.length_append, List.length_cons, List.length_nil, List.length_replicate, coL_len, coQ_len, sdQ_len, adF_len, zeros_len]; omega)) rfl s735 fun w740 s741 m742 k743 bx744 => (?_))))))
        have h_ys := h_ys.mv m742
        have hl620 := hl620.mv m742
        have ho1_8 := ho1_8.mv m742 k743 (fun b hb => by simp only [List.mem_singleton]; rintro rfl; exact absurd hb739 (np2_4_vo1_8 _ hb))
        have h_xs := h_xs.mv m742
        refine wl_nil (blockQ_n (thenQ_n (?_)))
        refine cw_region (by kernel_rfl) (wl_s (o_add .i64 ((j : Nat) : Int) (1 : Int) (((j + 1 : Nat) : Int)) rfl rfl (w64 (by omega) (by omega)) (wl_s (o_move (vI ((j + 1 : Nat) : Int)) rfl (wl_nil (thenQ_n (?_)))))))
        exact ⟨_, (by omega), (j + 1), vo2_4, Bl2, (by first | omega | (simp; done) | (simp; omega) | simp_all), rfl, ⟨_, upds_self _ ⟨rfl, rfl, rfl, rfl, rfl, rfl, rfl, rfl, rfl, rfl, (by first | rfl | exact congrArg (Value.int _) (by first | omega | (simp))), rfl, trivial⟩⟩, s741, (by rw [show adF (coL (zeros xs) xs ys xs.length i) (sdQ (coQ (zeros xs) xs xs.length i) (zeros xs) xs[i]! xs.length (xs.length - 0)) (gmul ys[i]! (ginv (pev (sdQ (coQ (zeros xs) xs xs.length i) (zeros xs) xs[i]! xs.length (xs.length - 0)) xs[i]!))) (j + 1) = (adF (coL (zeros xs) xs ys xs.length i) (sdQ (coQ (zeros xs) xs xs.length i) (zeros xs) xs[i]! xs.length (xs.length - 0)) (gmul ys[i]! (ginv (pev (sdQ (coQ (zeros xs) xs xs.length i) (zeros xs) xs[i]! xs.length (xs.length - 0)) xs[i]!))) j).set j (((adF (coL (zeros xs) xs ys xs.length i) (sdQ (coQ (zeros xs) xs xs.length i) (zeros xs) xs[i]! xs.length (xs.length - 0)) (gmul ys[i]! (ginv (pev (sdQ (coQ (zeros xs) xs xs.length i) (zeros xs) xs[i]! xs.length (xs.length - 0)) xs[i]!))) j)[j]!) ^^^ (gmul ((sdQ (coQ (zeros xs) xs xs.length i) (zeros xs) xs[i]! xs.length (xs.length - 0))[j]!) (gmul (ys[i]!) (ginv (pev (sdQ (coQ (zeros xs) xs xs.length i) (zeros xs) xs[i]! xs.length (xs.length - 0)) (xs[i]!)))))) from rfl]; exact bx744), hB2_4, h_ys, hl620, ho1_8, hB1_8, h_xs, no2_4_vo1_8, np2_4_vo1_8⟩
       ·have hp745 : ((coL (zeros xs) xs ys xs.length i).length : Int) ≤ ((j : Nat) : Int) := by first | simpa using hc712 | (have e := hc712; simp at e; omega)
        obtain rfl : j = xs.length := by omega
        refine cw_exit (thenQ_x (thenQ_x (blockQ_x (blockQ_n (thenQ_n (?_))))))
        refine cw_region (by kernel_rfl) (wl_s (o_add .i64 ((i : Nat) : Int) (1 : Int) (((i + 1 : Nat) : Int)) rfl rfl (w64 (by omega) (by omega)) (wl_s (o_move (vI ((i + 1 : Nat) : Int)) rfl (wl_nil (thenQ_n (?_)))))))
        exact ⟨_, (by omega), (i + 1), vo2_4, vo1_8, Bl2, (by first | omega | (simp; done) | (simp; omega) | simp_all), rfl, ⟨_, upds_self _ ⟨rfl, rfl, rfl, rfl, rfl, rfl, rfl, (by first | rfl | exact congrArg (Value.int _) (by first | omega | (simp))), rfl, trivial⟩⟩, sl2, (by rw [show coL (zeros xs) xs ys xs.length (i + 1) = adF (coL (zeros xs) xs ys xs.length i) (sdQ (coQ (zeros xs) xs xs.length i) (zeros xs) xs[i]! xs.length (xs.length - 0)) (gmul ys[i]! (ginv (pev (sdQ (coQ (zeros xs) xs xs.length i) (zeros xs) xs[i]! xs.length (xs.length - 0)) xs[i]!))) xs.length from by rw [Nat.sub_zero]; simp only [coL, coQ]]; exact ho2_4), hB2_4, (by rw [show coQ (zeros xs) xs xs.length (i + 1) = sdQ (coQ (zeros xs) xs xs.length i) (zeros xs) xs[i]! xs.length (xs.length - 0) from by rw [coQ, Nat.sub_zero]]; exact ho1_8), hB1_8, h_ys, hl620, h_xs, no2_4_vo1_8, np2_4_vo1_8⟩
   ·have hp746 : (xs.length : Int) ≤ ((i : Nat) : Int) := by first | simpa using hc642 | (have e := hc642; simp at e; omega)
    obtain rfl : i = xs.length := by omega
    refine cw_exit (thenQ_x (thenQ_x (blockQ_x (thenQ_n (?_)))))
    refine cw_seq (?_)
    refine cw_region (by kernel_rfl) (wl_s (o_move (vo0_4) rfl (wl_s (o_assign (vo0_4) rfl (wl_s (o_assign (vI (0 : Int)) rfl (wl_nil (thenQ_n (?_)))))))))
    refine cw_ret (end_r rfl (res2 rfl rfl rfl rfl) (?_))
    have e : (coeff xs ys) = (coL (zeros xs) xs ys xs.length xs.length, (0 : Int)) := by simp [coeff, *]
    exact ⟨_, rfl, sl0.keep, by rw [e]; exact ⟨vo0_4, rfl, ho0_4.pub sl0⟩⟩
set_option maxHeartbeats 4000000 in
set_option maxRecDepth 100000 in
theorem c_through {O : List Nat} (xs_v : Value) (xs : List UInt8) (ys_v : Value) (ys : List UInt8) (at_ : UInt8) (w : World) (h_xs : RdL Enc.u8 w O xs_v xs) (h_ys : RdL Enc.u8 w O ys_v ys) (hpre0 : xs.length < 1000000) (hO : ∀ b ∈ O, b < w.heap.size) : CallsK Try.prog 22 [xs_v, ys_v, vB at_] w (fun v _ => v = .tuple #[vB ((through xs ys at_).1), vI ((through xs ys at_).2)]) :=  by
 have lim_xs := h_xs.len_le
 have h_xs : RdL Enc.u8 w ([] ++ O) xs_v xs := h_xs
 have lim_ys := h_ys.len_le
 have h_ys : RdL Enc.u8 w ([] ++ O) ys_v ys := h_ys
 have s0 : St w O w [] := St.start hO
 refine callsK_of 21 Try.func22 rfl rfl (of_decide_eq_true rfl) (fun F0 => ?_)
 refine cw_seq (?_)
 refine cw_region (by kernel_rfl) (wl_s (o_assign (vB (0 : UInt8)) rfl (wl_s (o_assign (vI (0 : Int)) rfl (wl_nil (thenQ_n (?_)))))))
 refine cw_seq (?_)
 refine cw_region (by kernel_rfl) (wl_s (o_move (xs_v) rfl (wl_s (o_move (ys_v) rfl (wl_s (o_callK (vs := [xs_v, ys_v]) enter_24 (c_coeff (O := [] ++ O) xs_v xs ys_v ys w h_xs h_ys (by first | omega | assumption | (simp; done)) s0.lt) rfl s0 fun v747 w748 s749 m750 k751 r752 => (?_)))))))
 obtain ⟨x753, rfl, hl754⟩ := r752
 have := hl754.len_le
 refine wl_s (o_move (Value.tuple #[x753, vI ((coeff xs ys).2)]) rfl (wl_s (o_extract (x753) rfl rfl (wl_s (o_extract (vI ((coeff xs ys).2)) rfl rfl (wl_s (o_assign (x753) rfl (wl_s (o_assign (vI ((coeff xs ys).2)) rfl (wl_nil (thenQ_n (?_))))))))))))
 refine cw_seq (?_)
 refine cw_seq (?_)
 refine cw_region (by kernel_rfl) (wl_s (o_move (vI ((coeff xs ys).2)) rfl (wl_s (o_neq .i64 ((coeff xs ys).2) (0 : Int) rfl rfl (wl_nil (thenQ_n (?_)))))))
 refine cw_cond (((coeff xs ys).2) != (0 : Int)) rfl rfl (fun hc755 => ?_) (fun hc755 => ?_)
 ·have hp756 : (coeff xs ys).2 ≠ (0 : Int) := by first | simpa using hc755 | (have e := hc755; simp at e; omega)
  refine cw_seq (?_)
  refine cw_region (by kernel_rfl) (wl_s (o_move (vI ((coeff xs ys).2)) rfl (wl_s (o_assign (vB (0 : UInt8)) rfl (wl_s (o_assign (vI ((coeff xs ys).2)) rfl (wl_nil (thenQ_n (?_)))))))))
  refine cw_ret (thenQ_r (end_r rfl (res2 rfl rfl rfl rfl) (?_)))
  have e : (through xs ys at_) = ((0 : UInt8), (coeff xs ys).2) := by simp [through, *]
  exact ⟨_, rfl, s749.keep, by rw [e]; exact rfl⟩
 ·have hp757 : (coeff xs ys).2 = (0 : Int) := by first | simpa using hc755 | (have e := hc755; simp at e; omega)
  refine cw_skip (thenQ_n (?_))
  refine cw_seq (?_)
  refine cw_region (by kernel_rfl) (wl_s (o_move (x753) rfl (wl_s (o_move (vB at_) rfl (wl_s (o_callK (vs := [x753, vB at_]) enter_26 (c_eval (O := [] ++ O) x753 ((coeff xs ys).1) at_ w748 hl754 s749.lt) rfl s749 fun v758 w759 s760 m761 k762 r763 => (?_)))))))
  obtain rfl := r763
  refine wl_s (o_assign (vB (pev ((coeff xs ys).1) at_)) rfl (wl_s (o_assign (vI (0 : Int)) rfl (wl_nil (thenQ_n (?_))))))
  refine cw_ret (end_r rfl (res2 rfl rfl rfl rfl) (?_))
  have e : (through xs ys at_) = (pev ((coeff xs ys).1) at_, (0 : Int)) := by simp [through, *]
  exact ⟨_, rfl, s760.keep, by rw [e]; exact rfl⟩

end Go.Proofs.Yteajcgfcnbdmgaa
