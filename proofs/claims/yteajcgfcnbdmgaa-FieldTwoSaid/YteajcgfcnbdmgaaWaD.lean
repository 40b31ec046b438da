/- Walks, printed by gen.py. -/
import Derived.Test.YteajcgfcnbdmgaaWaC
namespace Go.Proofs.Yteajcgfcnbdmgaa
open Go.Fw Go.RowKit

set_option maxHeartbeats 4000000 in
set_option maxRecDepth 100000 in
theorem c_coeff {O : List Nat} (xs_v : Value) (xs : List UInt8) (ys_v : Value) (ys : List UInt8) (w : World) (h_xs : RdL Enc.u8 w O xs_v xs) (h_ys : RdL Enc.u8 w O ys_v ys) (hpre0 : xs.length < 1000000) (hO : ∀ b ∈ O, b < w.heap.size) : CallsK Try.prog 24 [xs_v, ys_v] w (fun v w' => ∃ (x0 : Value), v = .tuple #[x0, vI ((coeff xs ys).2)] ∧ RdL Enc.u8 w' (O) x0 ((coeff xs ys).1)) :=  by
  have lim_xs := h_xs.len_le
  have h_xs : RdL Enc.u8 w ([] ++ O) xs_v xs := h_xs
  have lim_ys := h_ys.len_le
  have h_ys : RdL Enc.u8 w ([] ++ O) ys_v ys := h_ys
  have s0 : St w O w [] := St.start hO
  have hzl := zeros_len xs
  refine callsK_of 81 Try.func24 rfl rfl (of_decide_eq_true rfl) (fun F0 => ?_)
  refine cw_seq (?_)
  refine cw_region (by kernel_rfl) (wl_s (o_assign (.slice none 0 0) rfl (wl_s (o_assign (vI (0 : Int)) rfl (wl_nil (thenQ_n (?_)))))))
  refine cw_seq (?_)
  refine cw_seq (?_)
  refine cw_region (by kernel_rfl) (wl_s (o_move (xs_v) rfl (wl_s (o_move (ys_v) rfl (wl_s (o_callK (vs := [xs_v, ys_v]) enter_45 (c_wrong (O := [] ++ O) xs_v xs ys_v ys w h_xs h_ys s0.lt) rfl s0 fun v687 w688 s689 m690 k691 r692 => (?_)))))))
  obtain rfl := r692
  have h_xs := h_xs.mv m690
  have h_ys := h_ys.mv m690
  refine wl_nil (thenQ_n (?_))
  refine cw_cond (wrongM xs ys) rfl rfl (fun hc693 => ?_) (fun hc693 => ?_)
  · have hp694 : (wrongM xs ys) = true := by first | simpa using hc693 | (have e := hc693; simp at e; omega)
    refine cw_seq (?_)
    refine cw_region (by kernel_rfl) (wl_s (o_assign (.slice none 0 0) rfl (wl_s (o_assign (vI (1 : Int)) rfl (wl_nil (thenQ_n (?_)))))))
    refine cw_ret (thenQ_r (end_r rfl (res2 rfl rfl rfl rfl) (?_)))
    have e : (coeff xs ys) = ([], (1 : Int)) := by simp [coeff, *]
    exact ⟨_, rfl, s689.keep, by rw [e]; exact ⟨.slice none 0 0, rfl, RdL.nil _ _ _⟩⟩
  · have hp695 : (wrongM xs ys) = false := by first | simpa using hc693 | (have e := hc693; simp at e; omega)
    have hxy := wrongM_len (by simpa using hc693)
    refine cw_skip (thenQ_n (?_))
    refine cw_seq (?_)
    refine cw_region (by kernel_rfl) (wl_s (o_move (xs_v) rfl (wl_s (o_lenR Try.underlying28 rfl h_xs (wl_s (o_assign (vI (xs.length : Int)) rfl (wl_nil (thenQ_n (?_)))))))))
    refine cw_seq (?_)
    refine cw_region (by kernel_rfl) (wl_s (o_move (xs_v) rfl (wl_s (o_callK (vs := [xs_v]) enter_46 (c_zeros (O := [] ++ O) xs_v xs w688 h_xs (by first | omega | assumption | (simp; done)) s689.lt) rfl s689 fun v696 w697 s698 m699 k700 r701 => (?_)))))
    obtain ⟨_, rfl, hl702⟩ := r701
    have := hl702.len_le
    have h_xs := h_xs.mv m699
    have h_ys := h_ys.mv m699
    refine wl_s (o_assign (v696) rfl (wl_nil (thenQ_n (?_))))
    refine cw_seq (?_)
    refine cw_region (by kernel_rfl) (wl_s (o_move (vI (xs.length : Int)) rfl (wl_s (o_make (E := Enc.u8) Try.underlying28 i_5 [vB (0 : UInt8)] rfl rfl (by decide) (0 : UInt8) (fun _ _ => rfl) .i64 .i64 (xs.length : Int) (xs.length : Int) xs.length xs.length rfl rfl rfl rfl (by omega) (by omega) (by simp only [maxLen]; omega) s698 fun v707 b709 w703 e710 hb711 s704 m705 k706 hl708 => (?_)))))
    have hB712 : ∀ b, v707.ownBlock = some b → b ∈ (b709 :: []) := fun b hb => by rw [hb711] at hb; cases hb; simp
    clear e710 hb711
    have h_xs := h_xs.mv m705
    have h_ys := h_ys.mv m705
    have hl702 := hl702.mv m705
    refine wl_s (o_assign (v707) rfl (wl_nil (thenQ_n (?_))))
    refine cw_seq (?_)
    refine cw_region (by kernel_rfl) (wl_s (o_move (vI (xs.length : Int)) rfl (wl_s (o_make (E := Enc.u8) Try.underlying28 i_5 [vB (0 : UInt8)] rfl rfl (by decide) (0 : UInt8) (fun _ _ => rfl) .i64 .i64 (xs.length : Int) (xs.length : Int) xs.length xs.length rfl rfl rfl rfl (by omega) (by omega) (by simp only [maxLen]; omega) s704 fun v717 b719 w713 e720 hb721 s714 m715 k716 hl718 => (?_)))))
    have ne722 : ∀ b, v707.ownBlock = some b → v717.ownBlock ≠ some b := fun b hb => by have := (hl708.lt b hb).2; rw [hb721]; intro e; cases e; omega
    have ne722' : ∀ b, v717.ownBlock = some b → v707.ownBlock ≠ some b := fun b hb e => ne722 b e hb
    have hB723 : ∀ b, v717.ownBlock = some b → b ∈ (b719 :: (b709 :: [])) := fun b hb => by rw [hb721] at hb; cases hb; simp
    clear e720 hb721
    have hB712 : ∀ b, v707.ownBlock = some b → b ∈ (b719 :: (b709 :: [])) := fun b hb => List.mem_cons_of_mem _ (hB712 b hb)
    have h_xs := h_xs.mv m715
    have h_ys := h_ys.mv m715
    have hl708 := hl708.mv m715 k716 (by simp)
    have hl702 := hl702.mv m715
    refine wl_s (o_assign (v717) rfl (wl_nil (thenQ_n (?_))))
    refine cw_seq (?_)
    refine cw_seq (?_)
    refine cw_region (by kernel_rfl) (wl_s (o_move (xs_v) rfl (wl_s (o_lenR Try.underlying28 rfl h_xs (wl_s (o_move (vI (0 : Int)) rfl (wl_nil (thenQ_n (?_)))))))))
    refine cw_block (?_)
    refine cw_loop (fun mI FI wI => ∃ (i : Nat) (vo0_4 : Value) (vo0_8 : Value) (B : List Nat), i ≤ xs.length ∧ mI = xs.length - i ∧ (∃ F1, FI = upds F1 [(1, ys_v), (4, vo0_4), (6, vI (xs.length : Int)), (7, v696), (8, vo0_8), (26, xs_v), (27, vI (xs.length : Int)), (28, vI ((i : Nat) : Int)), (81, undef)]) ∧ St w O wI B ∧ Own Enc.u8 5 w.heap.size (B ++ O) wI vo0_4 (coL (zeros xs) xs ys xs.length i) ∧ (∀ b, vo0_4.ownBlock = some b → b ∈ B) ∧ Own Enc.u8 5 w.heap.size (B ++ O) wI vo0_8 (coQ (zeros xs) xs xs.length i) ∧ (∀ b, vo0_8.ownBlock = some b → b ∈ B) ∧ RdL Enc.u8 wI (B ++ O) (ys_v) (ys) ∧ RdL Enc.u8 wI (B ++ O) (v696) (zeros xs) ∧ RdL Enc.u8 wI (B ++ O) (xs_v) (xs) ∧ (∀ b, vo0_4.ownBlock = some b → vo0_8.ownBlock ≠ some b) ∧ (∀ b, vo0_8.ownBlock = some b → vo0_4.ownBlock ≠ some b)) (xs.length - (0)) ?_ ?_
    · exact ⟨(0), v707, v717, (b719 :: (b709 :: [])), (by first | omega | (simp; done) | (simp; omega) | simp_all), rfl, ⟨_, upds_self _ ⟨rfl, rfl, rfl, rfl, rfl, rfl, rfl, (by first | rfl | exact congrArg (Value.int _) (by first | omega | (simp))), rfl, trivial⟩⟩, s714, (by rw [show coL (zeros xs) xs ys xs.length (0) = List.replicate xs.length (0 : UInt8) from rfl]; exact hl708), hB712, (by rw [show coQ (zeros xs) xs xs.length (0) = List.replicate xs.length (0 : UInt8) from rfl]; exact hl718), hB723, h_ys, hl702, h_xs, (by first | assumption | (intro b hb; simp [Value.ownBlock] at hb; done) | (intro b _ e; simp [Value.ownBlock] at e; done)), (by first | assumption | (intro b hb; simp [Value.ownBlock] at hb; done) | (intro b _ e; simp [Value.ownBlock] at e; done))⟩
    · intro ml0 F wl0 hI
      clear h_ys hl702 h_xs
      obtain ⟨i, vo0_4, vo0_8, Bl0, hr0_0, hm0, ⟨Fl0, rfl⟩, sl0, ho0_4, hB0_4, ho0_8, hB0_8, h_ys, hl702, h_xs, nn0_4_8, nn0_8_4⟩ := hI
      refine cw_seq (?_)
      refine cw_region (by kernel_rfl) (wl_s (o_lss .i64 ((i : Nat) : Int) (xs.length : Int) rfl rfl (wl_nil (thenQ_n (?_)))))
      refine cw_seq (?_)
      refine cw_cond (decide (((i : Nat) : Int) < (xs.length : Int))) rfl rfl (fun hc724 => ?_) (fun hc724 => ?_)
      · have hp725 : ((i : Nat) : Int) < (xs.length : Int) := by first | simpa using hc724 | (have e := hc724; simp at e; omega)
        refine cw_skip (thenQ_n (?_))
        refine cw_seq (?_)
        refine cw_block (?_)
        refine cw_seq (?_)
        refine cw_region (by kernel_rfl) (wl_s (o_move (vI ((i : Nat) : Int)) rfl (wl_s (o_idx Try.underlying28 s_5 .i64 ((i : Nat) : Int) i rfl rfl rfl h_xs (by omega) fun a726 hp727 => (wl_s (o_loadB Try.underlying5 rfl rfl hp727 (wl_s (o_assign (vI ((i : Nat) : Int)) rfl (wl_s (o_assign (vB (xs[i]!)) rfl (wl_nil (thenQ_n (?_)))))))))))))
        refine cw_seq (?_)
        refine cw_region (by kernel_rfl) (wl_s (o_assign (vB (0 : UInt8)) rfl (wl_nil (thenQ_n (?_)))))
        refine cw_seq (?_)
        refine cw_seq (?_)
        refine cw_region (by kernel_rfl) (wl_s (o_move (vI (xs.length : Int)) rfl (wl_s (o_sub .i64 (xs.length : Int) (1 : Int) ((xs.length : Int) - (1 : Int)) rfl rfl (w64 (by omega) (by omega)) (wl_s (o_assign (vI ((xs.length : Int) - (1 : Int))) rfl (wl_nil (thenQ_n (?_)))))))))
        refine cw_block (?_)
        refine cw_loop (fun mI FI wI => ∃ (k : Nat) (vo1_8 : Value) (B : List Nat), k ≤ xs.length ∧ mI = k ∧ (∃ F1, FI = upds F1 [(1, ys_v), (4, vo0_4), (6, vI (xs.length : Int)), (7, v696), (8, vo1_8), (9, vI ((i : Nat) : Int)), (10, vB (xs[i]!)), (11, vB (sdC (zeros xs) xs[i]! xs.length (xs.length - k))), (12, vI ((k : Int) - 1)), (26, xs_v), (27, vI (xs.length : Int)), (28, vI ((i : Nat) : Int)), (81, undef)]) ∧ St w O wI B ∧ Own Enc.u8 5 w.heap.size (B ++ O) wI vo1_8 (sdQ (coQ (zeros xs) xs xs.length i) (zeros xs) xs[i]! xs.length (xs.length - k)) ∧ (∀ b, vo1_8.ownBlock = some b → b ∈ B) ∧ RdL Enc.u8 wI (B ++ O) (ys_v) (ys) ∧ Own Enc.u8 5 w.heap.size (B ++ O) wI vo0_4 (coL (zeros xs) xs ys xs.length i) ∧ (∀ b, vo0_4.ownBlock = some b → b ∈ B) ∧ RdL Enc.u8 wI (B ++ O) (v696) (zeros xs) ∧ RdL Enc.u8 wI (B ++ O) (xs_v) (xs) ∧ (∀ b, vo1_8.ownBlock = some b → vo0_4.ownBlock ≠ some b) ∧ (∀ b, vo0_4.ownBlock = some b → vo1_8.ownBlock ≠ some b)) ((xs.length)) ?_ ?_
        · exact ⟨(xs.length), vo0_8, Bl0, (by first | omega | (simp; done) | (simp; omega) | simp_all), rfl, ⟨_, upds_self _ ⟨rfl, rfl, rfl, rfl, rfl, rfl, rfl, (congrArg vB (by rw [Nat.sub_self]; rfl)), (by first | rfl | exact congrArg (Value.int _) (by first | omega | (omega))), rfl, rfl, rfl, rfl, trivial⟩⟩, sl0, (by rw [show sdQ (coQ (zeros xs) xs xs.length i) (zeros xs) xs[i]! xs.length (xs.length - (xs.length)) = coQ (zeros xs) xs xs.length i from by rw [Nat.sub_self]; rfl]; exact ho0_8), hB0_8, h_ys, ho0_4, hB0_4, hl702, h_xs, (by first | assumption | (intro b hb; simp [Value.ownBlock] at hb; done) | (intro b _ e; simp [Value.ownBlock] at e; done)), (by first | assumption | (intro b hb; simp [Value.ownBlock] at hb; done) | (intro b _ e; simp [Value.ownBlock] at e; done))⟩
        · intro ml1 F wl1 hI
          clear h_ys ho0_4 hB0_4 hl702 h_xs
          obtain ⟨k, vo1_8, Bl1, hr1_0, hm1, ⟨Fl1, rfl⟩, sl1, ho1_8, hB1_8, h_ys, ho0_4, hB0_4, hl702, h_xs, no1_8_vo0_4, np1_8_vo0_4⟩ := hI
          refine cw_seq (?_)
          refine cw_seq (?_)
          refine cw_region (by kernel_rfl) (wl_s (o_move (vI ((k : Int) - 1)) rfl (wl_s (o_geq .i64 ((k : Int) - 1) (0 : Int) rfl rfl (wl_nil (thenQ_n (?_)))))))
          refine cw_cond (decide ((0 : Int) ≤ (k : Int) - 1)) rfl rfl (fun hc728 => ?_) (fun hc728 => ?_)
          · have hp729 : (0 : Int) ≤ (k : Int) - 1 := by first | simpa using hc728 | (have e := hc728; simp at e; omega)
            obtain ⟨q, rfl⟩ : ∃ q, k = q + 1 := ⟨k - 1, by omega⟩
            rw [show ((q + 1 : Nat) : Int) - 1 = ((q : Nat) : Int) from by omega]
            refine cw_skip (thenQ_n (?_))
            refine cw_seq (?_)
            refine cw_block (?_)
            refine cw_seq (?_)
            refine cw_draw' 8 _ _ [fun v w => RdL Enc.u8 w (Bl1 ++ O) v (zeros xs), fun v _ => v = vI ((q : Nat) : Int), fun v _ => v = vI ((q + 1 : Nat) : Int), fun v w => ∃ a, v = .pointer (some a) ∧ PT Enc.u8 w (Bl1 ++ O) (.pointer (some a)) ((zeros xs)[q + 1]!), fun v _ => v = vB ((zeros xs)[q + 1]!), fun v _ => v = vB (sdC (zeros xs) xs[i]! xs.length (xs.length - (q + 1))), fun v _ => v = vB (xs[i]!), fun v _ => v = vB (gmul (sdC (zeros xs) xs[i]! xs.length (xs.length - (q + 1))) (xs[i]!))] (by kernel_rfl) (by kernel_rfl) (by kernel_rfl) (by kernel_rfl) rfl rfl ⟨fun _ _ _ h k => h.mv (Mv.of_keep k), fun _ _ _ h _ => h, fun _ _ _ h _ => h, fun _ _ _ ⟨a, e, h⟩ k => ⟨a, e, h.mv (Mv.of_keep k)⟩, fun _ _ _ h _ => h, fun _ _ _ h _ => h, fun _ _ _ h _ => h, fun _ _ _ h _ => h, trivial⟩ ⟨?_, ?_, ?_, ?_, ?_, ?_, ?_, ?_, trivial⟩ ?_
            · intro F1 w1 k1 hf hd
              have k0 := (Keep.drew [] wl1).trans k1
              have s1 := sl1.call k0
              have m1 : Mv Bl1 wl1 Bl1 w1 := Mv.of_keep k0
              have hl702 := hl702.mv m1
              obtain ⟨F2, rfl⟩ := lit_of (F := F1) [(7, v696)] ⟨hf 7 (by kernel_rfl), trivial⟩
              exact sp_plain rfl ((o_move (v696) rfl (⟨(Keep.refl _ _), hl702⟩)))
            · intro F1 w1 k1 hf hd
              have k0 := (Keep.drew [] wl1).trans k1
              have s1 := sl1.call k0
              have m1 : Mv Bl1 wl1 Bl1 w1 := Mv.of_keep k0
              obtain ⟨F2, rfl⟩ := lit_of (F := F1) [(12, vI ((q : Nat) : Int))] ⟨hf 12 (by kernel_rfl), trivial⟩
              exact sp_plain rfl ((o_move (vI ((q : Nat) : Int)) rfl (⟨(Keep.refl _ _), rfl⟩)))
            · intro F1 w1 k1 hf hd
              have k0 := (Keep.drew [] wl1).trans k1
              have s1 := sl1.call k0
              have m1 : Mv Bl1 wl1 Bl1 w1 := Mv.of_keep k0
              obtain ⟨F2, rfl⟩ := lit_of (F := F1) [(40, vI ((q : Nat) : Int))] ⟨hd 1 40 (by kernel_rfl), trivial⟩
              exact sp_plain rfl ((o_add .i64 ((q : Nat) : Int) (1 : Int) (((q + 1 : Nat) : Int)) rfl rfl (w64 (by omega) (by omega)) (⟨(Keep.refl _ _), rfl⟩)))
            · intro F1 w1 k1 hf hd
              have k0 := (Keep.drew [] wl1).trans k1
              have s1 := sl1.call k0
              have m1 : Mv Bl1 wl1 Bl1 w1 := Mv.of_keep k0
              obtain ⟨v730, e732, hl731⟩ : ∃ v, F1 39 = v ∧ RdL Enc.u8 w1 (Bl1 ++ O) v (zeros xs) := ⟨_, rfl, hd 0 39 (by kernel_rfl)⟩
              have := hl731.len_le
              obtain ⟨F2, rfl⟩ := lit_of (F := F1) [(39, v730), (41, vI ((q + 1 : Nat) : Int))] ⟨e732, hd 2 41 (by kernel_rfl), trivial⟩
              exact sp_plain rfl ((o_idx Try.underlying28 s_5 .i64 ((q + 1 : Nat) : Int) (q + 1) rfl rfl rfl hl731 (by rw [zeros_len]; omega) fun a733 hp734 => (⟨(Keep.refl _ _), ⟨a733, rfl, hp734⟩⟩)))
            · intro F1 w1 k1 hf hd
              have k0 := (Keep.drew [] wl1).trans k1
              have s1 := sl1.call k0
              have m1 : Mv Bl1 wl1 Bl1 w1 := Mv.of_keep k0
              obtain ⟨a735, e737, hp736⟩ : ∃ a, F1 42 = .pointer (some a) ∧ PT Enc.u8 w1 (Bl1 ++ O) (.pointer (some a)) ((zeros xs)[q + 1]!) := hd 3 42 (by kernel_rfl)
              obtain ⟨F2, rfl⟩ := lit_of (F := F1) [(42, .pointer (some a735))] ⟨e737, trivial⟩
              exact sp_plain rfl ((o_loadB Try.underlying5 rfl rfl hp736 (⟨(Keep.refl _ _), rfl⟩)))
            · intro F1 w1 k1 hf hd
              have k0 := (Keep.drew [] wl1).trans k1
              have s1 := sl1.call k0
              have m1 : Mv Bl1 wl1 Bl1 w1 := Mv.of_keep k0
              obtain ⟨F2, rfl⟩ := lit_of (F := F1) [(11, vB (sdC (zeros xs) xs[i]! xs.length (xs.length - (q + 1))))] ⟨hf 11 (by kernel_rfl), trivial⟩
              exact sp_plain rfl ((o_move (vB (sdC (zeros xs) xs[i]! xs.length (xs.length - (q + 1)))) rfl (⟨(Keep.refl _ _), rfl⟩)))
            · intro F1 w1 k1 hf hd
              have k0 := (Keep.drew [] wl1).trans k1
              have s1 := sl1.call k0
              have m1 : Mv Bl1 wl1 Bl1 w1 := Mv.of_keep k0
              obtain ⟨F2, rfl⟩ := lit_of (F := F1) [(10, vB (xs[i]!))] ⟨hf 10 (by kernel_rfl), trivial⟩
              exact sp_plain rfl ((o_move (vB (xs[i]!)) rfl (⟨(Keep.refl _ _), rfl⟩)))
            · intro F1 w1 k1 hf hd
              have k0 := (Keep.drew [] wl1).trans k1
              have s1 := sl1.call k0
              have m1 : Mv Bl1 wl1 Bl1 w1 := Mv.of_keep k0
              obtain ⟨F2, rfl⟩ := lit_of (F := F1) [(44, vB (sdC (zeros xs) xs[i]! xs.length (xs.length - (q + 1)))), (45, vB (xs[i]!))] ⟨hd 5 44 (by kernel_rfl), hd 6 45 (by kernel_rfl), trivial⟩
              refine sp_plain rfl ((o_callK (vs := [vB (sdC (zeros xs) xs[i]! xs.length (xs.length - (q + 1))), vB (xs[i]!)]) enter_20 (c_mul (O := Bl1 ++ O) (sdC (zeros xs) xs[i]! xs.length (xs.length - (q + 1))) (xs[i]!) w1 s1.lt) rfl s1 fun v738 w739 s740 m741 k742 r743 => (?_)))
              obtain rfl := r743
              exact ⟨k742, rfl⟩
            intro F745 w746 k744 hT747 hF748
            have s749 := sl1.call k744
            have m750 : Mv Bl1 wl1 Bl1 w746 := Mv.of_keep k744
            have h_ys := h_ys.mv m750
            have ho0_4 := ho0_4.mv m750 k744 (by simp)
            have hl702 := hl702.mv m750
            have ho1_8 := ho1_8.mv m750 k744 (by simp)
            have h_xs := h_xs.mv m750
            obtain ⟨v752, e754, hl753⟩ : ∃ v, F745 39 = v ∧ RdL Enc.u8 w746 (Bl1 ++ O) v (zeros xs) := ⟨_, rfl, hT747 0 39 (by kernel_rfl) (by decide)⟩
            have := hl753.len_le
            obtain ⟨a755, e757, hp756⟩ : ∃ a, F745 42 = .pointer (some a) ∧ PT Enc.u8 w746 (Bl1 ++ O) (.pointer (some a)) ((zeros xs)[q + 1]!) := hT747 3 42 (by kernel_rfl) (by decide)
            obtain ⟨F2, rfl⟩ := lit_of (F := F745) [(1, ys_v), (4, vo0_4), (6, vI (xs.length : Int)), (7, v696), (8, vo1_8), (9, vI ((i : Nat) : Int)), (10, vB (xs[i]!)), (11, vB (sdC (zeros xs) xs[i]! xs.length (xs.length - (q + 1)))), (12, vI ((q : Nat) : Int)), (26, xs_v), (27, vI (xs.length : Int)), (28, vI ((i : Nat) : Int)), (35, vI ((q : Nat) : Int)), (36, .bool (decide ((0 : Int) ≤ ((q : Nat) : Int)))), (81, undef), (39, v752), (40, vI ((q : Nat) : Int)), (41, vI ((q + 1 : Nat) : Int)), (42, .pointer (some a755)), (43, vB ((zeros xs)[q + 1]!)), (44, vB (sdC (zeros xs) xs[i]! xs.length (xs.length - (q + 1)))), (45, vB (xs[i]!)), (46, vB (gmul (sdC (zeros xs) xs[i]! xs.length (xs.length - (q + 1))) (xs[i]!)))] ⟨hF748 1 (by kernel_rfl), hF748 4 (by kernel_rfl), hF748 6 (by kernel_rfl), hF748 7 (by kernel_rfl), hF748 8 (by kernel_rfl), hF748 9 (by kernel_rfl), hF748 10 (by kernel_rfl), hF748 11 (by kernel_rfl), hF748 12 (by kernel_rfl), hF748 26 (by kernel_rfl), hF748 27 (by kernel_rfl), hF748 28 (by kernel_rfl), hF748 35 (by kernel_rfl), hF748 36 (by kernel_rfl), hF748 81 (by kernel_rfl), e754, hT747 1 40 (by kernel_rfl) (by decide), hT747 2 41 (by kernel_rfl) (by decide), e757, hT747 4 43 (by kernel_rfl) (by decide), hT747 5 44 (by kernel_rfl) (by decide), hT747 6 45 (by kernel_rfl) (by decide), hT747 7 46 (by kernel_rfl) (by decide), trivial⟩
            clear hT747 hF748
            refine wl_s (o_xor8 ((zeros xs)[q + 1]!) (gmul (sdC (zeros xs) xs[i]! xs.length (xs.length - (q + 1))) (xs[i]!)) rfl rfl (wl_s (o_assign (vB (((zeros xs)[q + 1]!) ^^^ (gmul (sdC (zeros xs) xs[i]! xs.length (xs.length - (q + 1))) (xs[i]!)))) rfl (wl_nil (thenQ_n (?_))))))
            refine cw_region (by kernel_rfl) (wl_s (o_move (vo1_8) rfl (wl_s (o_move (vI ((q : Nat) : Int)) rfl (wl_s (o_move (vB (((zeros xs)[q + 1]!) ^^^ (gmul (sdC (zeros xs) xs[i]! xs.length (xs.length - (q + 1))) (xs[i]!)))) rfl (wl_s (o_indexO Try.underlying28 s_5 .i64 ((q : Nat) : Int) q rfl rfl rfl ho1_8 (by first | omega | (simp only [List.length_set, List.length_append, List.length_cons, List.length_nil, List.length_replicate, coL_len, coQ_len, sdQ_len, adF_len, zeros_len]; omega)) fun b758 hb759 => (wl_n (o_storeO (((zeros xs)[q + 1]!) ^^^ (gmul (sdC (zeros xs) xs[i]! xs.length (xs.length - (q + 1))) (xs[i]!))) s_5 rfl rfl rfl ho1_8 hb759 (hB1_8 _ hb759) (by first | omega | (simp only [List.length_set, List.length_append, List.length_cons, List.length_nil, List.length_replicate, coL_len, coQ_len, sdQ_len, adF_len, zeros_len]; omega)) rfl s749 fun w760 s761 m762 k763 bx764 => (?_)))))))))))
            have h_ys := h_ys.mv m762
            have ho0_4 := ho0_4.mv m762 k763 (fun b hb => by simp only [List.mem_singleton]; rintro rfl; exact absurd hb759 (by apply_assumption; assumption))
            have hl702 := hl702.mv m762
            have h_xs := h_xs.mv m762
            have hl753 := hl753.mv m762
            have hp756 := hp756.mv m762
            refine wl_nil (blockQ_n (thenQ_n (?_)))
            refine cw_region (by kernel_rfl) (wl_s (o_move (vI ((q : Nat) : Int)) rfl (wl_s (o_sub .i64 ((q : Nat) : Int) (1 : Int) (((q : Nat) : Int) - (1 : Int)) rfl rfl (w64 (by omega) (by omega)) (wl_s (o_assign (vI (((q : Nat) : Int) - (1 : Int))) rfl (wl_nil (thenQ_n (?_)))))))))
            exact ⟨_, (by omega), (q), vo1_8, Bl1, (by first | omega | (simp; done) | (simp; omega) | simp_all), rfl, ⟨_, upds_self _ ⟨rfl, rfl, rfl, rfl, rfl, rfl, rfl, (congrArg vB (by exact (sdC_step (by omega)).symm)), (by first | rfl | exact congrArg (Value.int _) (by first | omega | (simp))), rfl, rfl, rfl, rfl, trivial⟩⟩, s761, (by rw [show sdQ (coQ (zeros xs) xs xs.length i) (zeros xs) xs[i]! xs.length (xs.length - (q)) = (sdQ (coQ (zeros xs) xs xs.length i) (zeros xs) xs[i]! xs.length (xs.length - (q + 1))).set q (((zeros xs)[q + 1]!) ^^^ (gmul (sdC (zeros xs) xs[i]! xs.length (xs.length - (q + 1))) (xs[i]!))) from sdQ_step (by omega)]; exact bx764), hB1_8, h_ys, ho0_4, hB0_4, hl702, h_xs, (by first | assumption | (intro b hb; simp [Value.ownBlock] at hb; done) | (intro b _ e; simp [Value.ownBlock] at e; done)), (by first | assumption | (intro b hb; simp [Value.ownBlock] at hb; done) | (intro b _ e; simp [Value.ownBlock] at e; done))⟩
          · have hp765 : (k : Int) - 1 < (0 : Int) := by first | simpa using hc728 | (have e := hc728; simp at e; omega)
            obtain rfl : k = 0 := by omega
            refine cw_exit (thenQ_x (thenQ_x (blockQ_x (thenQ_n (?_)))))
            refine cw_seq (?_)
            refine cw_draw' 8 _ _ [fun v w => RdL Enc.u8 w (Bl1 ++ O) v (ys), fun v _ => v = vI ((i : Nat) : Int), fun v w => ∃ a, v = .pointer (some a) ∧ PT Enc.u8 w (Bl1 ++ O) (.pointer (some a)) (ys[i]!), fun v _ => v = vB (ys[i]!), fun v _ => v = vo1_8, fun v _ => v = vB (xs[i]!), fun v _ => v = vB (pev (sdQ (coQ (zeros xs) xs xs.length i) (zeros xs) xs[i]! xs.length (xs.length - 0)) (xs[i]!)), fun v _ => v = vB (ginv (pev (sdQ (coQ (zeros xs) xs xs.length i) (zeros xs) xs[i]! xs.length (xs.length - 0)) (xs[i]!)))] (by kernel_rfl) (by kernel_rfl) (by kernel_rfl) (by kernel_rfl) rfl rfl ⟨fun _ _ _ h k => h.mv (Mv.of_keep k), fun _ _ _ h _ => h, fun _ _ _ ⟨a, e, h⟩ k => ⟨a, e, h.mv (Mv.of_keep k)⟩, fun _ _ _ h _ => h, fun _ _ _ h _ => h, fun _ _ _ h _ => h, fun _ _ _ h _ => h, fun _ _ _ h _ => h, trivial⟩ ⟨?_, ?_, ?_, ?_, ?_, ?_, ?_, ?_, trivial⟩ ?_
            · intro F1 w1 k1 hf hd
              have k0 := (Keep.drew [] wl1).trans k1
              have s1 := sl1.call k0
              have m1 : Mv Bl1 wl1 Bl1 w1 := Mv.of_keep k0
              have h_ys := h_ys.mv m1
              obtain ⟨F2, rfl⟩ := lit_of (F := F1) [(1, ys_v)] ⟨hf 1 (by kernel_rfl), trivial⟩
              exact sp_plain rfl ((o_move (ys_v) rfl (⟨(Keep.refl _ _), h_ys⟩)))
            · intro F1 w1 k1 hf hd
              have k0 := (Keep.drew [] wl1).trans k1
              have s1 := sl1.call k0
              have m1 : Mv Bl1 wl1 Bl1 w1 := Mv.of_keep k0
              obtain ⟨F2, rfl⟩ := lit_of (F := F1) [(9, vI ((i : Nat) : Int))] ⟨hf 9 (by kernel_rfl), trivial⟩
              exact sp_plain rfl ((o_move (vI ((i : Nat) : Int)) rfl (⟨(Keep.refl _ _), rfl⟩)))
            · intro F1 w1 k1 hf hd
              have k0 := (Keep.drew [] wl1).trans k1
              have s1 := sl1.call k0
              have m1 : Mv Bl1 wl1 Bl1 w1 := Mv.of_keep k0
              obtain ⟨v766, e768, hl767⟩ : ∃ v, F1 52 = v ∧ RdL Enc.u8 w1 (Bl1 ++ O) v (ys) := ⟨_, rfl, hd 0 52 (by kernel_rfl)⟩
              have := hl767.len_le
              obtain ⟨F2, rfl⟩ := lit_of (F := F1) [(52, v766), (53, vI ((i : Nat) : Int))] ⟨e768, hd 1 53 (by kernel_rfl), trivial⟩
              exact sp_plain rfl ((o_idx Try.underlying28 s_5 .i64 ((i : Nat) : Int) i rfl rfl rfl hl767 (by omega) fun a769 hp770 => (⟨(Keep.refl _ _), ⟨a769, rfl, hp770⟩⟩)))
            · intro F1 w1 k1 hf hd
              have k0 := (Keep.drew [] wl1).trans k1
              have s1 := sl1.call k0
              have m1 : Mv Bl1 wl1 Bl1 w1 := Mv.of_keep k0
              obtain ⟨a771, e773, hp772⟩ : ∃ a, F1 54 = .pointer (some a) ∧ PT Enc.u8 w1 (Bl1 ++ O) (.pointer (some a)) (ys[i]!) := hd 2 54 (by kernel_rfl)
              obtain ⟨F2, rfl⟩ := lit_of (F := F1) [(54, .pointer (some a771))] ⟨e773, trivial⟩
              exact sp_plain rfl ((o_loadB Try.underlying5 rfl rfl hp772 (⟨(Keep.refl _ _), rfl⟩)))
            · intro F1 w1 k1 hf hd
              have k0 := (Keep.drew [] wl1).trans k1
              have s1 := sl1.call k0
              have m1 : Mv Bl1 wl1 Bl1 w1 := Mv.of_keep k0
              have ho1_8 := ho1_8.mv m1 k0 (by simp)
              obtain ⟨F2, rfl⟩ := lit_of (F := F1) [(8, vo1_8)] ⟨hf 8 (by kernel_rfl), trivial⟩
              exact sp_plain rfl ((o_move (vo1_8) rfl (⟨(Keep.refl _ _), rfl⟩)))
            · intro F1 w1 k1 hf hd
              have k0 := (Keep.drew [] wl1).trans k1
              have s1 := sl1.call k0
              have m1 : Mv Bl1 wl1 Bl1 w1 := Mv.of_keep k0
              obtain ⟨F2, rfl⟩ := lit_of (F := F1) [(10, vB (xs[i]!))] ⟨hf 10 (by kernel_rfl), trivial⟩
              exact sp_plain rfl ((o_move (vB (xs[i]!)) rfl (⟨(Keep.refl _ _), rfl⟩)))
            · intro F1 w1 k1 hf hd
              have k0 := (Keep.drew [] wl1).trans k1
              have s1 := sl1.call k0
              have m1 : Mv Bl1 wl1 Bl1 w1 := Mv.of_keep k0
              have ho1_8 := ho1_8.mv m1 k0 (by simp)
              obtain ⟨F2, rfl⟩ := lit_of (F := F1) [(56, vo1_8), (57, vB (xs[i]!))] ⟨hd 4 56 (by kernel_rfl), hd 5 57 (by kernel_rfl), trivial⟩
              refine sp_plain rfl ((o_callK (vs := [vo1_8, vB (xs[i]!)]) enter_26 (c_eval (O := []) vo1_8 (sdQ (coQ (zeros xs) xs xs.length i) (zeros xs) xs[i]! xs.length (xs.length - 0)) (xs[i]!) w1 ho1_8.rd0 no_blocks) rfl s1 fun v774 w775 s776 m777 k778 r779 => (?_)))
              obtain rfl := r779
              have ho1_8 := ho1_8.mv m777 k778 (by simp)
              exact ⟨k778, rfl⟩
            · intro F1 w1 k1 hf hd
              have k0 := (Keep.drew [] wl1).trans k1
              have s1 := sl1.call k0
              have m1 : Mv Bl1 wl1 Bl1 w1 := Mv.of_keep k0
              obtain ⟨F2, rfl⟩ := lit_of (F := F1) [(58, vB (pev (sdQ (coQ (zeros xs) xs xs.length i) (zeros xs) xs[i]! xs.length (xs.length - 0)) (xs[i]!)))] ⟨hd 6 58 (by kernel_rfl), trivial⟩
              refine sp_plain rfl ((o_callK (vs := [vB (pev (sdQ (coQ (zeros xs) xs xs.length i) (zeros xs) xs[i]! xs.length (xs.length - 0)) (xs[i]!))]) enter_42 (c_inverse (O := Bl1 ++ O) (pev (sdQ (coQ (zeros xs) xs xs.length i) (zeros xs) xs[i]! xs.length (xs.length - 0)) (xs[i]!)) w1 s1.lt) rfl s1 fun v780 w781 s782 m783 k784 r785 => (?_)))
              obtain rfl := r785
              exact ⟨k784, rfl⟩
            intro F787 w788 k786 hT789 hF790
            have s791 := sl1.call k786
            have m792 : Mv Bl1 wl1 Bl1 w788 := Mv.of_keep k786
            have h_ys := h_ys.mv m792
            have ho0_4 := ho0_4.mv m792 k786 (by simp)
            have hl702 := hl702.mv m792
            have ho1_8 := ho1_8.mv m792 k786 (by simp)
            have h_xs := h_xs.mv m792
            obtain ⟨v794, e796, hl795⟩ : ∃ v, F787 52 = v ∧ RdL Enc.u8 w788 (Bl1 ++ O) v (ys) := ⟨_, rfl, hT789 0 52 (by kernel_rfl) (by decide)⟩
            have := hl795.len_le
            obtain ⟨a797, e799, hp798⟩ : ∃ a, F787 54 = .pointer (some a) ∧ PT Enc.u8 w788 (Bl1 ++ O) (.pointer (some a)) (ys[i]!) := hT789 2 54 (by kernel_rfl) (by decide)
            obtain ⟨F2, rfl⟩ := lit_of (F := F787) [(1, ys_v), (4, vo0_4), (6, vI (xs.length : Int)), (7, v696), (8, vo1_8), (9, vI ((i : Nat) : Int)), (10, vB (xs[i]!)), (11, vB (sdC (zeros xs) xs[i]! xs.length (xs.length - 0))), (12, vI ((0 : Int) - 1)), (26, xs_v), (27, vI (xs.length : Int)), (28, vI ((i : Nat) : Int)), (35, vI ((0 : Int) - 1)), (36, .bool (decide ((0 : Int) ≤ (0 : Int) - 1))), (81, undef), (52, v794), (53, vI ((i : Nat) : Int)), (54, .pointer (some a797)), (55, vB (ys[i]!)), (56, vo1_8), (57, vB (xs[i]!)), (58, vB (pev (sdQ (coQ (zeros xs) xs xs.length i) (zeros xs) xs[i]! xs.length (xs.length - 0)) (xs[i]!))), (59, vB (ginv (pev (sdQ (coQ (zeros xs) xs xs.length i) (zeros xs) xs[i]! xs.length (xs.length - 0)) (xs[i]!))))] ⟨hF790 1 (by kernel_rfl), hF790 4 (by kernel_rfl), hF790 6 (by kernel_rfl), hF790 7 (by kernel_rfl), hF790 8 (by kernel_rfl), hF790 9 (by kernel_rfl), hF790 10 (by kernel_rfl), hF790 11 (by kernel_rfl), hF790 12 (by kernel_rfl), hF790 26 (by kernel_rfl), hF790 27 (by kernel_rfl), hF790 28 (by kernel_rfl), hF790 35 (by kernel_rfl), hF790 36 (by kernel_rfl), hF790 81 (by kernel_rfl), e796, hT789 1 53 (by kernel_rfl) (by decide), e799, hT789 3 55 (by kernel_rfl) (by decide), hT789 4 56 (by kernel_rfl) (by decide), hT789 5 57 (by kernel_rfl) (by decide), hT789 6 58 (by kernel_rfl) (by decide), hT789 7 59 (by kernel_rfl) (by decide), trivial⟩
            clear hT789 hF790
            refine wl_s (o_callK (vs := [vB (ys[i]!), vB (ginv (pev (sdQ (coQ (zeros xs) xs xs.length i) (zeros xs) xs[i]! xs.length (xs.length - 0)) (xs[i]!)))]) enter_20 (c_mul (O := Bl1 ++ O) (ys[i]!) (ginv (pev (sdQ (coQ (zeros xs) xs xs.length i) (zeros xs) xs[i]! xs.length (xs.length - 0)) (xs[i]!))) w788 s791.lt) rfl s791 fun v800 w801 s802 m803 k804 r805 => (?_))
            obtain rfl := r805
            have h_ys := h_ys.mv m803
            have ho0_4 := ho0_4.mv m803 k804 (by simp)
            have hl702 := hl702.mv m803
            have ho1_8 := ho1_8.mv m803 k804 (by simp)
            have h_xs := h_xs.mv m803
            have hl795 := hl795.mv m803
            have hp798 := hp798.mv m803
            refine wl_s (o_assign (vB (gmul (ys[i]!) (ginv (pev (sdQ (coQ (zeros xs) xs xs.length i) (zeros xs) xs[i]! xs.length (xs.length - 0)) (xs[i]!))))) rfl (wl_nil (thenQ_n (?_))))
            refine cw_seq (?_)
            refine cw_region (by kernel_rfl) (wl_s (o_move (vo0_4) rfl (wl_s (o_lenO Try.underlying28 rfl ho0_4 (wl_s (o_move (vI (0 : Int)) rfl (wl_nil (thenQ_n (?_)))))))))
            refine cw_block (?_)
            have hcl := coL_len (zeros xs) xs ys xs.length i
            refine cw_loop (fun mI FI wI => ∃ (j : Nat) (vo2_4 : Value) (B : List Nat), j ≤ xs.length ∧ mI = xs.length - j ∧ (∃ F1, FI = upds F1 [(1, ys_v), (4, vo2_4), (6, vI (xs.length : Int)), (7, v696), (8, vo1_8), (13, vB (gmul (ys[i]!) (ginv (pev (sdQ (coQ (zeros xs) xs xs.length i) (zeros xs) xs[i]! xs.length (xs.length - 0)) (xs[i]!))))), (26, xs_v), (27, vI (xs.length : Int)), (28, vI ((i : Nat) : Int)), (62, vI ((coL (zeros xs) xs ys xs.length i).length : Int)), (63, vI ((j : Nat) : Int)), (81, undef)]) ∧ St w O wI B ∧ Own Enc.u8 5 w.heap.size (B ++ O) wI vo2_4 (adF (coL (zeros xs) xs ys xs.length i) (sdQ (coQ (zeros xs) xs xs.length i) (zeros xs) xs[i]! xs.length (xs.length - 0)) (gmul ys[i]! (ginv (pev (sdQ (coQ (zeros xs) xs xs.length i) (zeros xs) xs[i]! xs.length (xs.length - 0)) xs[i]!))) j) ∧ (∀ b, vo2_4.ownBlock = some b → b ∈ B) ∧ RdL Enc.u8 wI (B ++ O) (ys_v) (ys) ∧ RdL Enc.u8 wI (B ++ O) (v696) (zeros xs) ∧ Own Enc.u8 5 w.heap.size (B ++ O) wI vo1_8 (sdQ (coQ (zeros xs) xs xs.length i) (zeros xs) xs[i]! xs.length (xs.length - 0)) ∧ (∀ b, vo1_8.ownBlock = some b → b ∈ B) ∧ RdL Enc.u8 wI (B ++ O) (xs_v) (xs) ∧ (∀ b, vo2_4.ownBlock = some b → vo1_8.ownBlock ≠ some b) ∧ (∀ b, vo1_8.ownBlock = some b → vo2_4.ownBlock ≠ some b)) (xs.length - (0)) ?_ ?_
            · exact ⟨(0), vo0_4, Bl1, (by first | omega | (simp; done) | (simp; omega) | simp_all), rfl, ⟨_, upds_self _ ⟨rfl, rfl, rfl, rfl, rfl, rfl, rfl, rfl, rfl, rfl, (by first | rfl | exact congrArg (Value.int _) (by first | omega | (simp))), rfl, trivial⟩⟩, s802, (by rw [show adF (coL (zeros xs) xs ys xs.length i) (sdQ (coQ (zeros xs) xs xs.length i) (zeros xs) xs[i]! xs.length (xs.length - 0)) (gmul ys[i]! (ginv (pev (sdQ (coQ (zeros xs) xs xs.length i) (zeros xs) xs[i]! xs.length (xs.length - 0)) xs[i]!))) (0) = coL (zeros xs) xs ys xs.length i from rfl]; exact ho0_4), hB0_4, h_ys, hl702, ho1_8, hB1_8, h_xs, (by first | assumption | (intro b hb; simp [Value.ownBlock] at hb; done) | (intro b _ e; simp [Value.ownBlock] at e; done)), (by first | assumption | (intro b hb; simp [Value.ownBlock] at hb; done) | (intro b _ e; simp [Value.ownBlock] at e; done))⟩
            · intro ml2 F wl2 hI
              clear h_ys hl702 ho1_8 hB1_8 h_xs
              obtain ⟨j, vo2_4, Bl2, hr2_0, hm2, ⟨Fl2, rfl⟩, sl2, ho2_4, hB2_4, h_ys, hl702, ho1_8, hB1_8, h_xs, no2_4_vo1_8, np2_4_vo1_8⟩ := hI
              refine cw_seq (?_)
              refine cw_region (by kernel_rfl) (wl_s (o_lss .i64 ((j : Nat) : Int) ((coL (zeros xs) xs ys xs.length i).length : Int) rfl rfl (wl_nil (thenQ_n (?_)))))
              refine cw_seq (?_)
              refine cw_cond (decide (((j : Nat) : Int) < ((coL (zeros xs) xs ys xs.length i).length : Int))) rfl rfl (fun hc806 => ?_) (fun hc806 => ?_)
              · have hp807 : ((j : Nat) : Int) < ((coL (zeros xs) xs ys xs.length i).length : Int) := by first | simpa using hc806 | (have e := hc806; simp at e; omega)
                refine cw_skip (thenQ_n (?_))
                refine cw_seq (?_)
                refine cw_block (?_)
                refine cw_seq (?_)
                refine cw_region (by kernel_rfl) (wl_s (o_move (vI ((j : Nat) : Int)) rfl (wl_s (o_assign (vI ((j : Nat) : Int)) rfl (wl_nil (thenQ_n (?_)))))))
                refine cw_draw' 10 _ _ [fun v _ => v = vo2_4, fun v _ => v = vI ((j : Nat) : Int), fun v w => ∃ b, v = .pointer (some ⟨b, j * 1, none⟩) ∧ vo2_4.ownBlock = some b, fun v _ => v = vB ((adF (coL (zeros xs) xs ys xs.length i) (sdQ (coQ (zeros xs) xs xs.length i) (zeros xs) xs[i]! xs.length (xs.length - 0)) (gmul ys[i]! (ginv (pev (sdQ (coQ (zeros xs) xs xs.length i) (zeros xs) xs[i]! xs.length (xs.length - 0)) xs[i]!))) j)[j]!), fun v _ => v = vo1_8, fun v _ => v = vI ((j : Nat) : Int), fun v w => ∃ b, v = .pointer (some ⟨b, j * 1, none⟩) ∧ vo1_8.ownBlock = some b, fun v _ => v = vB ((sdQ (coQ (zeros xs) xs xs.length i) (zeros xs) xs[i]! xs.length (xs.length - 0))[j]!), fun v _ => v = vB (gmul (ys[i]!) (ginv (pev (sdQ (coQ (zeros xs) xs xs.length i) (zeros xs) xs[i]! xs.length (xs.length - 0)) (xs[i]!)))), fun v _ => v = vB (gmul ((sdQ (coQ (zeros xs) xs xs.length i) (zeros xs) xs[i]! xs.length (xs.length - 0))[j]!) (gmul (ys[i]!) (ginv (pev (sdQ (coQ (zeros xs) xs xs.length i) (zeros xs) xs[i]! xs.length (xs.length - 0)) (xs[i]!)))))] (by kernel_rfl) (by kernel_rfl) (by kernel_rfl) (by kernel_rfl) rfl rfl ⟨fun _ _ _ h _ => h, fun _ _ _ h _ => h, fun _ _ _ h _ => h, fun _ _ _ h _ => h, fun _ _ _ h _ => h, fun _ _ _ h _ => h, fun _ _ _ h _ => h, fun _ _ _ h _ => h, fun _ _ _ h _ => h, fun _ _ _ h _ => h, trivial⟩ ⟨?_, ?_, ?_, ?_, ?_, ?_, ?_, ?_, ?_, ?_, trivial⟩ ?_
                · intro F1 w1 k1 hf hd
                  have k0 := (Keep.drew [] wl2).trans k1
                  have s1 := sl2.call k0
                  have m1 : Mv Bl2 wl2 Bl2 w1 := Mv.of_keep k0
                  have ho2_4 := ho2_4.mv m1 k0 (by simp)
                  obtain ⟨F2, rfl⟩ := lit_of (F := F1) [(4, vo2_4)] ⟨hf 4 (by kernel_rfl), trivial⟩
                  exact sp_plain rfl ((o_move (vo2_4) rfl (⟨(Keep.refl _ _), rfl⟩)))
                · intro F1 w1 k1 hf hd
                  have k0 := (Keep.drew [] wl2).trans k1
                  have s1 := sl2.call k0
                  have m1 : Mv Bl2 wl2 Bl2 w1 := Mv.of_keep k0
                  obtain ⟨F2, rfl⟩ := lit_of (F := F1) [(14, vI ((j : Nat) : Int))] ⟨hf 14 (by kernel_rfl), trivial⟩
                  exact sp_plain rfl ((o_move (vI ((j : Nat) : Int)) rfl (⟨(Keep.refl _ _), rfl⟩)))
                · intro F1 w1 k1 hf hd
                  have k0 := (Keep.drew [] wl2).trans k1
                  have s1 := sl2.call k0
                  have m1 : Mv Bl2 wl2 Bl2 w1 := Mv.of_keep k0
                  have ho2_4 := ho2_4.mv m1 k0 (by simp)
                  obtain ⟨F2, rfl⟩ := lit_of (F := F1) [(66, vo2_4), (67, vI ((j : Nat) : Int))] ⟨hd 0 66 (by kernel_rfl), hd 1 67 (by kernel_rfl), trivial⟩
                  exact sp_plain rfl ((o_indexO Try.underlying28 s_5 .i64 ((j : Nat) : Int) j rfl rfl rfl ho2_4 (by first | omega | (simp only [List.length_set, List.length_append, List.length_cons, List.length_nil, List.length_replicate, coL_len, coQ_len, sdQ_len, adF_len, zeros_len]; omega)) fun b808 hb809 => (⟨(Keep.refl _ _), ⟨_, rfl, hb809⟩⟩)))
                · intro F1 w1 k1 hf hd
                  have k0 := (Keep.drew [] wl2).trans k1
                  have s1 := sl2.call k0
                  have m1 : Mv Bl2 wl2 Bl2 w1 := Mv.of_keep k0
                  have ho2_4 := ho2_4.mv m1 k0 (by simp)
                  obtain ⟨b810, e812, hb811⟩ : ∃ b, F1 68 = .pointer (some ⟨b, j * 1, none⟩) ∧ vo2_4.ownBlock = some b := hd 2 68 (by kernel_rfl)
                  obtain ⟨F2, rfl⟩ := lit_of (F := F1) [(68, .pointer (some ⟨b810, j * 1, none⟩))] ⟨e812, trivial⟩
                  exact sp_plain rfl ((o_loadO8 Try.underlying5 rfl rfl ho2_4 hb811 (by first | omega | (simp only [List.length_set, List.length_append, List.length_cons, List.length_nil, List.length_replicate, coL_len, coQ_len, sdQ_len, adF_len, zeros_len]; omega)) (⟨(Keep.refl _ _), rfl⟩)))
                · intro F1 w1 k1 hf hd
                  have k0 := (Keep.drew [] wl2).trans k1
                  have s1 := sl2.call k0
                  have m1 : Mv Bl2 wl2 Bl2 w1 := Mv.of_keep k0
                  have ho1_8 := ho1_8.mv m1 k0 (by simp)
                  obtain ⟨F2, rfl⟩ := lit_of (F := F1) [(8, vo1_8)] ⟨hf 8 (by kernel_rfl), trivial⟩
                  exact sp_plain rfl ((o_move (vo1_8) rfl (⟨(Keep.refl _ _), rfl⟩)))
                · intro F1 w1 k1 hf hd
                  have k0 := (Keep.drew [] wl2).trans k1
                  have s1 := sl2.call k0
                  have m1 : Mv Bl2 wl2 Bl2 w1 := Mv.of_keep k0
                  obtain ⟨F2, rfl⟩ := lit_of (F := F1) [(14, vI ((j : Nat) : Int))] ⟨hf 14 (by kernel_rfl), trivial⟩
                  exact sp_plain rfl ((o_move (vI ((j : Nat) : Int)) rfl (⟨(Keep.refl _ _), rfl⟩)))
                · intro F1 w1 k1 hf hd
                  have k0 := (Keep.drew [] wl2).trans k1
                  have s1 := sl2.call k0
                  have m1 : Mv Bl2 wl2 Bl2 w1 := Mv.of_keep k0
                  have ho1_8 := ho1_8.mv m1 k0 (by simp)
                  obtain ⟨F2, rfl⟩ := lit_of (F := F1) [(70, vo1_8), (71, vI ((j : Nat) : Int))] ⟨hd 4 70 (by kernel_rfl), hd 5 71 (by kernel_rfl), trivial⟩
                  exact sp_plain rfl ((o_indexO Try.underlying28 s_5 .i64 ((j : Nat) : Int) j rfl rfl rfl ho1_8 (by first | omega | (simp only [List.length_set, List.length_append, List.length_cons, List.length_nil, List.length_replicate, coL_len, coQ_len, sdQ_len, adF_len, zeros_len]; omega)) fun b813 hb814 => (⟨(Keep.refl _ _), ⟨_, rfl, hb814⟩⟩)))
                · intro F1 w1 k1 hf hd
                  have k0 := (Keep.drew [] wl2).trans k1
                  have s1 := sl2.call k0
                  have m1 : Mv Bl2 wl2 Bl2 w1 := Mv.of_keep k0
                  have ho1_8 := ho1_8.mv m1 k0 (by simp)
                  obtain ⟨b815, e817, hb816⟩ : ∃ b, F1 72 = .pointer (some ⟨b, j * 1, none⟩) ∧ vo1_8.ownBlock = some b := hd 6 72 (by kernel_rfl)
                  obtain ⟨F2, rfl⟩ := lit_of (F := F1) [(72, .pointer (some ⟨b815, j * 1, none⟩))] ⟨e817, trivial⟩
                  exact sp_plain rfl ((o_loadO8 Try.underlying5 rfl rfl ho1_8 hb816 (by first | omega | (simp only [List.length_set, List.length_append, List.length_cons, List.length_nil, List.length_replicate, coL_len, coQ_len, sdQ_len, adF_len, zeros_len]; omega)) (⟨(Keep.refl _ _), rfl⟩)))
                · intro F1 w1 k1 hf hd
                  have k0 := (Keep.drew [] wl2).trans k1
                  have s1 := sl2.call k0
                  have m1 : Mv Bl2 wl2 Bl2 w1 := Mv.of_keep k0
                  obtain ⟨F2, rfl⟩ := lit_of (F := F1) [(13, vB (gmul (ys[i]!) (ginv (pev (sdQ (coQ (zeros xs) xs xs.length i) (zeros xs) xs[i]! xs.length (xs.length - 0)) (xs[i]!)))))] ⟨hf 13 (by kernel_rfl), trivial⟩
                  exact sp_plain rfl ((o_move (vB (gmul (ys[i]!) (ginv (pev (sdQ (coQ (zeros xs) xs xs.length i) (zeros xs) xs[i]! xs.length (xs.length - 0)) (xs[i]!))))) rfl (⟨(Keep.refl _ _), rfl⟩)))
                · intro F1 w1 k1 hf hd
                  have k0 := (Keep.drew [] wl2).trans k1
                  have s1 := sl2.call k0
                  have m1 : Mv Bl2 wl2 Bl2 w1 := Mv.of_keep k0
                  obtain ⟨F2, rfl⟩ := lit_of (F := F1) [(73, vB ((sdQ (coQ (zeros xs) xs xs.length i) (zeros xs) xs[i]! xs.length (xs.length - 0))[j]!)), (74, vB (gmul (ys[i]!) (ginv (pev (sdQ (coQ (zeros xs) xs xs.length i) (zeros xs) xs[i]! xs.length (xs.length - 0)) (xs[i]!)))))] ⟨hd 7 73 (by kernel_rfl), hd 8 74 (by kernel_rfl), trivial⟩
                  refine sp_plain rfl ((o_callK (vs := [vB ((sdQ (coQ (zeros xs) xs xs.length i) (zeros xs) xs[i]! xs.length (xs.length - 0))[j]!), vB (gmul (ys[i]!) (ginv (pev (sdQ (coQ (zeros xs) xs xs.length i) (zeros xs) xs[i]! xs.length (xs.length - 0)) (xs[i]!))))]) enter_20 (c_mul (O := Bl2 ++ O) ((sdQ (coQ (zeros xs) xs xs.length i) (zeros xs) xs[i]! xs.length (xs.length - 0))[j]!) (gmul (ys[i]!) (ginv (pev (sdQ (coQ (zeros xs) xs xs.length i) (zeros xs) xs[i]! xs.length (xs.length - 0)) (xs[i]!)))) w1 s1.lt) rfl s1 fun v818 w819 s820 m821 k822 r823 => (?_)))
                  obtain rfl := r823
                  exact ⟨k822, rfl⟩
                intro F825 w826 k824 hT827 hF828
                have s829 := sl2.call k824
                have m830 : Mv Bl2 wl2 Bl2 w826 := Mv.of_keep k824
                have h_ys := h_ys.mv m830
                have ho2_4 := ho2_4.mv m830 k824 (by simp)
                have hl702 := hl702.mv m830
                have ho1_8 := ho1_8.mv m830 k824 (by simp)
                have h_xs := h_xs.mv m830
                obtain ⟨b832, e834, hb833⟩ : ∃ b, F825 68 = .pointer (some ⟨b, j * 1, none⟩) ∧ vo2_4.ownBlock = some b := hT827 2 68 (by kernel_rfl) (by decide)
                obtain ⟨b835, e837, hb836⟩ : ∃ b, F825 72 = .pointer (some ⟨b, j * 1, none⟩) ∧ vo1_8.ownBlock = some b := hT827 6 72 (by kernel_rfl) (by decide)
                obtain ⟨F2, rfl⟩ := lit_of (F := F825) [(1, ys_v), (4, vo2_4), (6, vI (xs.length : Int)), (7, v696), (8, vo1_8), (13, vB (gmul (ys[i]!) (ginv (pev (sdQ (coQ (zeros xs) xs xs.length i) (zeros xs) xs[i]! xs.length (xs.length - 0)) (xs[i]!))))), (14, vI ((j : Nat) : Int)), (26, xs_v), (27, vI (xs.length : Int)), (28, vI ((i : Nat) : Int)), (62, vI ((coL (zeros xs) xs ys xs.length i).length : Int)), (63, vI ((j : Nat) : Int)), (64, .bool (decide (((j : Nat) : Int) < ((coL (zeros xs) xs ys xs.length i).length : Int)))), (65, vI ((j : Nat) : Int)), (81, undef), (66, vo2_4), (67, vI ((j : Nat) : Int)), (68, .pointer (some ⟨b832, j * 1, none⟩)), (69, vB ((adF (coL (zeros xs) xs ys xs.length i) (sdQ (coQ (zeros xs) xs xs.length i) (zeros xs) xs[i]! xs.length (xs.length - 0)) (gmul ys[i]! (ginv (pev (sdQ (coQ (zeros xs) xs xs.length i) (zeros xs) xs[i]! xs.length (xs.length - 0)) xs[i]!))) j)[j]!)), (70, vo1_8), (71, vI ((j : Nat) : Int)), (72, .pointer (some ⟨b835, j * 1, none⟩)), (73, vB ((sdQ (coQ (zeros xs) xs xs.length i) (zeros xs) xs[i]! xs.length (xs.length - 0))[j]!)), (74, vB (gmul (ys[i]!) (ginv (pev (sdQ (coQ (zeros xs) xs xs.length i) (zeros xs) xs[i]! xs.length (xs.length - 0)) (xs[i]!))))), (75, vB (gmul ((sdQ (coQ (zeros xs) xs xs.length i) (zeros xs) xs[i]! xs.length (xs.length - 0))[j]!) (gmul (ys[i]!) (ginv (pev (sdQ (coQ (zeros xs) xs xs.length i) (zeros xs) xs[i]! xs.length (xs.length - 0)) (xs[i]!))))))] ⟨hF828 1 (by kernel_rfl), hF828 4 (by kernel_rfl), hF828 6 (by kernel_rfl), hF828 7 (by kernel_rfl), hF828 8 (by kernel_rfl), hF828 13 (by kernel_rfl), hF828 14 (by kernel_rfl), hF828 26 (by kernel_rfl), hF828 27 (by kernel_rfl), hF828 28 (by kernel_rfl), hF828 62 (by kernel_rfl), hF828 63 (by kernel_rfl), hF828 64 (by kernel_rfl), hF828 65 (by kernel_rfl), hF828 81 (by kernel_rfl), hT827 0 66 (by kernel_rfl) (by decide), hT827 1 67 (by kernel_rfl) (by decide), e834, hT827 3 69 (by kernel_rfl) (by decide), hT827 4 70 (by kernel_rfl) (by decide), hT827 5 71 (by kernel_rfl) (by decide), e837, hT827 7 73 (by kernel_rfl) (by decide), hT827 8 74 (by kernel_rfl) (by decide), hT827 9 75 (by kernel_rfl) (by decide), trivial⟩
                clear hT827 hF828
                refine wl_s (o_xor8 ((adF (coL (zeros xs) xs ys xs.length i) (sdQ (coQ (zeros xs) xs xs.length i) (zeros xs) xs[i]! xs.length (xs.length - 0)) (gmul ys[i]! (ginv (pev (sdQ (coQ (zeros xs) xs xs.length i) (zeros xs) xs[i]! xs.length (xs.length - 0)) xs[i]!))) j)[j]!) (gmul ((sdQ (coQ (zeros xs) xs xs.length i) (zeros xs) xs[i]! xs.length (xs.length - 0))[j]!) (gmul (ys[i]!) (ginv (pev (sdQ (coQ (zeros xs) xs xs.length i) (zeros xs) xs[i]! xs.length (xs.length - 0)) (xs[i]!))))) rfl rfl (wl_s (o_indexO Try.underlying28 s_5 .i64 ((j : Nat) : Int) j rfl rfl rfl ho2_4 (by first | omega | (simp only [List.length_set, List.length_append, List.length_cons, List.length_nil, List.length_replicate, coL_len, coQ_len, sdQ_len, adF_len, zeros_len]; omega)) fun b838 hb839 => (wl_n (o_storeO (((adF (coL (zeros xs) xs ys xs.length i) (sdQ (coQ (zeros xs) xs xs.length i) (zeros xs) xs[i]! xs.length (xs.length - 0)) (gmul ys[i]! (ginv (pev (sdQ (coQ (zeros xs) xs xs.length i) (zeros xs) xs[i]! xs.length (xs.length - 0)) xs[i]!))) j)[j]!) ^^^ (gmul ((sdQ (coQ (zeros xs) xs xs.length i) (zeros xs) xs[i]! xs.length (xs.length - 0))[j]!) (gmul (ys[i]!) (ginv (pev (sdQ (coQ (zeros xs) xs xs.length i) (zeros xs) xs[i]! xs.length (xs.length - 0)) (xs[i]!)))))) s_5 rfl rfl rfl ho2_4 hb839 (hB2_4 _ hb839) (by first | omega | (simp only [List.length_set, List.length_append, List.length_cons, List.length_nil, List.length_replicate, coL_len, coQ_len, sdQ_len, adF_len, zeros_len]; omega)) rfl s829 fun w840 s841 m842 k843 bx844 => (?_))))))
                have h_ys := h_ys.mv m842
                have hl702 := hl702.mv m842
                have ho1_8 := ho1_8.mv m842 k843 (fun b hb => by simp only [List.mem_singleton]; rintro rfl; exact absurd hb839 (by apply_assumption; assumption))
                have h_xs := h_xs.mv m842
                refine wl_nil (blockQ_n (thenQ_n (?_)))
                refine cw_region (by kernel_rfl) (wl_s (o_add .i64 ((j : Nat) : Int) (1 : Int) (((j + 1 : Nat) : Int)) rfl rfl (w64 (by omega) (by omega)) (wl_s (o_move (vI ((j + 1 : Nat) : Int)) rfl (wl_nil (thenQ_n (?_)))))))
                exact ⟨_, (by omega), (j + 1), vo2_4, Bl2, (by first | omega | (simp; done) | (simp; omega) | simp_all), rfl, ⟨_, upds_self _ ⟨rfl, rfl, rfl, rfl, rfl, rfl, rfl, rfl, rfl, rfl, (by first | rfl | exact congrArg (Value.int _) (by first | omega | (simp))), rfl, trivial⟩⟩, s841, (by rw [show adF (coL (zeros xs) xs ys xs.length i) (sdQ (coQ (zeros xs) xs xs.length i) (zeros xs) xs[i]! xs.length (xs.length - 0)) (gmul ys[i]! (ginv (pev (sdQ (coQ (zeros xs) xs xs.length i) (zeros xs) xs[i]! xs.length (xs.length - 0)) xs[i]!))) (j + 1) = (adF (coL (zeros xs) xs ys xs.length i) (sdQ (coQ (zeros xs) xs xs.length i) (zeros xs) xs[i]! xs.length (xs.length - 0)) (gmul ys[i]! (ginv (pev (sdQ (coQ (zeros xs) xs xs.length i) (zeros xs) xs[i]! xs.length (xs.length - 0)) xs[i]!))) j).set j (((adF (coL (zeros xs) xs ys xs.length i) (sdQ (coQ (zeros xs) xs xs.length i) (zeros xs) xs[i]! xs.length (xs.length - 0)) (gmul ys[i]! (ginv (pev (sdQ (coQ (zeros xs) xs xs.length i) (zeros xs) xs[i]! xs.length (xs.length - 0)) xs[i]!))) j)[j]!) ^^^ (gmul ((sdQ (coQ (zeros xs) xs xs.length i) (zeros xs) xs[i]! xs.length (xs.length - 0))[j]!) (gmul (ys[i]!) (ginv (pev (sdQ (coQ (zeros xs) xs xs.length i) (zeros xs) xs[i]! xs.length (xs.length - 0)) (xs[i]!)))))) from rfl]; exact bx844), hB2_4, h_ys, hl702, ho1_8, hB1_8, h_xs, (by first | assumption | (intro b hb; simp [Value.ownBlock] at hb; done) | (intro b _ e; simp [Value.ownBlock] at e; done)), (by first | assumption | (intro b hb; simp [Value.ownBlock] at hb; done) | (intro b _ e; simp [Value.ownBlock] at e; done))⟩
              · have hp845 : ((coL (zeros xs) xs ys xs.length i).length : Int) ≤ ((j : Nat) : Int) := by first | simpa using hc806 | (have e := hc806; simp at e; omega)
                obtain rfl : j = xs.length := by omega
                refine cw_exit (thenQ_x (thenQ_x (blockQ_x (blockQ_n (thenQ_n (?_))))))
                refine cw_region (by kernel_rfl) (wl_s (o_add .i64 ((i : Nat) : Int) (1 : Int) (((i + 1 : Nat) : Int)) rfl rfl (w64 (by omega) (by omega)) (wl_s (o_move (vI ((i + 1 : Nat) : Int)) rfl (wl_nil (thenQ_n (?_)))))))
                exact ⟨_, (by omega), (i + 1), vo2_4, vo1_8, Bl2, (by first | omega | (simp; done) | (simp; omega) | simp_all), rfl, ⟨_, upds_self _ ⟨rfl, rfl, rfl, rfl, rfl, rfl, rfl, (by first | rfl | exact congrArg (Value.int _) (by first | omega | (simp))), rfl, trivial⟩⟩, sl2, (by rw [show coL (zeros xs) xs ys xs.length (i + 1) = adF (coL (zeros xs) xs ys xs.length i) (sdQ (coQ (zeros xs) xs xs.length i) (zeros xs) xs[i]! xs.length (xs.length - 0)) (gmul ys[i]! (ginv (pev (sdQ (coQ (zeros xs) xs xs.length i) (zeros xs) xs[i]! xs.length (xs.length - 0)) xs[i]!))) xs.length from by rw [Nat.sub_zero]; simp only [coL, coQ]]; exact ho2_4), hB2_4, (by rw [show coQ (zeros xs) xs xs.length (i + 1) = sdQ (coQ (zeros xs) xs xs.length i) (zeros xs) xs[i]! xs.length (xs.length - 0) from by rw [coQ, Nat.sub_zero]]; exact ho1_8), hB1_8, h_ys, hl702, h_xs, (by first | assumption | (intro b hb; simp [Value.ownBlock] at hb; done) | (intro b _ e; simp [Value.ownBlock] at e; done)), (by first | assumption | (intro b hb; simp [Value.ownBlock] at hb; done) | (intro b _ e; simp [Value.ownBlock] at e; done))⟩
      · have hp846 : (xs.length : Int) ≤ ((i : Nat) : Int) := by first | simpa using hc724 | (have e := hc724; simp at e; omega)
        obtain rfl : i = xs.length := by omega
        refine cw_exit (thenQ_x (thenQ_x (blockQ_x (thenQ_n (?_)))))
        refine cw_seq (?_)
        refine cw_region (by kernel_rfl) (wl_s (o_move (vo0_4) rfl (wl_s (o_assign (vo0_4) rfl (wl_s (o_assign (vI (0 : Int)) rfl (wl_nil (thenQ_n (?_)))))))))
        refine cw_ret (end_r rfl (res2 rfl rfl rfl rfl) (?_))
        have e : (coeff xs ys) = (coL (zeros xs) xs ys xs.length xs.length, (0 : Int)) := by simp [coeff, *]
        exact ⟨_, rfl, sl0.keep, by rw [e]; exact ⟨vo0_4, rfl, ho0_4.pub sl0⟩⟩
set_option maxHeartbeats 4000000 in
set_option maxRecDepth 100000 in
theorem c_through {O : List Nat} (xs_v : Value) (xs : List UInt8) (ys_v : Value) (ys : List UInt8) (at_ : UInt8) (w : World) (h_xs : RdL Enc.u8 w O xs_v xs) (h_ys : RdL Enc.u8 w O ys_v ys) (hpre0 : xs.length < 1000000) (hO : ∀ b ∈ O, b < w.heap.size) : CallsK Try.prog 22 [xs_v, ys_v, vB at_] w (fun v _ => v = .tuple #[vB ((through xs ys at_).1), vI ((through xs ys at_).2)]) :=  by
  have lim_xs := h_xs.len_le
  have h_xs : RdL Enc.u8 w ([] ++ O) xs_v xs := h_xs
  have lim_ys := h_ys.len_le
  have h_ys : RdL Enc.u8 w ([] ++ O) ys_v ys := h_ys
  have s0 : St w O w [] := St.start hO
  refine callsK_of 21 Try.func22 rfl rfl (of_decide_eq_true rfl) (fun F0 => ?_)
  refine cw_seq (?_)
  refine cw_region (by kernel_rfl) (wl_s (o_assign (vB (0 : UInt8)) rfl (wl_s (o_assign (vI (0 : Int)) rfl (wl_nil (thenQ_n (?_)))))))
  refine cw_seq (?_)
  refine cw_region (by kernel_rfl) (wl_s (o_move (xs_v) rfl (wl_s (o_move (ys_v) rfl (wl_s (o_callK (vs := [xs_v, ys_v]) enter_24 (c_coeff (O := [] ++ O) xs_v xs ys_v ys w h_xs h_ys (by first | omega | assumption | (simp; done)) s0.lt) rfl s0 fun v847 w848 s849 m850 k851 r852 => (?_)))))))
  obtain ⟨x853, rfl, hl854⟩ := r852
  have := hl854.len_le
  have h_xs := h_xs.mv m850
  have h_ys := h_ys.mv m850
  refine wl_s (o_move (.tuple #[x853, vI ((coeff xs ys).2)]) rfl (wl_s (o_extract (x853) rfl rfl (wl_s (o_extract (vI ((coeff xs ys).2)) rfl rfl (wl_s (o_assign (x853) rfl (wl_s (o_assign (vI ((coeff xs ys).2)) rfl (wl_nil (thenQ_n (?_))))))))))))
  refine cw_seq (?_)
  refine cw_seq (?_)
  refine cw_region (by kernel_rfl) (wl_s (o_move (vI ((coeff xs ys).2)) rfl (wl_s (o_neq .i64 ((coeff xs ys).2) (0 : Int) rfl rfl (wl_nil (thenQ_n (?_)))))))
  refine cw_cond (((coeff xs ys).2) != (0 : Int)) rfl rfl (fun hc855 => ?_) (fun hc855 => ?_)
  · have hp856 : (coeff xs ys).2 ≠ (0 : Int) := by first | simpa using hc855 | (have e := hc855; simp at e; omega)
    refine cw_seq (?_)
    refine cw_region (by kernel_rfl) (wl_s (o_move (vI ((coeff xs ys).2)) rfl (wl_s (o_assign (vB (0 : UInt8)) rfl (wl_s (o_assign (vI ((coeff xs ys).2)) rfl (wl_nil (thenQ_n (?_)))))))))
    refine cw_ret (thenQ_r (end_r rfl (res2 rfl rfl rfl rfl) (?_)))
    have e : (through xs ys at_) = ((0 : UInt8), (coeff xs ys).2) := by simp [through, *]
    exact ⟨_, rfl, s849.keep, by rw [e]; exact rfl⟩
  · have hp857 : (coeff xs ys).2 = (0 : Int) := by first | simpa using hc855 | (have e := hc855; simp at e; omega)
    refine cw_skip (thenQ_n (?_))
    refine cw_seq (?_)
    refine cw_region (by kernel_rfl) (wl_s (o_move (x853) rfl (wl_s (o_move (vB at_) rfl (wl_s (o_callK (vs := [x853, vB at_]) enter_26 (c_eval (O := [] ++ O) x853 ((coeff xs ys).1) at_ w848 hl854 s849.lt) rfl s849 fun v858 w859 s860 m861 k862 r863 => (?_)))))))
    obtain rfl := r863
    have h_xs := h_xs.mv m861
    have h_ys := h_ys.mv m861
    have hl854 := hl854.mv m861
    refine wl_s (o_assign (vB (pev ((coeff xs ys).1) at_)) rfl (wl_s (o_assign (vI (0 : Int)) rfl (wl_nil (thenQ_n (?_))))))
    refine cw_ret (end_r rfl (res2 rfl rfl rfl rfl) (?_))
    have e : (through xs ys at_) = (pev ((coeff xs ys).1) at_, (0 : Int)) := by simp [through, *]
    exact ⟨_, rfl, s860.keep, by rw [e]; exact rfl⟩

end Go.Proofs.Yteajcgfcnbdmgaa
