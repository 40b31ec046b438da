/- Walks, printed by gen.py. -/
import Derived.Test.YteajcgfcnbdmgaaWaC
namespace Go.Proofs.Yteajcgfcnbdmgaa
open Go.Fw Go.RowKit

set_option maxHeartbeats 4000000 in
set_option maxRecDepth 100000 in
theorem c_coeff {O : List Nat} (xs_v : Value) (xs : List UInt8) (ys_v : Value) (ys : List UInt8) (w : World) (h_xs : RdL Enc.u8 w O xs_v xs) (h_ys : RdL Enc.u8 w O ys_v ys) (hpre0 : xs.length < 1000000) (hO : ∀ b ∈ O, b < w.heap.size) : CallsK Try.prog 24 [xs_v, ys_v] w (fun v w' => ∃ (x0 : Value), v = .tuple #[x0, vI ((coeff xs ys).2)] ∧ RdL Enc.u8 w' (O) x0 ((coeff xs ys).1)) :=  by
  have lim_xs := h_xs.len_le
  have h_xs : RdL Enc.u8 w ([] ++ O) xs_v xs := h_xs
  have lim_ys := h_ys.len_le
  have h_ys : RdL Enc.u8 w ([] ++ O) ys_v ys := h_ys
  have s0 : St w O w [] := St.start hO
  have hzl := zeros_len xs
  refine callsK_of 81 Try.func24 rfl rfl (of_decide_eq_true rfl) (fun F0 => ?_)
  refine cw_seq (?_)
  refine cw_region (by kernel_rfl) (wl_s (o_assign (.slice none 0 0) rfl (wl_s (o_assign (vI (0 : Int)) rfl (wl_nil (thenQ_n (?_)))))))
  refine cw_seq (?_)
  refine cw_seq (?_)
  refine cw_region (by kernel_rfl) (wl_s (o_move (xs_v) rfl (wl_s (o_move (ys_v) rfl (wl_s (o_callK (vs := [xs_v, ys_v]) enter_45 (c_wrong (O := [] ++ O) xs_v xs ys_v ys w h_xs h_ys s0.lt) rfl s0 fun v686 w687 s688 m689 k690 r691 => (?_)))))))
  obtain rfl := r691
  have h_xs := h_xs.mv m689
  have h_ys := h_ys.mv m689
  refine wl_nil (thenQ_n (?_))
  refine cw_cond (wrongM xs ys) rfl rfl (fun hc692 => ?_) (fun hc692 => ?_)
  · have hp693 : (wrongM xs ys) = true := by first | simpa using hc692 | (have e := hc692; simp at e; omega)
    refine cw_seq (?_)
    refine cw_region (by kernel_rfl) (wl_s (o_assign (.slice none 0 0) rfl (wl_s (o_assign (vI (1 : Int)) rfl (wl_nil (thenQ_n (?_)))))))
    refine cw_ret (thenQ_r (end_r rfl (res2 rfl rfl rfl rfl) (?_)))
    have e : (coeff xs ys) = ([], (1 : Int)) := by simp [coeff, *]
    exact ⟨_, rfl, s688.keep, by rw [e]; exact ⟨.slice none 0 0, rfl, RdL.nil _ _ _⟩⟩
  · have hp694 : (wrongM xs ys) = false := by first | simpa using hc692 | (have e := hc692; simp at e; omega)
    have hxy := wrongM_len (by simpa using hc692)
    refine cw_skip (thenQ_n (?_))
    refine cw_seq (?_)
    refine cw_region (by kernel_rfl) (wl_s (o_move (xs_v) rfl (wl_s (o_lenR Try.underlying28 rfl h_xs (wl_s (o_assign (vI (xs.length : Int)) rfl (wl_nil (thenQ_n (?_)))))))))
    refine cw_seq (?_)
    refine cw_region (by kernel_rfl) (wl_s (o_move (xs_v) rfl (wl_s (o_callK (vs := [xs_v]) enter_46 (c_zeros (O := [] ++ O) xs_v xs w687 h_xs (by first | omega | assumption | (simp; done)) s688.lt) rfl s688 fun v695 w696 s697 m698 k699 r700 => (?_)))))
    obtain ⟨_, rfl, hl701⟩ := r700
    have := hl701.len_le
    have h_xs := h_xs.mv m698
    have h_ys := h_ys.mv m698
    refine wl_s (o_assign (v695) rfl (wl_nil (thenQ_n (?_))))
    refine cw_seq (?_)
    refine cw_region (by kernel_rfl) (wl_s (o_move (vI (xs.length : Int)) rfl (wl_s (o_make (E := Enc.u8) Try.underlying28 i_5 [vB (0 : UInt8)] rfl rfl (by decide) (0 : UInt8) (fun _ _ => rfl) .i64 .i64 (xs.length : Int) (xs.length : Int) xs.length xs.length rfl rfl rfl rfl (by omega) (by omega) (by simp only [maxLen]; omega) s697 fun v706 b708 w702 e709 hb710 s703 m704 k705 hl707 => (?_)))))
    have hB711 : ∀ b, v706.ownBlock = some b → b ∈ (b708 :: []) := fun b hb => by rw [hb710] at hb; cases hb; simp
    clear e709 hb710
    have h_xs := h_xs.mv m704
    have h_ys := h_ys.mv m704
    have hl701 := hl701.mv m704
    refine wl_s (o_assign (v706) rfl (wl_nil (thenQ_n (?_))))
    refine cw_seq (?_)
    refine cw_region (by kernel_rfl) (wl_s (o_move (vI (xs.length : Int)) rfl (wl_s (o_make (E := Enc.u8) Try.underlying28 i_5 [vB (0 : UInt8)] rfl rfl (by decide) (0 : UInt8) (fun _ _ => rfl) .i64 .i64 (xs.length : Int) (xs.length : Int) xs.length xs.length rfl rfl rfl rfl (by omega) (by omega) (by simp only [maxLen]; omega) s703 fun v716 b718 w712 e719 hb720 s713 m714 k715 hl717 => (?_)))))
    have ne721 : ∀ b, v706.ownBlock = some b → v716.ownBlock ≠ some b := fun b hb => by have := (hl707.lt b hb).2; rw [hb720]; intro e; cases e; omega
    have ne721' : ∀ b, v716.ownBlock = some b → v706.ownBlock ≠ some b := fun b hb e => ne721 b e hb
    have hB722 : ∀ b, v716.ownBlock = some b → b ∈ (b718 :: (b708 :: [])) := fun b hb => by rw [hb720] at hb; cases hb; simp
    clear e719 hb720
    have hB711 : ∀ b, v706.ownBlock = some b → b ∈ (b718 :: (b708 :: [])) := fun b hb => List.mem_cons_of_mem _ (hB711 b hb)
    have h_xs := h_xs.mv m714
    have h_ys := h_ys.mv m714
    have hl707 := hl707.mv m714 k715 (by simp)
    have hl701 := hl701.mv m714
    refine wl_s (o_assign (v716) rfl (wl_nil (thenQ_n (?_))))
    refine cw_seq (?_)
    refine cw_seq (?_)
    refine cw_region (by kernel_rfl) (wl_s (o_move (xs_v) rfl (wl_s (o_lenR Try.underlying28 rfl h_xs (wl_s (o_move (vI (0 : Int)) rfl (wl_nil (thenQ_n (?_)))))))))
    refine cw_block (?_)
    refine cw_loop (fun mI FI wI => ∃ (i : Nat) (vo0_4 : Value) (vo0_8 : Value) (B : List Nat), i ≤ xs.length ∧ mI = xs.length - i ∧ (∃ F1, FI = upds F1 [(1, ys_v), (4, vo0_4), (6, vI (xs.length : Int)), (7, v695), (8, vo0_8), (26, xs_v), (27, vI (xs.length : Int)), (28, vI ((i : Nat) : Int)), (81, undef)]) ∧ St w O wI B ∧ Own Enc.u8 5 w.heap.size (B ++ O) wI vo0_4 (coL (zeros xs) xs ys xs.length i) ∧ (∀ b, vo0_4.ownBlock = some b → b ∈ B) ∧ Own Enc.u8 5 w.heap.size (B ++ O) wI vo0_8 (coQ (zeros xs) xs xs.length i) ∧ (∀ b, vo0_8.ownBlock = some b → b ∈ B) ∧ RdL Enc.u8 wI (B ++ O) (ys_v) (ys) ∧ RdL Enc.u8 wI (B ++ O) (v695) (zeros xs) ∧ RdL Enc.u8 wI (B ++ O) (xs_v) (xs) ∧ (∀ b, vo0_4.ownBlock = some b → vo0_8.ownBlock ≠ some b) ∧ (∀ b, vo0_8.ownBlock = some b → vo0_4.ownBlock ≠ some b)) (xs.length - (0)) ?_ ?_
    · exact ⟨(0), v706, v716, (b718 :: (b708 :: [])), (by first | omega | (simp; done) | (simp; omega) | simp_all), rfl, ⟨_, upds_self _ ⟨rfl, rfl, rfl, rfl, rfl, rfl, rfl, (by first | rfl | exact congrArg (Value.int _) (by first | omega | (simp))), rfl, trivial⟩⟩, s713, (by rw [show coL (zeros xs) xs ys xs.length (0) = List.replicate xs.length (0 : UInt8) from rfl]; exact hl707), hB711, (by rw [show coQ (zeros xs) xs xs.length (0) = List.replicate xs.length (0 : UInt8) from rfl]; exact hl717), hB722, h_ys, hl701, h_xs, ne721, (fun b hb e => ne721 b e hb)⟩
    · intro ml0 F wl0 hI
      clear h_ys hl701 h_xs
      obtain ⟨i, vo0_4, vo0_8, Bl0, hr0_0, hm0, ⟨Fl0, rfl⟩, sl0, ho0_4, hB0_4, ho0_8, hB0_8, h_ys, hl701, h_xs, nn0_4_8, nn0_8_4⟩ := hI
      refine cw_seq (?_)
      refine cw_region (by kernel_rfl) (wl_s (o_lss .i64 ((i : Nat) : Int) (xs.length : Int) rfl rfl (wl_nil (thenQ_n (?_)))))
      refine cw_seq (?_)
      refine cw_cond (decide (((i : Nat) : Int) < (xs.length : Int))) rfl rfl (fun hc723 => ?_) (fun hc723 => ?_)
      · have hp724 : ((i : Nat) : Int) < (xs.length : Int) := by first | simpa using hc723 | (have e := hc723; simp at e; omega)
        refine cw_skip (thenQ_n (?_))
        refine cw_seq (?_)
        refine cw_block (?_)
        refine cw_seq (?_)
        refine cw_region (by kernel_rfl) (wl_s (o_move (vI ((i : Nat) : Int)) rfl (wl_s (o_idx Try.underlying28 s_5 .i64 ((i : Nat) : Int) i rfl rfl rfl h_xs (by omega) fun a725 hp726 => (wl_s (o_loadB Try.underlying5 rfl rfl hp726 (wl_s (o_assign (vI ((i : Nat) : Int)) rfl (wl_s (o_assign (vB (xs[i]!)) rfl (wl_nil (thenQ_n (?_)))))))))))))
        refine cw_seq (?_)
        refine cw_region (by kernel_rfl) (wl_s (o_assign (vB (0 : UInt8)) rfl (wl_nil (thenQ_n (?_)))))
        refine cw_seq (?_)
        refine cw_seq (?_)
        refine cw_region (by kernel_rfl) (wl_s (o_move (vI (xs.length : Int)) rfl (wl_s (o_sub .i64 (xs.length : Int) (1 : Int) ((xs.length : Int) - (1 : Int)) rfl rfl (w64 (by omega) (by omega)) (wl_s (o_assign (vI ((xs.length : Int) - (1 : Int))) rfl (wl_nil (thenQ_n (?_)))))))))
        refine cw_block (?_)
        refine cw_loop (fun mI FI wI => ∃ (k : Nat) (vo1_8 : Value) (B : List Nat), k ≤ xs.length ∧ mI = k ∧ (∃ F1, FI = upds F1 [(1, ys_v), (4, vo0_4), (6, vI (xs.length : Int)), (7, v695), (8, vo1_8), (9, vI ((i : Nat) : Int)), (10, vB (xs[i]!)), (11, vB (sdC (zeros xs) xs[i]! xs.length (xs.length - k))), (12, vI ((k : Int) - 1)), (26, xs_v), (27, vI (xs.length : Int)), (28, vI ((i : Nat) : Int)), (81, undef)]) ∧ St w O wI B ∧ Own Enc.u8 5 w.heap.size (B ++ O) wI vo1_8 (sdQ (coQ (zeros xs) xs xs.length i) (zeros xs) xs[i]! xs.length (xs.length - k)) ∧ (∀ b, vo1_8.ownBlock = some b → b ∈ B) ∧ RdL Enc.u8 wI (B ++ O) (ys_v) (ys) ∧ Own Enc.u8 5 w.heap.size (B ++ O) wI vo0_4 (coL (zeros xs) xs ys xs.length i) ∧ (∀ b, vo0_4.ownBlock = some b → b ∈ B) ∧ RdL Enc.u8 wI (B ++ O) (v695) (zeros xs) ∧ RdL Enc.u8 wI (B ++ O) (xs_v) (xs) ∧ (∀ b, vo1_8.ownBlock = some b → vo0_4.ownBlock ≠ some b) ∧ (∀ b, vo0_4.ownBlock = some b → vo1_8.ownBlock ≠ some b)) ((xs.length)) ?_ ?_
        · exact ⟨(xs.length), vo0_8, Bl0, (by first | omega | (simp; done) | (simp; omega) | simp_all), rfl, ⟨_, upds_self _ ⟨rfl, rfl, rfl, rfl, rfl, rfl, rfl, (congrArg vB (by rw [Nat.sub_self]; rfl)), (by first | rfl | exact congrArg (Value.int _) (by first | omega | (omega))), rfl, rfl, rfl, rfl, trivial⟩⟩, sl0, (by rw [show sdQ (coQ (zeros xs) xs xs.length i) (zeros xs) xs[i]! xs.length (xs.length - (xs.length)) = coQ (zeros xs) xs xs.length i from by rw [Nat.sub_self]; rfl]; exact ho0_8), hB0_8, h_ys, ho0_4, hB0_4, hl701, h_xs, nn0_8_4, nn0_4_8⟩
        · intro ml1 F wl1 hI
          clear h_ys ho0_4 hB0_4 hl701 h_xs
          obtain ⟨k, vo1_8, Bl1, hr1_0, hm1, ⟨Fl1, rfl⟩, sl1, ho1_8, hB1_8, h_ys, ho0_4, hB0_4, hl701, h_xs, no1_8_vo0_4, np1_8_vo0_4⟩ := hI
          refine cw_seq (?_)
          refine cw_seq (?_)
          refine cw_region (by kernel_rfl) (wl_s (o_move (vI ((k : Int) - 1)) rfl (wl_s (o_geq .i64 ((k : Int) - 1) (0 : Int) rfl rfl (wl_nil (thenQ_n (?_)))))))
          refine cw_cond (decide ((0 : Int) ≤ (k : Int) - 1)) rfl rfl (fun hc727 => ?_) (fun hc727 => ?_)
          · have hp728 : (0 : Int) ≤ (k : Int) - 1 := by first | simpa using hc727 | (have e := hc727; simp at e; omega)
            obtain ⟨q, rfl⟩ : ∃ q, k = q + 1 := ⟨k - 1, by omega⟩
            rw [show ((q + 1 : Nat) : Int) - 1 = ((q : Nat) : Int) from by omega]
            refine cw_skip (thenQ_n (?_))
            refine cw_seq (?_)
            refine cw_block (?_)
            refine cw_seq (?_)
            refine cw_draw' 8 _ _ [fun v w => RdL Enc.u8 w (Bl1 ++ O) v (zeros xs), fun v _ => v = vI ((q : Nat) : Int), fun v _ => v = vI ((q + 1 : Nat) : Int), fun v w => ∃ a, v = .pointer (some a) ∧ PT Enc.u8 w (Bl1 ++ O) (.pointer (some a)) ((zeros xs)[q + 1]!), fun v _ => v = vB ((zeros xs)[q + 1]!), fun v _ => v = vB (sdC (zeros xs) xs[i]! xs.length (xs.length - (q + 1))), fun v _ => v = vB (xs[i]!), fun v _ => v = vB (gmul (sdC (zeros xs) xs[i]! xs.length (xs.length - (q + 1))) (xs[i]!))] (by kernel_rfl) (by kernel_rfl) (by kernel_rfl) (by kernel_rfl) rfl rfl ⟨fun _ _ _ h k => h.mv (Mv.of_keep k), fun _ _ _ h _ => h, fun _ _ _ h _ => h, fun _ _ _ ⟨a, e, h⟩ k => ⟨a, e, h.mv (Mv.of_keep k)⟩, fun _ _ _ h _ => h, fun _ _ _ h _ => h, fun _ _ _ h _ => h, fun _ _ _ h _ => h, trivial⟩ ⟨?_, ?_, ?_, ?_, ?_, ?_, ?_, ?_, trivial⟩ ?_
            · intro F1 w1 k1 hf hd
              have k0 := (Keep.drew [] wl1).trans k1
              have s1 := sl1.call k0
              have m1 : Mv Bl1 wl1 Bl1 w1 := Mv.of_keep k0
              have hl701 := hl701.mv m1
              obtain ⟨F2, rfl⟩ := lit_of (F := F1) [(7, v695)] ⟨hf 7 (by kernel_rfl), trivial⟩
              exact sp_plain rfl ((o_move (v695) rfl (⟨(Keep.refl _ _), hl701⟩)))
            · intro F1 w1 k1 hf hd
              have k0 := (Keep.drew [] wl1).trans k1
              have s1 := sl1.call k0
              have m1 : Mv Bl1 wl1 Bl1 w1 := Mv.of_keep k0
              obtain ⟨F2, rfl⟩ := lit_of (F := F1) [(12, vI ((q : Nat) : Int))] ⟨hf 12 (by kernel_rfl), trivial⟩
              exact sp_plain rfl ((o_move (vI ((q : Nat) : Int)) rfl (⟨(Keep.refl _ _), rfl⟩)))
            · intro F1 w1 k1 hf hd
              have k0 := (Keep.drew [] wl1).trans k1
              have s1 := sl1.call k0
              have m1 : Mv Bl1 wl1 Bl1 w1 := Mv.of_keep k0
              obtain ⟨F2, rfl⟩ := lit_of (F := F1) [(40, vI ((q : Nat) : Int))] ⟨hd 1 40 (by kernel_rfl), trivial⟩
              exact sp_plain rfl ((o_add .i64 ((q : Nat) : Int) (1 : Int) (((q + 1 : Nat) : Int)) rfl rfl (w64 (by omega) (by omega)) (⟨(Keep.refl _ _), rfl⟩)))
            · intro F1 w1 k1 hf hd
              have k0 := (Keep.drew [] wl1).trans k1
              have s1 := sl1.call k0
              have m1 : Mv Bl1 wl1 Bl1 w1 := Mv.of_keep k0
              obtain ⟨v729, e731, hl730⟩ : ∃ v, F1 39 = v ∧ RdL Enc.u8 w1 (Bl1 ++ O) v (zeros xs) := ⟨_, rfl, hd 0 39 (by kernel_rfl)⟩
              have := hl730.len_le
              obtain ⟨F2, rfl⟩ := lit_of (F := F1) [(39, v729), (41, vI ((q + 1 : Nat) : Int))] ⟨e731, hd 2 41 (by kernel_rfl), trivial⟩
              exact sp_plain rfl ((o_idx Try.underlying28 s_5 .i64 ((q + 1 : Nat) : Int) (q + 1) rfl rfl rfl hl730 (by rw [zeros_len]; omega) fun a732 hp733 => (⟨(Keep.refl _ _), ⟨a732, rfl, hp733⟩⟩)))
            · intro F1 w1 k1 hf hd
              have k0 := (Keep.drew [] wl1).trans k1
              have s1 := sl1.call k0
              have m1 : Mv Bl1 wl1 Bl1 w1 := Mv.of_keep k0
              obtain ⟨a734, e736, hp735⟩ : ∃ a, F1 42 = .pointer (some a) ∧ PT Enc.u8 w1 (Bl1 ++ O) (.pointer (some a)) ((zeros xs)[q + 1]!) := hd 3 42 (by kernel_rfl)
              obtain ⟨F2, rfl⟩ := lit_of (F := F1) [(42, Value.pointer (some a734))] ⟨e736, trivial⟩
              exact sp_plain rfl ((o_loadB Try.underlying5 rfl rfl hp735 (⟨(Keep.refl _ _), rfl⟩)))
            · intro F1 w1 k1 hf hd
              have k0 := (Keep.drew [] wl1).trans k1
              have s1 := sl1.call k0
              have m1 : Mv Bl1 wl1 Bl1 w1 := Mv.of_keep k0
              obtain ⟨F2, rfl⟩ := lit_of (F := F1) [(11, vB (sdC (zeros xs) xs[i]! xs.length (xs.length - (q + 1))))] ⟨hf 11 (by kernel_rfl), trivial⟩
              exact sp_plain rfl ((o_move (vB (sdC (zeros xs) xs[i]! xs.length (xs.length - (q + 1)))) rfl (⟨(Keep.refl _ _), rfl⟩)))
            · intro F1 w1 k1 hf hd
              have k0 := (Keep.drew [] wl1).trans k1
              have s1 := sl1.call k0
              have m1 : Mv Bl1 wl1 Bl1 w1 := Mv.of_keep k0
              obtain ⟨F2, rfl⟩ := lit_of (F := F1) [(10, vB (xs[i]!))] ⟨hf 10 (by kernel_rfl), trivial⟩
              exact sp_plain rfl ((o_move (vB (xs[i]!)) rfl (⟨(Keep.refl _ _), rfl⟩)))
            · intro F1 w1 k1 hf hd
              have k0 := (Keep.drew [] wl1).trans k1
              have s1 := sl1.call k0
              have m1 : Mv Bl1 wl1 Bl1 w1 := Mv.of_keep k0
              obtain ⟨F2, rfl⟩ := lit_of (F := F1) [(44, vB (sdC (zeros xs) xs[i]! xs.length (xs.length - (q + 1)))), (45, vB (xs[i]!))] ⟨hd 5 44 (by kernel_rfl), hd 6 45 (by kernel_rfl), trivial⟩
              refine sp_plain rfl ((o_callK (vs := [vB (sdC (zeros xs) xs[i]! xs.length (xs.length - (q + 1))), vB (xs[i]!)]) enter_20 (c_mul (O := Bl1 ++ O) (sdC (zeros xs) xs[i]! xs.length (xs.length - (q + 1))) (xs[i]!) w1 s1.lt) rfl s1 fun v737 w738 s739 m740 k741 r742 => (?_)))
              obtain rfl := r742
              exact ⟨k741, rfl⟩
            intro F744 w745 k743 hT746 hF747
            have s748 := sl1.call k743
            have m749 : Mv Bl1 wl1 Bl1 w745 := Mv.of_keep k743
            have h_ys := h_ys.mv m749
            have ho0_4 := ho0_4.mv m749 k743 (by simp)
            have hl701 := hl701.mv m749
            have ho1_8 := ho1_8.mv m749 k743 (by simp)
            have h_xs := h_xs.mv m749
            obtain ⟨v751, e753, hl752⟩ : ∃ v, F744 39 = v ∧ RdL Enc.u8 w745 (Bl1 ++ O) v (zeros xs) := ⟨_, rfl, hT746 0 39 (by kernel_rfl) (by decide)⟩
            have := hl752.len_le
            obtain ⟨a754, e756, hp755⟩ : ∃ a, F744 42 = .pointer (some a) ∧ PT Enc.u8 w745 (Bl1 ++ O) (.pointer (some a)) ((zeros xs)[q + 1]!) := hT746 3 42 (by kernel_rfl) (by decide)
            obtain ⟨F2, rfl⟩ := lit_of (F := F744) [(1, ys_v), (4, vo0_4), (6, vI (xs.length : Int)), (7, v695), (8, vo1_8), (9, vI ((i : Nat) : Int)), (10, vB (xs[i]!)), (11, vB (sdC (zeros xs) xs[i]! xs.length (xs.length - (q + 1)))), (12, vI ((q : Nat) : Int)), (26, xs_v), (27, vI (xs.length : Int)), (28, vI ((i : Nat) : Int)), (35, vI ((q : Nat) : Int)), (36, Value.bool (decide ((0 : Int) ≤ ((q : Nat) : Int)))), (81, undef), (39, v751), (40, vI ((q : Nat) : Int)), (41, vI ((q + 1 : Nat) : Int)), (42, Value.pointer (some a754)), (43, vB ((zeros xs)[q + 1]!)), (44, vB (sdC (zeros xs) xs[i]! xs.length (xs.length - (q + 1)))), (45, vB (xs[i]!)), (46, vB (gmul (sdC (zeros xs) xs[i]! xs.length (xs.length - (q + 1))) (xs[i]!)))] ⟨hF747 1 (by kernel_rfl), hF747 4 (by kernel_rfl), hF747 6 (by kernel_rfl), hF747 7 (by kernel_rfl), hF747 8 (by kernel_rfl), hF747 9 (by kernel_rfl), hF747 10 (by kernel_rfl), hF747 11 (by kernel_rfl), hF747 12 (by kernel_rfl), hF747 26 (by kernel_rfl), hF747 27 (by kernel_rfl), hF747 28 (by kernel_rfl), hF747 35 (by kernel_rfl), hF747 36 (by kernel_rfl), hF747 81 (by kernel_rfl), e753, hT746 1 40 (by kernel_rfl) (by decide), hT746 2 41 (by kernel_rfl) (by decide), e756, hT746 4 43 (by kernel_rfl) (by decide), hT746 5 44 (by kernel_rfl) (by decide), hT746 6 45 (by kernel_rfl) (by decide), hT746 7 46 (by kernel_rfl) (by decide), trivial⟩
            clear hT746 hF747
            refine wl_s (o_xor8 ((zeros xs)[q + 1]!) (gmul (sdC (zeros xs) xs[i]! xs.length (xs.length - (q + 1))) (xs[i]!)) rfl rfl (wl_s (o_assign (vB (((zeros xs)[q + 1]!) ^^^ (gmul (sdC (zeros xs) xs[i]! xs.length (xs.length - (q + 1))) (xs[i]!)))) rfl (wl_nil (thenQ_n (?_))))))
            refine cw_region (by kernel_rfl) (wl_s (o_move (vo1_8) rfl (wl_s (o_move (vI ((q : Nat) : Int)) rfl (wl_s (o_move (vB (((zeros xs)[q + 1]!) ^^^ (gmul (sdC (zeros xs) xs[i]! xs.length (xs.length - (q + 1))) (xs[i]!)))) rfl (wl_s (o_indexO Try.underlying28 s_5 .i64 ((q : Nat) : Int) q rfl rfl rfl ho1_8 (by first | omega | (simp only [List.length_set, List.length_append, List.length_cons, List.length_nil, List.length_replicate, coL_len, coQ_len, sdQ_len, adF_len, zeros_len]; omega)) fun b757 hb758 => (wl_n (o_storeO (((zeros xs)[q + 1]!) ^^^ (gmul (sdC (zeros xs) xs[i]! xs.length (xs.length - (q + 1))) (xs[i]!))) s_5 rfl rfl rfl ho1_8 hb758 (hB1_8 _ hb758) (by first | omega | (simp only [List.length_set, List.length_append, List.length_cons, List.length_nil, List.length_replicate, coL_len, coQ_len, sdQ_len, adF_len, zeros_len]; omega)) rfl s748 fun w759 s760 m761 k762 bx763 => (?_)))))))))))
            have h_ys := h_ys.mv m761
            have ho0_4 := ho0_4.mv m761 k762 (fun b hb => by simp only [List.mem_singleton]; rintro rfl; exact absurd hb758 (np1_8_vo0_4 _ hb))
            have hl701 := hl701.mv m761
            have h_xs := h_xs.mv m761
            have hl752 := hl752.mv m761
            have hp755 := hp755.mv m761
            refine wl_nil (blockQ_n (thenQ_n (?_)))
            refine cw_region (by kernel_rfl) (wl_s (o_move (vI ((q : Nat) : Int)) rfl (wl_s (o_sub .i64 ((q : Nat) : Int) (1 : Int) (((q : Nat) : Int) - (1 : Int)) rfl rfl (w64 (by omega) (by omega)) (wl_s (o_assign (vI (((q : Nat) : Int) - (1 : Int))) rfl (wl_nil (thenQ_n (?_)))))))))
            exact ⟨_, (by omega), (q), vo1_8, Bl1, (by first | omega | (simp; done) | (simp; omega) | simp_all), rfl, ⟨_, upds_self _ ⟨rfl, rfl, rfl, rfl, rfl, rfl, rfl, (congrArg vB (by exact (sdC_step (by omega)).symm)), (by first | rfl | exact congrArg (Value.int _) (by first | omega | (simp))), rfl, rfl, rfl, rfl, trivial⟩⟩, s760, (by rw [show sdQ (coQ (zeros xs) xs xs.length i) (zeros xs) xs[i]! xs.length (xs.length - (q)) = (sdQ (coQ (zeros xs) xs xs.length i) (zeros xs) xs[i]! xs.length (xs.length - (q + 1))).set q (((zeros xs)[q + 1]!) ^^^ (gmul (sdC (zeros xs) xs[i]! xs.length (xs.length - (q + 1))) (xs[i]!))) from sdQ_step (by omega)]; exact bx763), hB1_8, h_ys, ho0_4, hB0_4, hl701, h_xs, no1_8_vo0_4, np1_8_vo0_4⟩
          · have hp764 : (k : Int) - 1 < (0 : Int) := by first | simpa using hc727 | (have e := hc727; simp at e; omega)
            obtain rfl : k = 0 := by omega
            refine cw_exit (thenQ_x (thenQ_x (blockQ_x (thenQ_n (?_)))))
            refine cw_seq (?_)
            refine cw_draw' 8 _ _ [fun v w => RdL Enc.u8 w (Bl1 ++ O) v (ys), fun v _ => v = vI ((i : Nat) : Int), fun v w => ∃ a, v = .pointer (some a) ∧ PT Enc.u8 w (Bl1 ++ O) (.pointer (some a)) (ys[i]!), fun v _ => v = vB (ys[i]!), fun v _ => v = vo1_8, fun v _ => v = vB (xs[i]!), fun v _ => v = vB (pev (sdQ (coQ (zeros xs) xs xs.length i) (zeros xs) xs[i]! xs.length (xs.length - 0)) (xs[i]!)), fun v _ => v = vB (ginv (pev (sdQ (coQ (zeros xs) xs xs.length i) (zeros xs) xs[i]! xs.length (xs.length - 0)) (xs[i]!)))] (by kernel_rfl) (by kernel_rfl) (by kernel_rfl) (by kernel_rfl) rfl rfl ⟨fun _ _ _ h k => h.mv (Mv.of_keep k), fun _ _ _ h _ => h, fun _ _ _ ⟨a, e, h⟩ k => ⟨a, e, h.mv (Mv.of_keep k)⟩, fun _ _ _ h _ => h, fun _ _ _ h _ => h, fun _ _ _ h _ => h, fun _ _ _ h _ => h, fun _ _ _ h _ => h, trivial⟩ ⟨?_, ?_, ?_, ?_, ?_, ?_, ?_, ?_, trivial⟩ ?_
            · intro F1 w1 k1 hf hd
              have k0 := (Keep.drew [] wl1).trans k1
              have s1 := sl1.call k0
              have m1 : Mv Bl1 wl1 Bl1 w1 := Mv.of_keep k0
              have h_ys := h_ys.mv m1
              obtain ⟨F2, rfl⟩ := lit_of (F := F1) [(1, ys_v)] ⟨hf 1 (by kernel_rfl), trivial⟩
              exact sp_plain rfl ((o_move (ys_v) rfl (⟨(Keep.refl _ _), h_ys⟩)))
            · intro F1 w1 k1 hf hd
              have k0 := (Keep.drew [] wl1).trans k1
              have s1 := sl1.call k0
              have m1 : Mv Bl1 wl1 Bl1 w1 := Mv.of_keep k0
              obtain ⟨F2, rfl⟩ := lit_of (F := F1) [(9, vI ((i : Nat) : Int))] ⟨hf 9 (by kernel_rfl), trivial⟩
              exact sp_plain rfl ((o_move (vI ((i : Nat) : Int)) rfl (⟨(Keep.refl _ _), rfl⟩)))
            · intro F1 w1 k1 hf hd
              have k0 := (Keep.drew [] wl1).trans k1
              have s1 := sl1.call k0
              have m1 : Mv Bl1 wl1 Bl1 w1 := Mv.of_keep k0
              obtain ⟨v765, e767, hl766⟩ : ∃ v, F1 52 = v ∧ RdL Enc.u8 w1 (Bl1 ++ O) v (ys) := ⟨_, rfl, hd 0 52 (by kernel_rfl)⟩
              have := hl766.len_le
              obtain ⟨F2, rfl⟩ := lit_of (F := F1) [(52, v765), (53, vI ((i : Nat) : Int))] ⟨e767, hd 1 53 (by kernel_rfl), trivial⟩
              exact sp_plain rfl ((o_idx Try.underlying28 s_5 .i64 ((i : Nat) : Int) i rfl rfl rfl hl766 (by omega) fun a768 hp769 => (⟨(Keep.refl _ _), ⟨a768, rfl, hp769⟩⟩)))
            · intro F1 w1 k1 hf hd
              have k0 := (Keep.drew [] wl1).trans k1
              have s1 := sl1.call k0
              have m1 : Mv Bl1 wl1 Bl1 w1 := Mv.of_keep k0
              obtain ⟨a770, e772, hp771⟩ : ∃ a, F1 54 = .pointer (some a) ∧ PT Enc.u8 w1 (Bl1 ++ O) (.pointer (some a)) (ys[i]!) := hd 2 54 (by kernel_rfl)
              obtain ⟨F2, rfl⟩ := lit_of (F := F1) [(54, Value.pointer (some a770))] ⟨e772, trivial⟩
              exact sp_plain rfl ((o_loadB Try.underlying5 rfl rfl hp771 (⟨(Keep.refl _ _), rfl⟩)))
            · intro F1 w1 k1 hf hd
              have k0 := (Keep.drew [] wl1).trans k1
              have s1 := sl1.call k0
              have m1 : Mv Bl1 wl1 Bl1 w1 := Mv.of_keep k0
              have ho1_8 := ho1_8.mv m1 k0 (by simp)
              obtain ⟨F2, rfl⟩ := lit_of (F := F1) [(8, vo1_8)] ⟨hf 8 (by kernel_rfl), trivial⟩
              exact sp_plain rfl ((o_move (vo1_8) rfl (⟨(Keep.refl _ _), rfl⟩)))
            · intro F1 w1 k1 hf hd
              have k0 := (Keep.drew [] wl1).trans k1
              have s1 := sl1.call k0
              have m1 : Mv Bl1 wl1 Bl1 w1 := Mv.of_keep k0
              obtain ⟨F2, rfl⟩ := lit_of (F := F1) [(10, vB (xs[i]!))] ⟨hf 10 (by kernel_rfl), trivial⟩
              exact sp_plain rfl ((o_move (vB (xs[i]!)) rfl (⟨(Keep.refl _ _), rfl⟩)))
            · intro F1 w1 k1 hf hd
              have k0 := (Keep.drew [] wl1).trans k1
              have s1 := sl1.call k0
              have m1 : Mv Bl1 wl1 Bl1 w1 := Mv.of_keep k0
              have ho1_8 := ho1_8.mv m1 k0 (by simp)
              obtain ⟨F2, rfl⟩ := lit_of (F := F1) [(56, vo1_8), (57, vB (xs[i]!))] ⟨hd 4 56 (by kernel_rfl), hd 5 57 (by kernel_rfl), trivial⟩
              refine sp_plain rfl ((o_callK (vs := [vo1_8, vB (xs[i]!)]) enter_26 (c_eval (O := []) vo1_8 (sdQ (coQ (zeros xs) xs xs.length i) (zeros xs) xs[i]! xs.length (xs.length - 0)) (xs[i]!) w1 ho1_8.rd0 no_blocks) rfl s1 fun v773 w774 s775 m776 k777 r778 => (?_)))
              obtain rfl := r778
              have ho1_8 := ho1_8.mv m776 k777 (by simp)
              exact ⟨k777, rfl⟩
            · intro F1 w1 k1 hf hd
              have k0 := (Keep.drew [] wl1).trans k1
              have s1 := sl1.call k0
              have m1 : Mv Bl1 wl1 Bl1 w1 := Mv.of_keep k0
              obtain ⟨F2, rfl⟩ := lit_of (F := F1) [(58, vB (pev (sdQ (coQ (zeros xs) xs xs.length i) (zeros xs) xs[i]! xs.length (xs.length - 0)) (xs[i]!)))] ⟨hd 6 58 (by kernel_rfl), trivial⟩
              refine sp_plain rfl ((o_callK (vs := [vB (pev (sdQ (coQ (zeros xs) xs xs.length i) (zeros xs) xs[i]! xs.length (xs.length - 0)) (xs[i]!))]) enter_42 (c_inverse (O := Bl1 ++ O) (pev (sdQ (coQ (zeros xs) xs xs.length i) (zeros xs) xs[i]! xs.length (xs.length - 0)) (xs[i]!)) w1 s1.lt) rfl s1 fun v779 w780 s781 m782 k783 r784 => (?_)))
              obtain rfl := r784
              exact ⟨k783, rfl⟩
            intro F786 w787 k785 hT788 hF789
            have s790 := sl1.call k785
            have m791 : Mv Bl1 wl1 Bl1 w787 := Mv.of_keep k785
            have h_ys := h_ys.mv m791
            have ho0_4 := ho0_4.mv m791 k785 (by simp)
            have hl701 := hl701.mv m791
            have ho1_8 := ho1_8.mv m791 k785 (by simp)
            have h_xs := h_xs.mv m791
            obtain ⟨v793, e795, hl794⟩ : ∃ v, F786 52 = v ∧ RdL Enc.u8 w787 (Bl1 ++ O) v (ys) := ⟨_, rfl, hT788 0 52 (by kernel_rfl) (by decide)⟩
            have := hl794.len_le
            obtain ⟨a796, e798, hp797⟩ : ∃ a, F786 54 = .pointer (some a) ∧ PT Enc.u8 w787 (Bl1 ++ O) (.pointer (some a)) (ys[i]!) := hT788 2 54 (by kernel_rfl) (by decide)
            obtain ⟨F2, rfl⟩ := lit_of (F := F786) [(1, ys_v), (4, vo0_4), (6, vI (xs.length : Int)), (7, v695), (8, vo1_8), (9, vI ((i : Nat) : Int)), (10, vB (xs[i]!)), (11, vB (sdC (zeros xs) xs[i]! xs.length (xs.length - 0))), (12, vI ((0 : Int) - 1)), (26, xs_v), (27, vI (xs.length : Int)), (28, vI ((i : Nat) : Int)), (35, vI ((0 : Int) - 1)), (36, Value.bool (decide ((0 : Int) ≤ (0 : Int) - 1))), (81, undef), (52, v793), (53, vI ((i : Nat) : Int)), (54, Value.pointer (some a796)), (55, vB (ys[i]!)), (56, vo1_8), (57, vB (xs[i]!)), (58, vB (pev (sdQ (coQ (zeros xs) xs xs.length i) (zeros xs) xs[i]! xs.length (xs.length - 0)) (xs[i]!))), (59, vB (ginv (pev (sdQ (coQ (zeros xs) xs xs.length i) (zeros xs) xs[i]! xs.length (xs.length - 0)) (xs[i]!))))] ⟨hF789 1 (by kernel_rfl), hF789 4 (by kernel_rfl), hF789 6 (by kernel_rfl), hF789 7 (by kernel_rfl), hF789 8 (by kernel_rfl), hF789 9 (by kernel_rfl), hF789 10 (by kernel_rfl), hF789 11 (by kernel_rfl), hF789 12 (by kernel_rfl), hF789 26 (by kernel_rfl), hF789 27 (by kernel_rfl), hF789 28 (by kernel_rfl), hF789 35 (by kernel_rfl), hF789 36 (by kernel_rfl), hF789 81 (by kernel_rfl), e795, hT788 1 53 (by kernel_rfl) (by decide), e798, hT788 3 55 (by kernel_rfl) (by decide), hT788 4 56 (by kernel_rfl) (by decide), hT788 5 57 (by kernel_rfl) (by decide), hT788 6 58 (by kernel_rfl) (by decide), hT788 7 59 (by kernel_rfl) (by decide), trivial⟩
            clear hT788 hF789
            refine wl_s (o_callK (vs := [vB (ys[i]!), vB (ginv (pev (sdQ (coQ (zeros xs) xs xs.length i) (zeros xs) xs[i]! xs.length (xs.length - 0)) (xs[i]!)))]) enter_20 (c_mul (O := Bl1 ++ O) (ys[i]!) (ginv (pev (sdQ (coQ (zeros xs) xs xs.length i) (zeros xs) xs[i]! xs.length (xs.length - 0)) (xs[i]!))) w787 s790.lt) rfl s790 fun v799 w800 s801 m802 k803 r804 => (?_))
            obtain rfl := r804
            have h_ys := h_ys.mv m802
            have ho0_4 := ho0_4.mv m802 k803 (by simp)
            have hl701 := hl701.mv m802
            have ho1_8 := ho1_8.mv m802 k803 (by simp)
            have h_xs := h_xs.mv m802
            have hl794 := hl794.mv m802
            have hp797 := hp797.mv m802
            refine wl_s (o_assign (vB (gmul (ys[i]!) (ginv (pev (sdQ (coQ (zeros xs) xs xs.length i) (zeros xs) xs[i]! xs.length (xs.length - 0)) (xs[i]!))))) rfl (wl_nil (thenQ_n (?_))))
            refine cw_seq (?_)
            refine cw_region (by kernel_rfl) (wl_s (o_move (vo0_4) rfl (wl_s (o_lenO Try.underlying28 rfl ho0_4 (wl_s (o_move (vI (0 : Int)) rfl (wl_nil (thenQ_n (?_)))))))))
            refine cw_block (?_)
            have hcl := coL_len (zeros xs) xs ys xs.length i
            refine cw_loop (fun mI FI wI => ∃ (j : Nat) (vo2_4 : Value) (B : List Nat), j ≤ xs.length ∧ mI = xs.length - j ∧ (∃ F1, FI = upds F1 [(1, ys_v), (4, vo2_4), (6, vI (xs.length : Int)), (7, v695), (8, vo1_8), (13, vB (gmul (ys[i]!) (ginv (pev (sdQ (coQ (zeros xs) xs xs.length i) (zeros xs) xs[i]! xs.length (xs.length - 0)) (xs[i]!))))), (26, xs_v), (27, vI (xs.length : Int)), (28, vI ((i : Nat) : Int)), (62, vI ((coL (zeros xs) xs ys xs.length i).length : Int)), (63, vI ((j : Nat) : Int)), (81, undef)]) ∧ St w O wI B ∧ Own Enc.u8 5 w.heap.size (B ++ O) wI vo2_4 (adF (coL (zeros xs) xs ys xs.length i) (sdQ (coQ (zeros xs) xs xs.length i) (zeros xs) xs[i]! xs.length (xs.length - 0)) (gmul ys[i]! (ginv (pev (sdQ (coQ (zeros xs) xs xs.length i) (zeros xs) xs[i]! xs.length (xs.length - 0)) xs[i]!))) j) ∧ (∀ b, vo2_4.ownBlock = some b → b ∈ B) ∧ RdL Enc.u8 wI (B ++ O) (ys_v) (ys) ∧ RdL Enc.u8 wI (B ++ O) (v695) (zeros xs) ∧ Own Enc.u8 5 w.heap.size (B ++ O) wI vo1_8 (sdQ (coQ (zeros xs) xs xs.length i) (zeros xs) xs[i]! xs.length (xs.length - 0)) ∧ (∀ b, vo1_8.ownBlock = some b → b ∈ B) ∧ RdL Enc.u8 wI (B ++ O) (xs_v) (xs) ∧ (∀ b, vo2_4.ownBlock = some b → vo1_8.ownBlock ≠ some b) ∧ (∀ b, vo1_8.ownBlock = some b → vo2_4.ownBlock ≠ some b)) (xs.length - (0)) ?_ ?_
            · exact ⟨(0), vo0_4, Bl1, (by first | omega | (simp; done) | (simp; omega) | simp_all), rfl, ⟨_, upds_self _ ⟨rfl, rfl, rfl, rfl, rfl, rfl, rfl, rfl, rfl, rfl, (by first | rfl | exact congrArg (Value.int _) (by first | omega | (simp))), rfl, trivial⟩⟩, s801, (by rw [show adF (coL (zeros xs) xs ys xs.length i) (sdQ (coQ (zeros xs) xs xs.length i) (zeros xs) xs[i]! xs.length (xs.length - 0)) (gmul ys[i]! (ginv (pev (sdQ (coQ (zeros xs) xs xs.length i) (zeros xs) xs[i]! xs.length (xs.length - 0)) xs[i]!))) (0) = coL (zeros xs) xs ys xs.length i from rfl]; exact ho0_4), hB0_4, h_ys, hl701, ho1_8, hB1_8, h_xs, np1_8_vo0_4, no1_8_vo0_4⟩
            · intro ml2 F wl2 hI
              clear h_ys hl701 ho1_8 hB1_8 h_xs
              obtain ⟨j, vo2_4, Bl2, hr2_0, hm2, ⟨Fl2, rfl⟩, sl2, ho2_4, hB2_4, h_ys, hl701, ho1_8, hB1_8, h_xs, no2_4_vo1_8, np2_4_vo1_8⟩ := hI
              refine cw_seq (?_)
              refine cw_region (by kernel_rfl) (wl_s (o_lss .i64 ((j : Nat) : Int) ((coL (zeros xs) xs ys xs.length i).length : Int) rfl rfl (wl_nil (thenQ_n (?_)))))
              refine cw_seq (?_)
              refine cw_cond (decide (((j : Nat) : Int) < ((coL (zeros xs) xs ys xs.length i).length : Int))) rfl rfl (fun hc805 => ?_) (fun hc805 => ?_)
              · have hp806 : ((j : Nat) : Int) < ((coL (zeros xs) xs ys xs.length i).length : Int) := by first | simpa using hc805 | (have e := hc805; simp at e; omega)
                refine cw_skip (thenQ_n (?_))
                refine cw_seq (?_)
                refine cw_block (?_)
                refine cw_seq (?_)
                refine cw_region (by kernel_rfl) (wl_s (o_move (vI ((j : Nat) : Int)) rfl (wl_s (o_assign (vI ((j : Nat) : Int)) rfl (wl_nil (thenQ_n (?_)))))))
                refine cw_draw' 10 _ _ [fun v _ => v = vo2_4, fun v _ => v = vI ((j : Nat) : Int), fun v w => ∃ b, v = .pointer (some ⟨b, j * 1, none⟩) ∧ vo2_4.ownBlock = some b, fun v _ => v = vB ((adF (coL (zeros xs) xs ys xs.length i) (sdQ (coQ (zeros xs) xs xs.length i) (zeros xs) xs[i]! xs.length (xs.length - 0)) (gmul ys[i]! (ginv (pev (sdQ (coQ (zeros xs) xs xs.length i) (zeros xs) xs[i]! xs.length (xs.length - 0)) xs[i]!))) j)[j]!), fun v _ => v = vo1_8, fun v _ => v = vI ((j : Nat) : Int), fun v w => ∃ b, v = .pointer (some ⟨b, j * 1, none⟩) ∧ vo1_8.ownBlock = some b, fun v _ => v = vB ((sdQ (coQ (zeros xs) xs xs.length i) (zeros xs) xs[i]! xs.length (xs.length - 0))[j]!), fun v _ => v = vB (gmul (ys[i]!) (ginv (pev (sdQ (coQ (zeros xs) xs xs.length i) (zeros xs) xs[i]! xs.length (xs.length - 0)) (xs[i]!)))), fun v _ => v = vB (gmul ((sdQ (coQ (zeros xs) xs xs.length i) (zeros xs) xs[i]! xs.length (xs.length - 0))[j]!) (gmul (ys[i]!) (ginv (pev (sdQ (coQ (zeros xs) xs xs.length i) (zeros xs) xs[i]! xs.length (xs.length - 0)) (xs[i]!)))))] (by kernel_rfl) (by kernel_rfl) (by kernel_rfl) (by kernel_rfl) rfl rfl ⟨fun _ _ _ h _ => h, fun _ _ _ h _ => h, fun _ _ _ h _ => h, fun _ _ _ h _ => h, fun _ _ _ h _ => h, fun _ _ _ h _ => h, fun _ _ _ h _ => h, fun _ _ _ h _ => h, fun _ _ _ h _ => h, fun _ _ _ h _ => h, trivial⟩ ⟨?_, ?_, ?_, ?_, ?_, ?_, ?_, ?_, ?_, ?_, trivial⟩ ?_
                · intro F1 w1 k1 hf hd
                  have k0 := (Keep.drew [] wl2).trans k1
                  have s1 := sl2.call k0
                  have m1 : Mv Bl2 wl2 Bl2 w1 := Mv.of_keep k0
                  have ho2_4 := ho2_4.mv m1 k0 (by simp)
                  obtain ⟨F2, rfl⟩ := lit_of (F := F1) [(4, vo2_4)] ⟨hf 4 (by kernel_rfl), trivial⟩
                  exact sp_plain rfl ((o_move (vo2_4) rfl (⟨(Keep.refl _ _), rfl⟩)))
                · intro F1 w1 k1 hf hd
                  have k0 := (Keep.drew [] wl2).trans k1
                  have s1 := sl2.call k0
                  have m1 : Mv Bl2 wl2 Bl2 w1 := Mv.of_keep k0
                  obtain ⟨F2, rfl⟩ := lit_of (F := F1) [(14, vI ((j : Nat) : Int))] ⟨hf 14 (by kernel_rfl), trivial⟩
                  exact sp_plain rfl ((o_move (vI ((j : Nat) : Int)) rfl (⟨(Keep.refl _ _), rfl⟩)))
                · intro F1 w1 k1 hf hd
                  have k0 := (Keep.drew [] wl2).trans k1
                  have s1 := sl2.call k0
                  have m1 : Mv Bl2 wl2 Bl2 w1 := Mv.of_keep k0
                  have ho2_4 := ho2_4.mv m1 k0 (by simp)
                  obtain ⟨F2, rfl⟩ := lit_of (F := F1) [(66, vo2_4), (67, vI ((j : Nat) : Int))] ⟨hd 0 66 (by kernel_rfl), hd 1 67 (by kernel_rfl), trivial⟩
                  exact sp_plain rfl ((o_indexO Try.underlying28 s_5 .i64 ((j : Nat) : Int) j rfl rfl rfl ho2_4 (by first | omega | (simp only [List.length_set, List.length_append, List.length_cons, List.length_nil, List.length_replicate, coL_len, coQ_len, sdQ_len, adF_len, zeros_len]; omega)) fun b807 hb808 => (⟨(Keep.refl _ _), ⟨_, rfl, hb808⟩⟩)))
                · intro F1 w1 k1 hf hd
                  have k0 := (Keep.drew [] wl2).trans k1
                  have s1 := sl2.call k0
                  have m1 : Mv Bl2 wl2 Bl2 w1 := Mv.of_keep k0
                  have ho2_4 := ho2_4.mv m1 k0 (by simp)
                  obtain ⟨b809, e811, hb810⟩ : ∃ b, F1 68 = .pointer (some ⟨b, j * 1, none⟩) ∧ vo2_4.ownBlock = some b := hd 2 68 (by kernel_rfl)
                  obtain ⟨F2, rfl⟩ := lit_of (F := F1) [(68, Value.pointer (some ⟨b809, j * 1, none⟩))] ⟨e811, trivial⟩
                  exact sp_plain rfl ((o_loadO8 Try.underlying5 rfl rfl ho2_4 hb810 (by first | omega | (simp only [List.length_set, List.length_append, List.length_cons, List.length_nil, List.length_replicate, coL_len, coQ_len, sdQ_len, adF_len, zeros_len]; omega)) (⟨(Keep.refl _ _), rfl⟩)))
                · intro F1 w1 k1 hf hd
                  have k0 := (Keep.drew [] wl2).trans k1
                  have s1 := sl2.call k0
                  have m1 : Mv Bl2 wl2 Bl2 w1 := Mv.of_keep k0
                  have ho1_8 := ho1_8.mv m1 k0 (by simp)
                  obtain ⟨F2, rfl⟩ := lit_of (F := F1) [(8, vo1_8)] ⟨hf 8 (by kernel_rfl), trivial⟩
                  exact sp_plain rfl ((o_move (vo1_8) rfl (⟨(Keep.refl _ _), rfl⟩)))
                · intro F1 w1 k1 hf hd
                  have k0 := (Keep.drew [] wl2).trans k1
                  have s1 := sl2.call k0
                  have m1 : Mv Bl2 wl2 Bl2 w1 := Mv.of_keep k0
                  obtain ⟨F2, rfl⟩ := lit_of (F := F1) [(14, vI ((j : Nat) : Int))] ⟨hf 14 (by kernel_rfl), trivial⟩
                  exact sp_plain rfl ((o_move (vI ((j : Nat) : Int)) rfl (⟨(Keep.refl _ _), rfl⟩)))
                · intro F1 w1 k1 hf hd
                  have k0 := (Keep.drew [] wl2).trans k1
                  have s1 := sl2.call k0
                  have m1 : Mv Bl2 wl2 Bl2 w1 := Mv.of_keep k0
                  have ho1_8 := ho1_8.mv m1 k0 (by simp)
                  obtain ⟨F2, rfl⟩ := lit_of (F := F1) [(70, vo1_8), (71, vI ((j : Nat) : Int))] ⟨hd 4 70 (by kernel_rfl), hd 5 71 (by kernel_rfl), trivial⟩
                  exact sp_plain rfl ((o_indexO Try.underlying28 s_5 .i64 ((j : Nat) : Int) j rfl rfl rfl ho1_8 (by first | omega | (simp only [List.length_set, List.length_append, List.length_cons, List.length_nil, List.length_replicate, coL_len, coQ_len, sdQ_len, adF_len, zeros_len]; omega)) fun b812 hb813 => (⟨(Keep.refl _ _), ⟨_, rfl, hb813⟩⟩)))
                · intro F1 w1 k1 hf hd
                  have k0 := (Keep.drew [] wl2).trans k1
                  have s1 := sl2.call k0
                  have m1 : Mv Bl2 wl2 Bl2 w1 := Mv.of_keep k0
                  have ho1_8 := ho1_8.mv m1 k0 (by simp)
                  obtain ⟨b814, e816, hb815⟩ : ∃ b, F1 72 = .pointer (some ⟨b, j * 1, none⟩) ∧ vo1_8.ownBlock = some b := hd 6 72 (by kernel_rfl)
                  obtain ⟨F2, rfl⟩ := lit_of (F := F1) [(72, Value.pointer (some ⟨b814, j * 1, none⟩))] ⟨e816, trivial⟩
                  exact sp_plain rfl ((o_loadO8 Try.underlying5 rfl rfl ho1_8 hb815 (by first | omega | (simp only [List.length_set, List.length_append, List.length_cons, List.length_nil, List.length_replicate, coL_len, coQ_len, sdQ_len, adF_len, zeros_len]; omega)) (⟨(Keep.refl _ _), rfl⟩)))
                · intro F1 w1 k1 hf hd
                  have k0 := (Keep.drew [] wl2).trans k1
                  have s1 := sl2.call k0
                  have m1 : Mv Bl2 wl2 Bl2 w1 := Mv.of_keep k0
                  obtain ⟨F2, rfl⟩ := lit_of (F := F1) [(13, vB (gmul (ys[i]!) (ginv (pev (sdQ (coQ (zeros xs) xs xs.length i) (zeros xs) xs[i]! xs.length (xs.length - 0)) (xs[i]!)))))] ⟨hf 13 (by kernel_rfl), trivial⟩
                  exact sp_plain rfl ((o_move (vB (gmul (ys[i]!) (ginv (pev (sdQ (coQ (zeros xs) xs xs.length i) (zeros xs) xs[i]! xs.length (xs.length - 0)) (xs[i]!))))) rfl (⟨(Keep.refl _ _), rfl⟩)))
                · intro F1 w1 k1 hf hd
                  have k0 := (Keep.drew [] wl2).trans k1
                  have s1 := sl2.call k0
                  have m1 : Mv Bl2 wl2 Bl2 w1 := Mv.of_keep k0
                  obtain ⟨F2, rfl⟩ := lit_of (F := F1) [(73, vB ((sdQ (coQ (zeros xs) xs xs.length i) (zeros xs) xs[i]! xs.length (xs.length - 0))[j]!)), (74, vB (gmul (ys[i]!) (ginv (pev (sdQ (coQ (zeros xs) xs xs.length i) (zeros xs) xs[i]! xs.length (xs.length - 0)) (xs[i]!)))))] ⟨hd 7 73 (by kernel_rfl), hd 8 74 (by kernel_rfl), trivial⟩
                  refine sp_plain rfl ((o_callK (vs := [vB ((sdQ (coQ (zeros xs) xs xs.length i) (zeros xs) xs[i]! xs.length (xs.length - 0))[j]!), vB (gmul (ys[i]!) (ginv (pev (sdQ (coQ (zeros xs) xs xs.length i) (zeros xs) xs[i]! xs.length (xs.length - 0)) (xs[i]!))))]) enter_20 (c_mul (O := Bl2 ++ O) ((sdQ (coQ (zeros xs) xs xs.length i) (zeros xs) xs[i]! xs.length (xs.length - 0))[j]!) (gmul (ys[i]!) (ginv (pev (sdQ (coQ (zeros xs) xs xs.length i) (zeros xs) xs[i]! xs.length (xs.length - 0)) (xs[i]!)))) w1 s1.lt) rfl s1 fun v817 w818 s819 m820 k821 r822 => (?_)))
                  obtain rfl := r822
                  exact ⟨k821, rfl⟩
                intro F824 w825 k823 hT826 hF827
                have s828 := sl2.call k823
                have m829 : Mv Bl2 wl2 Bl2 w825 := Mv.of_keep k823
                have h_ys := h_ys.mv m829
                have ho2_4 := ho2_4.mv m829 k823 (by simp)
                have hl701 := hl701.mv m829
                have ho1_8 := ho1_8.mv m829 k823 (by simp)
                have h_xs := h_xs.mv m829
                obtain ⟨b831, e833, hb832⟩ : ∃ b, F824 68 = .pointer (some ⟨b, j * 1, none⟩) ∧ vo2_4.ownBlock = some b := hT826 2 68 (by kernel_rfl) (by decide)
                obtain ⟨b834, e836, hb835⟩ : ∃ b, F824 72 = .pointer (some ⟨b, j * 1, none⟩) ∧ vo1_8.ownBlock = some b := hT826 6 72 (by kernel_rfl) (by decide)
                obtain ⟨F2, rfl⟩ := lit_of (F := F824) [(1, ys_v), (4, vo2_4), (6, vI (xs.length : Int)), (7, v695), (8, vo1_8), (13, vB (gmul (ys[i]!) (ginv (pev (sdQ (coQ (zeros xs) xs xs.length i) (zeros xs) xs[i]! xs.length (xs.length - 0)) (xs[i]!))))), (14, vI ((j : Nat) : Int)), (26, xs_v), (27, vI (xs.length : Int)), (28, vI ((i : Nat) : Int)), (62, vI ((coL (zeros xs) xs ys xs.length i).length : Int)), (63, vI ((j : Nat) : Int)), (64, Value.bool (decide (((j : Nat) : Int) < ((coL (zeros xs) xs ys xs.length i).length : Int)))), (65, vI ((j : Nat) : Int)), (81, undef), (66, vo2_4), (67, vI ((j : Nat) : Int)), (68, Value.pointer (some ⟨b831, j * 1, none⟩)), (69, vB ((adF (coL (zeros xs) xs ys xs.length i) (sdQ (coQ (zeros xs) xs xs.length i) (zeros xs) xs[i]! xs.length (xs.length - 0)) (gmul ys[i]! (ginv (pev (sdQ (coQ (zeros xs) xs xs.length i) (zeros xs) xs[i]! xs.length (xs.length - 0)) xs[i]!))) j)[j]!)), (70, vo1_8), (71, vI ((j : Nat) : Int)), (72, Value.pointer (some ⟨b834, j * 1, none⟩)), (73, vB ((sdQ (coQ (zeros xs) xs xs.length i) (zeros xs) xs[i]! xs.length (xs.length - 0))[j]!)), (74, vB (gmul (ys[i]!) (ginv (pev (sdQ (coQ (zeros xs) xs xs.length i) (zeros xs) xs[i]! xs.length (xs.length - 0)) (xs[i]!))))), (75, vB (gmul ((sdQ (coQ (zeros xs) xs xs.length i) (zeros xs) xs[i]! xs.length (xs.length - 0))[j]!) (gmul (ys[i]!) (ginv (pev (sdQ (coQ (zeros xs) xs xs.length i) (zeros xs) xs[i]! xs.length (xs.length - 0)) (xs[i]!))))))] ⟨hF827 1 (by kernel_rfl), hF827 4 (by kernel_rfl), hF827 6 (by kernel_rfl), hF827 7 (by kernel_rfl), hF827 8 (by kernel_rfl), hF827 13 (by kernel_rfl), hF827 14 (by kernel_rfl), hF827 26 (by kernel_rfl), hF827 27 (by kernel_rfl), hF827 28 (by kernel_rfl), hF827 62 (by kernel_rfl), hF827 63 (by kernel_rfl), hF827 64 (by kernel_rfl), hF827 65 (by kernel_rfl), hF827 81 (by kernel_rfl), hT826 0 66 (by kernel_rfl) (by decide), hT826 1 67 (by kernel_rfl) (by decide), e833, hT826 3 69 (by kernel_rfl) (by decide), hT826 4 70 (by kernel_rfl) (by decide), hT826 5 71 (by kernel_rfl) (by decide), e836, hT826 7 73 (by kernel_rfl) (by decide), hT826 8 74 (by kernel_rfl) (by decide), hT826 9 75 (by kernel_rfl) (by decide), trivial⟩
                clear hT826 hF827
                refine wl_s (o_xor8 ((adF (coL (zeros xs) xs ys xs.length i) (sdQ (coQ (zeros xs) xs xs.length i) (zeros xs) xs[i]! xs.length (xs.length - 0)) (gmul ys[i]! (ginv (pev (sdQ (coQ (zeros xs) xs xs.length i) (zeros xs) xs[i]! xs.length (xs.length - 0)) xs[i]!))) j)[j]!) (gmul ((sdQ (coQ (zeros xs) xs xs.length i) (zeros xs) xs[i]! xs.length (xs.length - 0))[j]!) (gmul (ys[i]!) (ginv (pev (sdQ (coQ (zeros xs) xs xs.length i) (zeros xs) xs[i]! xs.length (xs.length - 0)) (xs[i]!))))) rfl rfl (wl_s (o_indexO Try.underlying28 s_5 .i64 ((j : Nat) : Int) j rfl rfl rfl ho2_4 (by first | omega | (simp only [List.length_set, List.length_append, List.length_cons, List.length_nil, List.length_replicate, coL_len, coQ_len, sdQ_len, adF_len, zeros_len]; omega)) fun b837 hb838 => (wl_n (o_storeO (((adF (coL (zeros xs) xs ys xs.length i) (sdQ (coQ (zeros xs) xs xs.length i) (zeros xs) xs[i]! xs.length (xs.length - 0)) (gmul ys[i]! (ginv (pev (sdQ (coQ (zeros xs) xs xs.length i) (zeros xs) xs[i]! xs.length (xs.length - 0)) xs[i]!))) j)[j]!) ^^^ (gmul ((sdQ (coQ (zeros xs) xs xs.length i) (zeros xs) xs[i]! xs.length (xs.length - 0))[j]!) (gmul (ys[i]!) (ginv (pev (sdQ (coQ (zeros xs) xs xs.length i) (zeros xs) xs[i]! xs.length (xs.length - 0)) (xs[i]!)))))) s_5 rfl rfl rfl ho2_4 hb838 (hB2_4 _ hb838) (by first | omega | (simp only [List.length_set, List.length_append, List.length_cons, List.length_nil, List.length_replicate, coL_len, coQ_len, sdQ_len, adF_len, zeros_len]; omega)) rfl s828 fun w839 s840 m841 k842 bx843 => (?_))))))
                have h_ys := h_ys.mv m841
                have hl701 := hl701.mv m841
                have ho1_8 := ho1_8.mv m841 k842 (fun b hb => by simp only [List.mem_singleton]; rintro rfl; exact absurd hb838 (np2_4_vo1_8 _ hb))
                have h_xs := h_xs.mv m841
                refine wl_nil (blockQ_n (thenQ_n (?_)))
                refine cw_region (by kernel_rfl) (wl_s (o_add .i64 ((j : Nat) : Int) (1 : Int) (((j + 1 : Nat) : Int)) rfl rfl (w64 (by omega) (by omega)) (wl_s (o_move (vI ((j + 1 : Nat) : Int)) rfl (wl_nil (thenQ_n (?_)))))))
                exact ⟨_, (by omega), (j + 1), vo2_4, Bl2, (by first | omega | (simp; done) | (simp; omega) | simp_all), rfl, ⟨_, upds_self _ ⟨rfl, rfl, rfl, rfl, rfl, rfl, rfl, rfl, rfl, rfl, (by first | rfl | exact congrArg (Value.int _) (by first | omega | (simp))), rfl, trivial⟩⟩, s840, (by rw [show adF (coL (zeros xs) xs ys xs.length i) (sdQ (coQ (zeros xs) xs xs.length i) (zeros xs) xs[i]! xs.length (xs.length - 0)) (gmul ys[i]! (ginv (pev (sdQ (coQ (zeros xs) xs xs.length i) (zeros xs) xs[i]! xs.length (xs.length - 0)) xs[i]!))) (j + 1) = (adF (coL (zeros xs) xs ys xs.length i) (sdQ (coQ (zeros xs) xs xs.length i) (zeros xs) xs[i]! xs.length (xs.length - 0)) (gmul ys[i]! (ginv (pev (sdQ (coQ (zeros xs) xs xs.length i) (zeros xs) xs[i]! xs.length (xs.length - 0)) xs[i]!))) j).set j (((adF (coL (zeros xs) xs ys xs.length i) (sdQ (coQ (zeros xs) xs xs.length i) (zeros xs) xs[i]! xs.length (xs.length - 0)) (gmul ys[i]! (ginv (pev (sdQ (coQ (zeros xs) xs xs.length i) (zeros xs) xs[i]! xs.length (xs.length - 0)) xs[i]!))) j)[j]!) ^^^ (gmul ((sdQ (coQ (zeros xs) xs xs.length i) (zeros xs) xs[i]! xs.length (xs.length - 0))[j]!) (gmul (ys[i]!) (ginv (pev (sdQ (coQ (zeros xs) xs xs.length i) (zeros xs) xs[i]! xs.length (xs.length - 0)) (xs[i]!)))))) from rfl]; exact bx843), hB2_4, h_ys, hl701, ho1_8, hB1_8, h_xs, no2_4_vo1_8, np2_4_vo1_8⟩
              · have hp844 : ((coL (zeros xs) xs ys xs.length i).length : Int) ≤ ((j : Nat) : Int) := by first | simpa using hc805 | (have e := hc805; simp at e; omega)
                obtain rfl : j = xs.length := by omega
                refine cw_exit (thenQ_x (thenQ_x (blockQ_x (blockQ_n (thenQ_n (?_))))))
                refine cw_region (by kernel_rfl) (wl_s (o_add .i64 ((i : Nat) : Int) (1 : Int) (((i + 1 : Nat) : Int)) rfl rfl (w64 (by omega) (by omega)) (wl_s (o_move (vI ((i + 1 : Nat) : Int)) rfl (wl_nil (thenQ_n (?_)))))))
                exact ⟨_, (by omega), (i + 1), vo2_4, vo1_8, Bl2, (by first | omega | (simp; done) | (simp; omega) | simp_all), rfl, ⟨_, upds_self _ ⟨rfl, rfl, rfl, rfl, rfl, rfl, rfl, (by first | rfl | exact congrArg (Value.int _) (by first | omega | (simp))), rfl, trivial⟩⟩, sl2, (by rw [show coL (zeros xs) xs ys xs.length (i + 1) = adF (coL (zeros xs) xs ys xs.length i) (sdQ (coQ (zeros xs) xs xs.length i) (zeros xs) xs[i]! xs.length (xs.length - 0)) (gmul ys[i]! (ginv (pev (sdQ (coQ (zeros xs) xs xs.length i) (zeros xs) xs[i]! xs.length (xs.length - 0)) xs[i]!))) xs.length from by rw [Nat.sub_zero]; simp only [coL, coQ]]; exact ho2_4), hB2_4, (by rw [show coQ (zeros xs) xs xs.length (i + 1) = sdQ (coQ (zeros xs) xs xs.length i) (zeros xs) xs[i]! xs.length (xs.length - 0) from by rw [coQ, Nat.sub_zero]]; exact ho1_8), hB1_8, h_ys, hl701, h_xs, no2_4_vo1_8, np2_4_vo1_8⟩
      · have hp845 : (xs.length : Int) ≤ ((i : Nat) : Int) := by first | simpa using hc723 | (have e := hc723; simp at e; omega)
        obtain rfl : i = xs.length := by omega
        refine cw_exit (thenQ_x (thenQ_x (blockQ_x (thenQ_n (?_)))))
        refine cw_seq (?_)
        refine cw_region (by kernel_rfl) (wl_s (o_move (vo0_4) rfl (wl_s (o_assign (vo0_4) rfl (wl_s (o_assign (vI (0 : Int)) rfl (wl_nil (thenQ_n (?_)))))))))
        refine cw_ret (end_r rfl (res2 rfl rfl rfl rfl) (?_))
        have e : (coeff xs ys) = (coL (zeros xs) xs ys xs.length xs.length, (0 : Int)) := by simp [coeff, *]
        exact ⟨_, rfl, sl0.keep, by rw [e]; exact ⟨vo0_4, rfl, ho0_4.pub sl0⟩⟩
set_option maxHeartbeats 4000000 in
set_option maxRecDepth 100000 in
theorem c_through {O : List Nat} (xs_v : Value) (xs : List UInt8) (ys_v : Value) (ys : List UInt8) (at_ : UInt8) (w : World) (h_xs : RdL Enc.u8 w O xs_v xs) (h_ys : RdL Enc.u8 w O ys_v ys) (hpre0 : xs.length < 1000000) (hO : ∀ b ∈ O, b < w.heap.size) : CallsK Try.prog 22 [xs_v, ys_v, vB at_] w (fun v _ => v = .tuple #[vB ((through xs ys at_).1), vI ((through xs ys at_).2)]) :=  by
  have lim_xs := h_xs.len_le
  have h_xs : RdL Enc.u8 w ([] ++ O) xs_v xs := h_xs
  have lim_ys := h_ys.len_le
  have h_ys : RdL Enc.u8 w ([] ++ O) ys_v ys := h_ys
  have s0 : St w O w [] := St.start hO
  refine callsK_of 21 Try.func22 rfl rfl (of_decide_eq_true rfl) (fun F0 => ?_)
  refine cw_seq (?_)
  refine cw_region (by kernel_rfl) (wl_s (o_assign (vB (0 : UInt8)) rfl (wl_s (o_assign (vI (0 : Int)) rfl (wl_nil (thenQ_n (?_)))))))
  refine cw_seq (?_)
  refine cw_region (by kernel_rfl) (wl_s (o_move (xs_v) rfl (wl_s (o_move (ys_v) rfl (wl_s (o_callK (vs := [xs_v, ys_v]) enter_24 (c_coeff (O := [] ++ O) xs_v xs ys_v ys w h_xs h_ys (by first | omega | assumption | (simp; done)) s0.lt) rfl s0 fun v846 w847 s848 m849 k850 r851 => (?_)))))))
  obtain ⟨x852, rfl, hl853⟩ := r851
  have := hl853.len_le
  have h_xs := h_xs.mv m849
  have h_ys := h_ys.mv m849
  refine wl_s (o_move (Value.tuple #[x852, vI ((coeff xs ys).2)]) rfl (wl_s (o_extract (x852) rfl rfl (wl_s (o_extract (vI ((coeff xs ys).2)) rfl rfl (wl_s (o_assign (x852) rfl (wl_s (o_assign (vI ((coeff xs ys).2)) rfl (wl_nil (thenQ_n (?_))))))))))))
  refine cw_seq (?_)
  refine cw_seq (?_)
  refine cw_region (by kernel_rfl) (wl_s (o_move (vI ((coeff xs ys).2)) rfl (wl_s (o_neq .i64 ((coeff xs ys).2) (0 : Int) rfl rfl (wl_nil (thenQ_n (?_)))))))
  refine cw_cond (((coeff xs ys).2) != (0 : Int)) rfl rfl (fun hc854 => ?_) (fun hc854 => ?_)
  · have hp855 : (coeff xs ys).2 ≠ (0 : Int) := by first | simpa using hc854 | (have e := hc854; simp at e; omega)
    refine cw_seq (?_)
    refine cw_region (by kernel_rfl) (wl_s (o_move (vI ((coeff xs ys).2)) rfl (wl_s (o_assign (vB (0 : UInt8)) rfl (wl_s (o_assign (vI ((coeff xs ys).2)) rfl (wl_nil (thenQ_n (?_)))))))))
    refine cw_ret (thenQ_r (end_r rfl (res2 rfl rfl rfl rfl) (?_)))
    have e : (through xs ys at_) = ((0 : UInt8), (coeff xs ys).2) := by simp [through, *]
    exact ⟨_, rfl, s848.keep, by rw [e]; exact rfl⟩
  · have hp856 : (coeff xs ys).2 = (0 : Int) := by first | simpa using hc854 | (have e := hc854; simp at e; omega)
    refine cw_skip (thenQ_n (?_))
    refine cw_seq (?_)
    refine cw_region (by kernel_rfl) (wl_s (o_move (x852) rfl (wl_s (o_move (vB at_) rfl (wl_s (o_callK (vs := [x852, vB at_]) enter_26 (c_eval (O := [] ++ O) x852 ((coeff xs ys).1) at_ w847 hl853 s848.lt) rfl s848 fun v857 w858 s859 m860 k861 r862 => (?_)))))))
    obtain rfl := r862
    have h_xs := h_xs.mv m860
    have h_ys := h_ys.mv m860
    have hl853 := hl853.mv m860
    refine wl_s (o_assign (vB (pev ((coeff xs ys).1) at_)) rfl (wl_s (o_assign (vI (0 : Int)) rfl (wl_nil (thenQ_n (?_))))))
    refine cw_ret (end_r rfl (res2 rfl rfl rfl rfl) (?_))
    have e : (through xs ys at_) = (pev ((coeff xs ys).1) at_, (0 : Int)) := by simp [through, *]
    exact ⟨_, rfl, s859.keep, by rw [e]; exact rfl⟩

end Go.Proofs.Yteajcgfcnbdmgaa
