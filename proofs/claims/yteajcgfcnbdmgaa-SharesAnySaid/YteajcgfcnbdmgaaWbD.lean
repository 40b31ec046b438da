/- Walks, printed by gen.py. -/
import Derived.Test.YteajcgfcnbdmgaaWbB
set_option linter.unusedSimpArgs false
set_option linter.unusedVariables false
namespace Go.Proofs.Yteajcgfcnbdmgaa
open Go.Fw Go.RowKit

set_option maxHeartbeats 4000000 in
set_option maxRecDepth 100000 in
theorem c_indices1 {O : List Nat} (i : Nat) (l_a : Addr) (l : (List Share)) (w : World) (h_l : PT (Enc.slice Enc.share) w O (.pointer (some l_a)) l) (hpre0 : i < l.length) (hO : ∀ b ∈ O, b < w.heap.size) : CallsK Try.prog 66 [vI (i : Int), .pointer (some l_a)] w (fun v _ => v = vB (u8of l[i]!.index)) :=  by
 have h_l : PT (Enc.slice Enc.share) w ([] ++ O) (.pointer (some l_a)) l := h_l
 have s0 : St w O w [] := St.start hO
 refine callsK_of 10 Try.func66 rfl rfl (of_decide_eq_true rfl) (fun F0 => ?_)
 refine cw_seq (?_)
 refine cw_region (by kernel_rfl) (wl_s (o_assign (vB (0 : UInt8)) rfl (wl_nil (thenQ_n (?_)))))
 refine cw_seq (?_)
 refine cw_region (by kernel_rfl) (wl_s (o_loadL Try.underlying38 rfl rfl h_l fun v2747 hl2748 => (?_)))
 have := hl2748.len_le
 refine wl_s (o_move (vI (i : Int)) rfl (wl_s (o_idx Try.underlying38 s_53 .i64 (i : Int) i rfl rfl rfl hl2748 (by omega) fun a2749 hp2750 => (wl_s (o_fieldR 1 f_53_1 ((l[i]!).index) rfl hp2750 (fun _ _ _ h => Enc_share_f1 h) fun a2751 hp2752 => (wl_s (o_loadI Try.underlying3 rfl rfl hp2752 (wl_s (o_u8of .i64 Try.underlying3 Try.underlying5 ((l[i]!).index) rfl (wl_s (o_assign (vB (u8of ((l[i]!).index))) rfl (wl_nil (thenQ_n (?_))))))))))))))
 refine cw_ret (end_r rfl (res1 rfl rfl rfl) (?_))
 have e : (u8of l[i]!.index) = (u8of ((l[i]!).index)) := rfl
 exact ⟨_, rfl, s0.keep, by rw [e]; exact rfl⟩
set_option maxHeartbeats 4000000 in
set_option maxRecDepth 100000 in
theorem c_indices {O : List Nat} (l_v : Value) (l : List Share) (w : World) (h_l : RdL Enc.share w O l_v l) (hpre0 : l.length ≤ 1000000) (hO : ∀ b ∈ O, b < w.heap.size) : CallsK Try.prog 58 [l_v] w (fun v w' => ∃ (x0 : Value), v = x0 ∧ RdL Enc.u8 w' (O) x0 (idxM l)) :=  by
 have lim_l := h_l.len_le
 have h_l : RdL Enc.share w ([] ++ O) l_v l := h_l
 have s0 : St w O w [] := St.start hO
 refine callsK_of 7 Try.func58 rfl rfl (of_decide_eq_true rfl) (fun F0 => ?_)
 refine cw_seq (?_)
 refine cw_region (by kernel_rfl) (wl_s (o_boxR (E := (Enc.slice Enc.share)) (l_v) ([l_v]) l rfl (cells_one h_l.oneCell) ⟨_, rfl, h_l⟩ s0 fun a2753 w2754 s2755 m2756 k2757 hp2758 => (?_)))
 refine wl_s (o_assign (Value.slice none 0 0) rfl (wl_nil (thenQ_n (?_))))
 refine cw_seq (?_)
 refine cw_region (by kernel_rfl) (wl_s (o_loadL Try.underlying38 rfl rfl hp2758 fun v2759 hl2760 => (?_)))
 have := hl2760.len_le
 refine wl_s (o_lenR Try.underlying38 rfl hl2760 (wl_s (o_makeFunc (first := []) (captured := [.tmp 1]) [] [Value.pointer (some a2753)] rfl rfl (wl_s (o_callK (vs := [vI (l.length : Int), Value.func (.func 66) #[] #[Value.pointer (some a2753)]]) enter_53 (c_collectB (O := [] ++ O) (l.length : Int) 66 [Value.pointer (some a2753)] (fun i_ => u8of l[i_]!.index) w2754 enter_66 (fun w'_ O'_ kk_ hs_ hl_ i_  hc_ => c_indices1 (O := O'_) i_ a2753 l w'_ (hp2758.on hs_ kk_) (by first | omega | assumption | (simp; done)) hl_) (by first | omega | assumption | (simp; done)) s2755.lt) rfl s2755 fun v2761 w2762 s2763 m2764 k2765 r2766 => (?_))))))
 obtain ⟨_, rfl, hl2767⟩ := r2766
 have := hl2767.len_le
 refine wl_s (o_assign (v2761) rfl (wl_nil (thenQ_n (?_))))
 refine cw_ret (end_r rfl (res1 rfl rfl rfl) (?_))
 have e : (idxM l) = ((List.range ((l.length : Int)).toNat).map (fun i_ => u8of l[i_]!.index)) := rfl
 exact ⟨_, rfl, s2763.keep, by rw [e]; exact ⟨v2761, rfl, hl2767.out⟩⟩
set_option maxHeartbeats 4000000 in
set_option maxRecDepth 100000 in
theorem c_column1 {O : List Nat} (i : Nat) (l_a : Addr) (l : (List Share)) (place_a : Addr) (place : Int) (w : World) (h_l : PT (Enc.slice Enc.share) w O (.pointer (some l_a)) l) (h_place : PT Enc.int w O (.pointer (some place_a)) place) (hpre0 : i < l.length) (hpre1 : 0 ≤ place) (hpre2 : (place).toNat < l[i]!.data.length) (hO : ∀ b ∈ O, b < w.heap.size) : CallsK Try.prog 67 [vI (i : Int), .pointer (some l_a), .pointer (some place_a)] w (fun v _ => v = vB (l[i]!.data[(place).toNat]!)) :=  by
 have h_l : PT (Enc.slice Enc.share) w ([] ++ O) (.pointer (some l_a)) l := h_l
 have h_place : PT Enc.int w ([] ++ O) (.pointer (some place_a)) place := h_place
 have s0 : St w O w [] := St.start hO
 refine callsK_of 13 Try.func67 rfl rfl (of_decide_eq_true rfl) (fun F0 => ?_)
 refine cw_seq (?_)
 refine cw_region (by kernel_rfl) (wl_s (o_assign (vB (0 : UInt8)) rfl (wl_nil (thenQ_n (?_)))))
 refine cw_seq (?_)
 refine cw_draw' 6 _ _ [fun (vT : Value) (wT : World) => RdL Enc.share wT ([] ++ O) vT (l), isV (vI (i : Int)), fun (vT : Value) (wT : World) => ∃ aT, vT = .pointer (some aT) ∧ PT Enc.share wT ([] ++ O) (.pointer (some aT)) (l[i]!), fun (vT : Value) (wT : World) => ∃ aT, vT = .pointer (some aT) ∧ PT (Enc.slice Enc.u8) wT ([] ++ O) (.pointer (some aT)) ((l[i]!).data), fun (vT : Value) (wT : World) => RdL Enc.u8 wT ([] ++ O) vT ((l[i]!).data), isV (vI place)] (by kernel_rfl) (by kernel_rfl) (by kernel_rfl) (by kernel_rfl) rfl rfl ⟨fun _ _ _ h k => h.mv (Mv.of_keep k), kI, fun _ _ _ ⟨a, e, h⟩ k => ⟨a, e, h.mv (Mv.of_keep k)⟩, fun _ _ _ ⟨a, e, h⟩ k => ⟨a, e, h.mv (Mv.of_keep k)⟩, fun _ _ _ h k => h.mv (Mv.of_keep k), kI, trivial⟩ ⟨?_, ?_, ?_, ?_, ?_, ?_, trivial⟩ ?_
 ·intro F1 w1 k1 hf hd
  have k0 := (Keep.drew [] w).trans k1
  have m1 : Mv ([]) w ([]) w1 := Mv.of_keep k0
  have h_l := h_l.mv m1
  obtain ⟨F2, rfl⟩ := lit_of (F := F1) [(1, Value.pointer (some l_a))] ⟨hf 1 (by kernel_rfl), trivial⟩
  refine sp_plain rfl ((o_loadL Try.underlying38 rfl rfl h_l fun v2768 hl2769 => (?_)))
  have := hl2769.len_le
  exact ⟨(Keep.refl _ _), hl2769⟩
 ·intro F1 w1 k1 hf hd
  obtain ⟨F2, rfl⟩ := lit_of (F := F1) [(0, vI (i : Int))] ⟨hf 0 (by kernel_rfl), trivial⟩
  exact sp_plain rfl ((o_move (vI (i : Int)) rfl (⟨(Keep.refl _ _), rfl⟩)))
 ·intro F1 w1 k1 hf hd
  obtain ⟨v2770, e2772, hl2771⟩ : ∃ v, F1 5 = v ∧ RdL Enc.share w1 ([] ++ O) v (l) := ⟨_, rfl, hd 0 5 (by kernel_rfl)⟩
  have := hl2771.len_le
  obtain ⟨F2, rfl⟩ := lit_of (F := F1) [(5, v2770), (6, vI (i : Int))] ⟨e2772, hd 1 6 (by kernel_rfl), trivial⟩
  exact sp_plain rfl ((o_idx Try.underlying38 s_53 .i64 (i : Int) i rfl rfl rfl hl2771 (by omega) fun a2773 hp2774 => (⟨(Keep.refl _ _), ⟨a2773, rfl, hp2774⟩⟩)))
 ·intro F1 w1 k1 hf hd
  obtain ⟨a2775, e2777, hp2776⟩ : ∃ a, F1 7 = .pointer (some a) ∧ PT Enc.share w1 ([] ++ O) (.pointer (some a)) (l[i]!) := hd 2 7 (by kernel_rfl)
  obtain ⟨F2, rfl⟩ := lit_of (F := F1) [(7, Value.pointer (some a2775))] ⟨e2777, trivial⟩
  exact sp_plain rfl ((o_fieldR 4 f_53_4 ((l[i]!).data) rfl hp2776 (fun _ _ _ h => Enc_share_f4 h) fun a2778 hp2779 => (⟨(Keep.refl _ _), ⟨a2778, rfl, hp2779⟩⟩)))
 ·intro F1 w1 k1 hf hd
  obtain ⟨a2780, e2782, hp2781⟩ : ∃ a, F1 8 = .pointer (some a) ∧ PT (Enc.slice Enc.u8) w1 ([] ++ O) (.pointer (some a)) ((l[i]!).data) := hd 3 8 (by kernel_rfl)
  obtain ⟨F2, rfl⟩ := lit_of (F := F1) [(8, Value.pointer (some a2780))] ⟨e2782, trivial⟩
  refine sp_plain rfl ((o_loadL Try.underlying28 rfl rfl hp2781 fun v2783 hl2784 => (?_)))
  have := hl2784.len_le
  exact ⟨(Keep.refl _ _), hl2784⟩
 ·intro F1 w1 k1 hf hd
  have k0 := (Keep.drew [] w).trans k1
  have m1 : Mv ([]) w ([]) w1 := Mv.of_keep k0
  have h_place := h_place.mv m1
  obtain ⟨F2, rfl⟩ := lit_of (F := F1) [(2, Value.pointer (some place_a))] ⟨hf 2 (by kernel_rfl), trivial⟩
  exact sp_plain rfl ((o_loadI Try.underlying3 rfl rfl h_place (⟨(Keep.refl _ _), rfl⟩)))
 intro F2786 w2787 k2785 hT2788 hF2789
 have s2790 := s0.call k2785
 obtain ⟨v2793, e2795, hl2794⟩ : ∃ v, F2786 9 = v ∧ RdL Enc.u8 w2787 ([] ++ O) v ((l[i]!).data) := ⟨_, rfl, hT2788 4 9 (by kernel_rfl) (by decide)⟩
 have := hl2794.len_le
 obtain ⟨F2, rfl⟩ := lit_of (F := F2786) [(4, vB (0 : UInt8)), (13, undef), (9, v2793), (10, vI place)] ⟨hF2789 4 (by kernel_rfl), hF2789 13 (by kernel_rfl), e2795, hT2788 5 10 (by kernel_rfl) (by decide), trivial⟩
 clear hT2788 hF2789
 refine wl_s (o_idx Try.underlying28 s_5 .i64 place place.toNat rfl rfl (by omega) hl2794 (by omega) fun a2796 hp2797 => (wl_s (o_loadB Try.underlying5 rfl rfl hp2797 (wl_s (o_assign (vB (((l[i]!).data)[place.toNat]!)) rfl (wl_nil (thenQ_n (?_))))))))
 refine cw_ret (end_r rfl (res1 rfl rfl rfl) (?_))
 have e : (l[i]!.data[(place).toNat]!) = (((l[i]!).data)[place.toNat]!) := rfl
 exact ⟨_, rfl, s2790.keep, by rw [e]; exact rfl⟩
set_option maxHeartbeats 4000000 in
set_option maxRecDepth 100000 in
theorem c_column {O : List Nat} (l_v : Value) (l : List Share) (place : Nat) (w : World) (h_l : RdL Enc.share w O l_v l) (hpre0 : l.length ≤ 1000000) (hpre1 : ∀ k, k < l.length → place < l[k]!.data.length) (hO : ∀ b ∈ O, b < w.heap.size) : CallsK Try.prog 60 [l_v, vI (place : Int)] w (fun v w' => ∃ (x0 : Value), v = x0 ∧ RdL Enc.u8 w' (O) x0 (colM l place)) :=  by
 have lim_l := h_l.len_le
 have h_l : RdL Enc.share w ([] ++ O) l_v l := h_l
 have s0 : St w O w [] := St.start hO
 refine callsK_of 9 Try.func60 rfl rfl (of_decide_eq_true rfl) (fun F0 => ?_)
 refine cw_seq (?_)
 refine cw_region (by kernel_rfl) (wl_s (o_boxR (E := (Enc.slice Enc.share)) (l_v) ([l_v]) l rfl (cells_one h_l.oneCell) ⟨_, rfl, h_l⟩ s0 fun a2798 w2799 s2800 m2801 k2802 hp2803 => (?_)))
 refine wl_s (o_boxR (E := Enc.int) (vI (place : Int)) ([vI (place : Int)]) (place : Int) rfl rfl rfl s2800 fun a2804 w2805 s2806 m2807 k2808 hp2809 => (?_))
 have hp2803 := hp2803.mv m2807
 refine wl_s (o_assign (Value.slice none 0 0) rfl (wl_nil (thenQ_n (?_))))
 refine cw_seq (?_)
 refine cw_region (by kernel_rfl) (wl_s (o_loadL Try.underlying38 rfl rfl hp2803 fun v2810 hl2811 => (?_)))
 have := hl2811.len_le
 refine wl_s (o_lenR Try.underlying38 rfl hl2811 (wl_s (o_makeFunc (first := []) (captured := [.tmp 2, .tmp 3]) [] [Value.pointer (some a2798), Value.pointer (some a2804)] rfl rfl (wl_s (o_callK (vs := [vI (l.length : Int), Value.func (.func 67) #[] #[Value.pointer (some a2798), Value.pointer (some a2804)]]) enter_53 (c_collectB (O := [] ++ O) (l.length : Int) 67 [Value.pointer (some a2798), Value.pointer (some a2804)] (fun i_ => l[i_]!.data[((place : Int)).toNat]!) w2805 enter_67 (fun w'_ O'_ kk_ hs_ hl_ i_  hc_ => c_column1 (O := O'_) i_ a2798 l a2804 (place : Int) w'_ (hp2803.on hs_ kk_) (hp2809.on hs_ kk_) (by omega) (by omega) (hpre1 i_ (by omega)) hl_) (by first | omega | assumption | (simp; done)) s2806.lt) rfl s2806 fun v2812 w2813 s2814 m2815 k2816 r2817 => (?_))))))
 obtain ⟨_, rfl, hl2818⟩ := r2817
 have := hl2818.len_le
 refine wl_s (o_assign (v2812) rfl (wl_nil (thenQ_n (?_))))
 refine cw_ret (end_r rfl (res1 rfl rfl rfl) (?_))
 have e : (colM l place) = ((List.range ((l.length : Int)).toNat).map (fun i_ => l[i_]!.data[((place : Int)).toNat]!)) := rfl
 exact ⟨_, rfl, s2814.keep, by rw [e]; exact ⟨v2812, rfl, hl2818.out⟩⟩
set_option maxHeartbeats 4000000 in
set_option maxRecDepth 100000 in
theorem c_join1 {O : List Nat} (p : Nat) (xs_a : Addr) (xs : (List UInt8)) (l_a : Addr) (l : (List Share)) (w : World) (h_xs : PT (Enc.slice Enc.u8) w O (.pointer (some xs_a)) xs) (h_l : PT (Enc.slice Enc.share) w O (.pointer (some l_a)) l) (hpre0 : l.length ≤ 1000) (hpre1 : xs.length < 1000) (hpre2 : ∀ k, k < l.length → p < l[k]!.data.length) (hO : ∀ b ∈ O, b < w.heap.size) : CallsK Try.prog 59 [vI (p : Int), .pointer (some xs_a), .pointer (some l_a)] w (fun v _ => v = vB ((through xs (colM l p) 0).1)) :=  by
 have h_xs : PT (Enc.slice Enc.u8) w ([] ++ O) (.pointer (some xs_a)) xs := h_xs
 have h_l : PT (Enc.slice Enc.share) w ([] ++ O) (.pointer (some l_a)) l := h_l
 have s0 : St w O w [] := St.start hO
 refine callsK_of 16 Try.func59 rfl rfl (of_decide_eq_true rfl) (fun F0 => ?_)
 refine cw_seq (?_)
 refine cw_region (by kernel_rfl) (wl_s (o_assign (vB (0 : UInt8)) rfl (wl_nil (thenQ_n (?_)))))
 refine cw_seq (?_)
 refine cw_draw' 9 _ _ [fun (vT : Value) (wT : World) => RdL Enc.u8 wT ([] ++ O) vT (xs), fun (vT : Value) (wT : World) => RdL Enc.share wT ([] ++ O) vT (l), isV (vI (p : Int)), fun (vT : Value) (wT : World) => RdL Enc.u8 wT ([] ++ O) vT (colM l p), isV (Value.tuple #[vB ((through xs (colM l p) (0 : UInt8)).1), vI ((through xs (colM l p) (0 : UInt8)).2)]), isV (Value.tuple #[vB ((through xs (colM l p) (0 : UInt8)).1), vI ((through xs (colM l p) (0 : UInt8)).2)]), isV (vB ((through xs (colM l p) (0 : UInt8)).1)), isV (vI ((through xs (colM l p) (0 : UInt8)).2)), isV (vB ((through xs (colM l p) (0 : UInt8)).1))] (by kernel_rfl) (by kernel_rfl) (by kernel_rfl) (by kernel_rfl) rfl rfl ⟨fun _ _ _ h k => h.mv (Mv.of_keep k), fun _ _ _ h k => h.mv (Mv.of_keep k), kI, fun _ _ _ h k => h.mv (Mv.of_keep k), kI, kI, kI, kI, kI, trivial⟩ ⟨?_, ?_, ?_, ?_, ?_, ?_, ?_, ?_, ?_, trivial⟩ ?_
 ·intro F1 w1 k1 hf hd
  have k0 := (Keep.drew [] w).trans k1
  have m1 : Mv ([]) w ([]) w1 := Mv.of_keep k0
  have h_xs := h_xs.mv m1
  obtain ⟨F2, rfl⟩ := lit_of (F := F1) [(1, Value.pointer (some xs_a))] ⟨hf 1 (by kernel_rfl), trivial⟩
  refine sp_plain rfl ((o_loadL Try.underlying28 rfl rfl h_xs fun v2819 hl2820 => (?_)))
  have := hl2820.len_le
  exact ⟨(Keep.refl _ _), hl2820⟩
 ·intro F1 w1 k1 hf hd
  have k0 := (Keep.drew [] w).trans k1
  have m1 : Mv ([]) w ([]) w1 := Mv.of_keep k0
  have h_l := h_l.mv m1
  obtain ⟨F2, rfl⟩ := lit_of (F := F1) [(2, Value.pointer (some l_a))] ⟨hf 2 (by kernel_rfl), trivial⟩
  refine sp_plain rfl ((o_loadL Try.underlying38 rfl rfl h_l fun v2821 hl2822 => (?_)))
  have := hl2822.len_le
  exact ⟨(Keep.refl _ _), hl2822⟩
 ·intro F1 w1 k1 hf hd
  obtain ⟨F2, rfl⟩ := lit_of (F := F1) [(0, vI (p : Int))] ⟨hf 0 (by kernel_rfl), trivial⟩
  exact sp_plain rfl ((o_move (vI (p : Int)) rfl (⟨(Keep.refl _ _), rfl⟩)))
 ·intro F1 w1 k1 hf hd
  have k0 := (Keep.drew [] w).trans k1
  have s1 := s0.call k0
  obtain ⟨v2823, e2825, hl2824⟩ : ∃ v, F1 9 = v ∧ RdL Enc.share w1 ([] ++ O) v (l) := ⟨_, rfl, hd 1 9 (by kernel_rfl)⟩
  have := hl2824.len_le
  obtain ⟨F2, rfl⟩ := lit_of (F := F1) [(9, v2823), (10, vI (p : Int))] ⟨e2825, hd 2 10 (by kernel_rfl), trivial⟩
  refine sp_plain rfl ((o_callK (vs := [v2823, vI (p : Int)]) enter_60 (c_column (O := [] ++ O) v2823 l p w1 hl2824 (by omega) hpre2 s1.lt) rfl s1 fun v2826 w2827 s2828 m2829 k2830 r2831 => (?_)))
  obtain ⟨_, rfl, hl2832⟩ := r2831
  have := hl2832.len_le
  exact ⟨k2830, hl2832⟩
 ·intro F1 w1 k1 hf hd
  have k0 := (Keep.drew [] w).trans k1
  have s1 := s0.call k0
  obtain ⟨v2833, e2835, hl2834⟩ : ∃ v, F1 8 = v ∧ RdL Enc.u8 w1 ([] ++ O) v (xs) := ⟨_, rfl, hd 0 8 (by kernel_rfl)⟩
  have := hl2834.len_le
  obtain ⟨v2836, e2838, hl2837⟩ : ∃ v, F1 11 = v ∧ RdL Enc.u8 w1 ([] ++ O) v (colM l p) := ⟨_, rfl, hd 3 11 (by kernel_rfl)⟩
  have := hl2837.len_le
  obtain ⟨F2, rfl⟩ := lit_of (F := F1) [(8, v2833), (11, v2836)] ⟨e2835, e2838, trivial⟩
  refine sp_plain rfl ((o_callK (vs := [v2833, v2836, vB (0 : UInt8)]) enter_22 (c_through (O := [] ++ O) v2833 xs v2836 (colM l p) (0 : UInt8) w1 hl2834 hl2837 (by first | omega | assumption | (simp; done)) s1.lt) rfl s1 fun v2839 w2840 s2841 m2842 k2843 r2844 => (?_)))
  obtain rfl := r2844
  exact ⟨k2843, rfl⟩
 ·intro F1 w1 k1 hf hd
  obtain ⟨F2, rfl⟩ := lit_of (F := F1) [(12, Value.tuple #[vB ((through xs (colM l p) (0 : UInt8)).1), vI ((through xs (colM l p) (0 : UInt8)).2)])] ⟨hd 4 12 (by kernel_rfl), trivial⟩
  exact sp_plain rfl ((o_move (Value.tuple #[vB ((through xs (colM l p) (0 : UInt8)).1), vI ((through xs (colM l p) (0 : UInt8)).2)]) rfl (⟨(Keep.refl _ _), rfl⟩)))
 ·intro F1 w1 k1 hf hd
  obtain ⟨F2, rfl⟩ := lit_of (F := F1) [(7, Value.tuple #[vB ((through xs (colM l p) (0 : UInt8)).1), vI ((through xs (colM l p) (0 : UInt8)).2)])] ⟨hd 5 7 (by kernel_rfl), trivial⟩
  exact sp_plain rfl ((o_extract (vB ((through xs (colM l p) (0 : UInt8)).1)) rfl rfl (⟨(Keep.refl _ _), rfl⟩)))
 ·intro F1 w1 k1 hf hd
  obtain ⟨F2, rfl⟩ := lit_of (F := F1) [(7, Value.tuple #[vB ((through xs (colM l p) (0 : UInt8)).1), vI ((through xs (colM l p) (0 : UInt8)).2)])] ⟨hd 5 7 (by kernel_rfl), trivial⟩
  exact sp_plain rfl ((o_extract (vI ((through xs (colM l p) (0 : UInt8)).2)) rfl rfl (⟨(Keep.refl _ _), rfl⟩)))
 ·intro F1 w1 k1 hf hd
  obtain ⟨F2, rfl⟩ := lit_of (F := F1) [(13, vB ((through xs (colM l p) (0 : UInt8)).1))] ⟨hd 6 13 (by kernel_rfl), trivial⟩
  exact sp_plain rfl ((o_assign (vB ((through xs (colM l p) (0 : UInt8)).1)) rfl (⟨(Keep.refl _ _), rfl⟩)))
 intro F2846 w2847 k2845 hT2848 hF2849
 have s2850 := s0.call k2845
 obtain ⟨F2, rfl⟩ := lit_of (F := F2846) [(16, undef), (5, vB ((through xs (colM l p) (0 : UInt8)).1)), (14, vI ((through xs (colM l p) (0 : UInt8)).2))] ⟨hF2849 16 (by kernel_rfl), hT2848 8 5 (by kernel_rfl) (by decide), hT2848 7 14 (by kernel_rfl) (by decide), trivial⟩
 clear hT2848 hF2849
 refine wl_s (o_assign (vI ((through xs (colM l p) (0 : UInt8)).2)) rfl (wl_nil (thenQ_n (?_))))
 refine cw_seq (?_)
 refine cw_region (by kernel_rfl) (wl_s (o_move (vB ((through xs (colM l p) (0 : UInt8)).1)) rfl (wl_s (o_assign (vB ((through xs (colM l p) (0 : UInt8)).1)) rfl (wl_nil (thenQ_n (?_)))))))
 refine cw_ret (end_r rfl (res1 rfl rfl rfl) (?_))
 have e : ((through xs (colM l p) 0).1) = ((through xs (colM l p) (0 : UInt8)).1) := rfl
 exact ⟨_, rfl, s2850.keep, by rw [e]; exact rfl⟩
set_option maxHeartbeats 4000000 in
set_option maxRecDepth 100000 in
theorem c_join {O : List Nat} (l_v : Value) (l : List Share) (w : World) (h_l : RdL Enc.share w O l_v l) (hO : ∀ b ∈ O, b < w.heap.size) : CallsK Try.prog 35 [l_v] w (fun v w' => ∃ (x0 : Value), v = .tuple #[x0, vI ((joinM l).2)] ∧ RdL Enc.u8 w' (O) x0 ((joinM l).1)) :=  by
 have lim_l := h_l.len_le
 have h_l : RdL Enc.share w ([] ++ O) l_v l := h_l
 have s0 : St w O w [] := St.start hO
 refine callsK_of 34 Try.func35 rfl rfl (of_decide_eq_true rfl) (fun F0 => ?_)
 refine cw_seq (?_)
 refine cw_region (by kernel_rfl) (wl_s (o_box (l_v) [l_v] rfl (cells_one h_l.oneCell) s0 fun b2853 w2854 e2859 s2855 m2856 k2857 bx2858 => (?_)))
 clear e2859
 have h_l := h_l.mv m2856
 refine wl_s (o_assign (Value.slice none 0 0) rfl (wl_s (o_assign (vI (0 : Int)) rfl (wl_nil (thenQ_n (?_))))))
 refine cw_seq (?_)
 refine cw_seq (?_)
 refine cw_region (by kernel_rfl) (wl_s (o_loadBx Try.underlying38 rfl (l_v) rfl bx2858 rfl (wl_s (o_callK (vs := [l_v]) enter_32 (c_check8 (O := (b2853 :: []) ++ O) l_v l w2854 h_l s2855.lt) rfl s2855 fun v2860 w2861 s2862 m2863 k2864 r2865 => (?_)))))
 obtain rfl := r2865
 have h_l := h_l.mv m2863
 have bx2858 := bx2858.keep k2864 (by simp)
 refine wl_s (o_assign (vI (checkM l)) rfl (wl_nil (thenQ_n (?_))))
 refine cw_seq (?_)
 refine cw_region (by kernel_rfl) (wl_s (o_move (vI (checkM l)) rfl (wl_s (o_neq .i64 (checkM l) (0 : Int) rfl rfl (wl_nil (thenQ_n (?_)))))))
 refine cw_cond ((checkM l) != (0 : Int)) rfl rfl (fun hc2866 => ?_) (fun hc2866 => ?_)
 ·have hp2867 : checkM l ≠ (0 : Int) := by first | simpa using hc2866 | (have e := hc2866; simp at e; omega)
  refine cw_seq (?_)
  refine cw_region (by kernel_rfl) (wl_s (o_move (vI (checkM l)) rfl (wl_s (o_assign (Value.slice none 0 0) rfl (wl_s (o_assign (vI (checkM l)) rfl (wl_nil (thenQ_n (?_)))))))))
  refine cw_ret (thenQ_r (end_r rfl (res2 rfl rfl rfl rfl) (?_)))
  have e : (joinM l) = ([], checkM l) := by first | exact joinM_ok (by omega) (by omega) rfl | exact joinM_bad (by omega) rfl | exact joinM_few (by omega) (by omega) rfl
  exact ⟨_, rfl, s2862.keep, by rw [e]; exact ⟨.slice none 0 0, rfl, RdL.nil _ _ _⟩⟩
 ·have hp2868 : checkM l = (0 : Int) := by first | simpa using hc2866 | (have e := hc2866; simp at e; omega)
  have hv := (check_iff l).1 hp2868
  have hpos := hv.pos
  have ht1 := hv.t1
  have htm := hv.tm
  have hm8 := hv.m8
  have hd64 := hv.d64
  refine cw_skip (thenQ_n (?_))
  refine cw_seq (?_)
  refine cw_region (by kernel_rfl) (wl_s (o_loadBx Try.underlying38 rfl (l_v) rfl bx2858 rfl (wl_s (o_idx Try.underlying38 s_53 .i64 (0 : Int) 0 rfl rfl rfl h_l (by omega) fun a2869 hp2870 => (wl_s (o_fieldR 2 f_53_2 ((l[0]!).threshold) rfl hp2870 (fun _ _ _ h => Enc_share_f2 h) fun a2871 hp2872 => (wl_s (o_loadI Try.underlying3 rfl rfl hp2872 (wl_s (o_assign (vI ((l[0]!).threshold)) rfl (wl_nil (thenQ_n (?_)))))))))))))
  refine cw_seq (?_)
  refine cw_seq (?_)
  refine cw_region (by kernel_rfl) (wl_s (o_loadBx Try.underlying38 rfl (l_v) rfl bx2858 rfl (wl_s (o_lenR Try.underlying38 rfl h_l (wl_s (o_move (vI ((l[0]!).threshold)) rfl (wl_s (o_lss .i64 (l.length : Int) ((l[0]!).threshold) rfl rfl (wl_nil (thenQ_n (?_)))))))))))
  refine cw_cond (decide ((l.length : Int) < (l[0]!).threshold)) rfl rfl (fun hc2873 => ?_) (fun hc2873 => ?_)
  ·have hp2874 : (l.length : Int) < (l[0]!).threshold := by first | simpa using hc2873 | (have e := hc2873; simp at e; omega)
   refine cw_seq (?_)
   refine cw_region (by kernel_rfl) (wl_s (o_assign (Value.slice none 0 0) rfl (wl_s (o_assign (vI (80 : Int)) rfl (wl_nil (thenQ_n (?_)))))))
   refine cw_ret (thenQ_r (end_r rfl (res2 rfl rfl rfl rfl) (?_)))
   have e : (joinM l) = ([], (80 : Int)) := by first | exact joinM_ok (by omega) (by omega) rfl | exact joinM_bad (by omega) rfl | exact joinM_few (by omega) (by omega) rfl
   exact ⟨_, rfl, s2862.keep, by rw [e]; exact ⟨.slice none 0 0, rfl, RdL.nil _ _ _⟩⟩
  ·have hp2875 : (l[0]!).threshold ≤ (l.length : Int) := by first | simpa using hc2873 | (have e := hc2873; simp at e; omega)
   have htk : (l.take (l[0]!.threshold).toNat).length = l[0]!.threshold.toNat := by rw [List.length_take]; omega
   refine cw_skip (thenQ_n (?_))
   refine cw_seq (?_)
   refine cw_region (by kernel_rfl) (wl_s (o_loadBx Try.underlying38 rfl (l_v) rfl bx2858 rfl (wl_s (o_move (vI ((l[0]!).threshold)) rfl (wl_s (o_move (vI ((l[0]!).threshold)) rfl (wl_s (o_slice3R Try.underlying38 s_53 0 (((l[0]!).threshold).toNat) (((l[0]!).threshold).toNat) rfl (.inl ⟨rfl, rfl⟩) .i64 .i64 ((l[0]!).threshold) ((l[0]!).threshold) rfl (by omega) rfl (by omega) (by omega) (by omega) (by omega) h_l fun v2876 hl2877 => (?_)))))))))
   rw [List.drop_zero] at hl2877
   refine wl_n (o_store1 (v2876) rfl rfl hl2877.oneCell s_38 (by first | assumption | (repeat (first | exact List.mem_cons_self | assumption | apply List.mem_cons_of_mem))) bx2858 (of_decide_eq_true rfl) s2862 fun w2878 s2879 m2880 k2881 bx2882 => (?_))
   have hl2877 := hl2877.mv m2880
   refine wl_nil (thenQ_n (?_))
   refine cw_seq (?_)
   refine cw_region (by kernel_rfl) (wl_s (o_loadBx Try.underlying38 rfl (v2876) rfl bx2882 rfl (wl_s (o_callK (vs := [v2876]) enter_58 (c_indices (O := (b2853 :: []) ++ O) v2876 (l.take (((l[0]!).threshold).toNat)) w2878 hl2877 (by omega) s2879.lt) rfl s2879 fun v2883 w2884 s2885 m2886 k2887 r2888 => (?_)))))
   obtain ⟨_, rfl, hl2889⟩ := r2888
   have := hl2889.len_le
   have hl2877 := hl2877.mv m2886
   have bx2882 := bx2882.keep k2887 (by simp)
   refine wl_s (o_alloc [Value.slice none 0 0] z_28 rfl s2885 fun b2890 w2891 e2896 s2892 m2893 k2894 bx2895 => (?_))
   have ne2897 : b2853 ≠ b2890 := by have := bx2882.lt; omega
   clear e2896
   have hl2877 := hl2877.mv m2893
   have hl2889 := hl2889.mv m2893
   have bx2882 := bx2882.keep k2894 (by simp)
   refine wl_n (o_store1 (v2883) rfl rfl hl2889.oneCell s_28 (by first | assumption | (repeat (first | exact List.mem_cons_self | assumption | apply List.mem_cons_of_mem))) bx2895 (of_decide_eq_true rfl) s2892 fun w2898 s2899 m2900 k2901 bx2902 => (?_))
   have hl2877 := hl2877.mv m2900
   have hl2889 := hl2889.mv m2900
   have bx2882 := bx2882.keep k2901 (by simp only [List.mem_singleton]; first | omega | exact ne2897)
   refine wl_nil (thenQ_n (?_))
   refine cw_seq (?_)
   refine cw_region (by kernel_rfl) (wl_s (o_loadBx Try.underlying38 rfl (v2876) rfl bx2882 rfl (wl_s (o_idx Try.underlying38 s_53 .i64 (0 : Int) 0 rfl rfl rfl hl2877 (by omega) fun a2903 hp2904 => (wl_s (o_fieldR 4 f_53_4 (((l.take (((l[0]!).threshold).toNat))[0]!).data) rfl hp2904 (fun _ _ _ h => Enc_share_f4 h) fun a2905 hp2906 => (wl_s (o_loadL Try.underlying28 rfl rfl hp2906 fun v2907 hl2908 => (?_)))))))))
   have := hl2908.len_le
   refine wl_s (o_lenR Try.underlying28 rfl hl2908 (?_))
   obtain ⟨B2909, s2910, m2911, hp2912, hk2913⟩ := bx2902.publish (E := (Enc.slice Enc.u8)) (u := idxM (l.take (((l[0]!).threshold).toNat))) ⟨_, rfl, hl2889⟩ s2899 (by first | assumption | (repeat (first | exact List.mem_cons_self | assumption | apply List.mem_cons_of_mem)))
   have hin_b2853 : b2853 ∈ B2909 := hk2913 b2853 (by first | assumption | (repeat (first | exact List.mem_cons_self | assumption | apply List.mem_cons_of_mem))) ne2897
   have hl2877 := hl2877.mv m2911
   have bx2882 := bx2882.keep (Keep.refl [] _) (by simp)
   obtain ⟨B2914, s2915, m2916, hp2917, hk2918⟩ := bx2882.publish (E := (Enc.slice Enc.share)) (u := (l.take (((l[0]!).threshold).toNat))) ⟨_, rfl, hl2877⟩ s2910 (by first | assumption | (repeat (first | exact List.mem_cons_self | assumption | apply List.mem_cons_of_mem)))
   have hp2912 := hp2912.mv m2916
   refine wl_s (o_makeFunc (first := []) (captured := [.tmp 6, .tmp 1]) [] [Value.pointer (some ⟨b2890, 0, none⟩), Value.pointer (some ⟨b2853, 0, none⟩)] rfl rfl (wl_s (o_callK (vs := [vI ((((l.take (((l[0]!).threshold).toNat))[0]!).data).length : Int), Value.func (.func 59) #[] #[Value.pointer (some ⟨b2890, 0, none⟩), Value.pointer (some ⟨b2853, 0, none⟩)]]) enter_53 (c_collectB (O := B2914 ++ O) ((((l.take (((l[0]!).threshold).toNat))[0]!).data).length : Int) 59 [Value.pointer (some ⟨b2890, 0, none⟩), Value.pointer (some ⟨b2853, 0, none⟩)] (fun i_ => (through (idxM (l.take (((l[0]!).threshold).toNat))) (colM (l.take (((l[0]!).threshold).toNat)) i_) 0).1) w2898 enter_59 (fun w'_ O'_ kk_ hs_ hl_ i_  hc_ => c_join1 (O := O'_) i_ (⟨b2890, 0, none⟩) (idxM (l.take (((l[0]!).threshold).toNat))) (⟨b2853, 0, none⟩) (l.take (((l[0]!).threshold).toNat)) w'_ (hp2912.on hs_ kk_) (hp2917.on hs_ kk_) (by omega) (by rw [idxM_len]; omega) (fun k hk => by rw [takeS (by omega), hv.da k (by omega)]; rw [take0 (by omega)] at hc_; omega) hl_) (by rw [take0 (by omega)]; omega) s2915.lt) rfl s2915 fun v2919 w2920 s2921 m2922 k2923 r2924 => (?_))))
   obtain ⟨_, rfl, hl2925⟩ := r2924
   have := hl2925.len_le
   refine wl_s (o_assign (v2919) rfl (wl_nil (thenQ_n (?_))))
   refine cw_seq (?_)
   refine cw_region (by kernel_rfl) (wl_s (o_move (v2919) rfl (wl_s (o_assign (v2919) rfl (wl_s (o_assign (vI (0 : Int)) rfl (wl_nil (thenQ_n (?_)))))))))
   refine cw_ret (end_r rfl (res2 rfl rfl rfl rfl) (?_))
   have e : (joinM l) = ((List.range (((((l.take (((l[0]!).threshold).toNat))[0]!).data).length : Int)).toNat).map (fun i_ => (through (idxM (l.take (((l[0]!).threshold).toNat))) (colM (l.take (((l[0]!).threshold).toNat)) i_) 0).1), (0 : Int)) := by first | exact joinM_ok (by omega) (by omega) rfl | exact joinM_bad (by omega) rfl | exact joinM_few (by omega) (by omega) rfl
   exact ⟨_, rfl, s2921.keep, by rw [e]; exact ⟨v2919, rfl, hl2925.out⟩⟩

end Go.Proofs.Yteajcgfcnbdmgaa
