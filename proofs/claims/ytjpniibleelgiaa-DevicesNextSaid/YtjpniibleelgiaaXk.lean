/- Walks, printed by gen.py. -/
import Derived.Test.YtjpniibleelgiaaXq
import Derived.Test.YtjpniibleelgiaaXt
import Derived.Test.YtjpniibleelgiaaXe
import Derived.Test.YtjpniibleelgiaaXd
set_option linter.unusedSimpArgs false
set_option linter.unusedVariables false
namespace Go.Proofs.Ytjpniibleelgiaa
open Go.Fw Go.RowKit

set_option maxHeartbeats 4000000 in
set_option maxRecDepth 100000 in
theorem c_give {O : List Nat} (device : Int) (no : Int) (copy : Int) (to : Int) (token : Int) (w : World) (hO : ∀ b ∈ O, b < w.heap.size) : CallsK Try.prog 65 [vI device, vI no, vI copy, vI to, vI token] w (fun v w' => ∃ (x0 : List Value), v = .agg x0.toArray ∧ Enc.devop.rd w' (O) x0 ((⟨device, no, 1, copy, to, token⟩ : DeviceOp))) :=  by
 have s0 : St w O w [] := St.start hO
 refine callsK_of 17 Try.func65 rfl rfl (of_decide_eq_true rfl) (fun F0 => ?_)
 refine cw_seq (?_)
 refine cw_region (by kernel_rfl) (wl_s (o_alloc [vI (0 : Int), vI (0 : Int), vI (0 : Int), vI (0 : Int), vI (0 : Int), vI (0 : Int)] z_40 rfl s0 fun b2675 w2676 e2681 s2677 m2678 k2679 bx2680 => (?_)))
 clear e2681
 refine wl_nil (thenQ_n (?_))
 refine cw_seq (?_)
 refine cw_region (by kernel_rfl) (wl_s (o_move (vI device) rfl (wl_s (o_move (vI no) rfl (wl_s (o_move (vI copy) rfl (wl_s (o_move (vI to) rfl (wl_s (o_move (vI token) rfl (wl_s (o_build (l := [(0, .tmp 11), (1, .tmp 12), (2, .const (vI (1 : Int))), (3, .tmp 13), (4, .tmp 14), (5, .tmp 15)]) pl_40 z_40 rfl [(0, vI device, [vI device]), (1, vI no, [vI no]), (2, vI (1 : Int), [vI (1 : Int)]), (3, vI copy, [vI copy]), (4, vI to, [vI to]), (5, vI token, [vI token])] [vI device, vI no, vI (1 : Int), vI copy, vI to, vI token] rfl ⟨_, rfl, rfl, (of_decide_eq_true rfl), ⟨_, rfl, rfl, (of_decide_eq_true rfl), ⟨_, rfl, rfl, (of_decide_eq_true rfl), ⟨_, rfl, rfl, (of_decide_eq_true rfl), ⟨_, rfl, rfl, (of_decide_eq_true rfl), ⟨_, rfl, rfl, (of_decide_eq_true rfl), rfl⟩⟩⟩⟩⟩⟩ (wl_n (o_store (vs := [vI device, vI no, vI (1 : Int), vI copy, vI to, vI token]) (.agg #[vI device, vI no, vI (1 : Int), vI copy, vI to, vI token]) rfl rfl rfl s_40 (fun u hu => by simp only [List.mem_cons, List.not_mem_nil, or_false] at hu; rcases hu with rfl | rfl | rfl | rfl | rfl | rfl <;> first | rfl) (by repeat (first | assumption | constructor)) bx2680 (of_decide_eq_true rfl) s2677 fun w2682 s2683 m2684 k2685 bx2686 => (?_)))))))))))))))
 refine wl_nil (thenQ_n (?_))
 refine cw_ret (end_r rfl (rescA (vs := [vI device, vI no, vI (1 : Int), vI copy, vI to, vI token]) rfl rfl Try.underlying40 rfl s_40 rfl bx2686 rfl) (?_))
 have e : (⟨device, no, 1, copy, to, token⟩ : DeviceOp) = (⟨device, no, (1 : Int), copy, to, token⟩ : DeviceOp) := rfl
 exact ⟨_, rfl, s2683.keep, by rw [e]; first | done | exact ⟨[vI device, vI no, vI (1 : Int), vI copy, vI to, vI token], rfl, Enc.out (B := (b2675 :: [])) rfl⟩⟩
set_option maxHeartbeats 4000000 in
set_option maxRecDepth 100000 in
theorem c_show {O : List Nat} (device : Int) (no : Int) (copy : Int) (token : Int) (w : World) (hO : ∀ b ∈ O, b < w.heap.size) : CallsK Try.prog 66 [vI device, vI no, vI copy, vI token] w (fun v w' => ∃ (x0 : List Value), v = .agg x0.toArray ∧ Enc.devop.rd w' (O) x0 ((⟨device, no, 2, copy, 0, token⟩ : DeviceOp))) :=  by
 have s0 : St w O w [] := St.start hO
 refine callsK_of 14 Try.func66 rfl rfl (of_decide_eq_true rfl) (fun F0 => ?_)
 refine cw_seq (?_)
 refine cw_region (by kernel_rfl) (wl_s (o_alloc [vI (0 : Int), vI (0 : Int), vI (0 : Int), vI (0 : Int), vI (0 : Int), vI (0 : Int)] z_40 rfl s0 fun b2687 w2688 e2693 s2689 m2690 k2691 bx2692 => (?_)))
 clear e2693
 refine wl_nil (thenQ_n (?_))
 refine cw_seq (?_)
 refine cw_region (by kernel_rfl) (wl_s (o_move (vI device) rfl (wl_s (o_move (vI no) rfl (wl_s (o_move (vI copy) rfl (wl_s (o_move (vI token) rfl (wl_s (o_build (l := [(0, .tmp 9), (1, .tmp 10), (2, .const (vI (2 : Int))), (3, .tmp 11), (5, .tmp 12)]) pl_40 z_40 rfl [(0, vI device, [vI device]), (1, vI no, [vI no]), (2, vI (2 : Int), [vI (2 : Int)]), (3, vI copy, [vI copy]), (5, vI token, [vI token])] [vI device, vI no, vI (2 : Int), vI copy, vI (0 : Int), vI token] rfl ⟨_, rfl, rfl, (of_decide_eq_true rfl), ⟨_, rfl, rfl, (of_decide_eq_true rfl), ⟨_, rfl, rfl, (of_decide_eq_true rfl), ⟨_, rfl, rfl, (of_decide_eq_true rfl), ⟨_, rfl, rfl, (of_decide_eq_true rfl), rfl⟩⟩⟩⟩⟩ (wl_n (o_store (vs := [vI device, vI no, vI (2 : Int), vI copy, vI (0 : Int), vI token]) (.agg #[vI device, vI no, vI (2 : Int), vI copy, vI (0 : Int), vI token]) rfl rfl rfl s_40 (fun u hu => by simp only [List.mem_cons, List.not_mem_nil, or_false] at hu; rcases hu with rfl | rfl | rfl | rfl | rfl | rfl <;> first | rfl) (by repeat (first | assumption | constructor)) bx2692 (of_decide_eq_true rfl) s2689 fun w2694 s2695 m2696 k2697 bx2698 => (?_)))))))))))))
 refine wl_nil (thenQ_n (?_))
 refine cw_ret (end_r rfl (rescA (vs := [vI device, vI no, vI (2 : Int), vI copy, vI (0 : Int), vI token]) rfl rfl Try.underlying40 rfl s_40 rfl bx2698 rfl) (?_))
 have e : (⟨device, no, 2, copy, 0, token⟩ : DeviceOp) = (⟨device, no, (2 : Int), copy, (0 : Int), token⟩ : DeviceOp) := rfl
 exact ⟨_, rfl, s2695.keep, by rw [e]; first | done | exact ⟨[vI device, vI no, vI (2 : Int), vI copy, vI (0 : Int), vI token], rfl, Enc.out (B := (b2687 :: [])) rfl⟩⟩
def dA : List DeviceOp := (addM [] ⟨2, 1, 1, 0, 1, 1⟩).1
def dB : List DeviceOp := (addM dA ⟨1, 1, 2, 0, 0, 2⟩).1
def dG : List DeviceOp := (addM dB ⟨1, 1, 2, 0, 0, 2⟩).1
def dE : List DeviceOp := (addM dB ⟨1, 1, 2, 3, 0, 1⟩).1
def dM : List DeviceOp := (mergeM [] dB).1
def dS : List Holding := (stateM dB 2 2).1
def dN : List Holding := (stateM [] 1 2).1
set_option maxHeartbeats 4000000 in
set_option maxRecDepth 100000 in
theorem c_sane42 {O : List Nat} (w : World) (hO : ∀ b ∈ O, b < w.heap.size) : CallsK Try.prog 25 [] w (fun v _ => v = .bool (true)) :=  by
 have s0 : St w O w [] := St.start hO
 refine callsK_of 181 Try.func25 rfl rfl (of_decide_eq_true rfl) (fun F0 => ?_)
 refine cw_seq (?_)
 refine cw_region (by kernel_rfl) (wl_s (o_assign (Value.bool false) rfl (wl_nil (thenQ_n (?_)))))
 refine cw_seq (?_)
 refine cw_region (by kernel_rfl) (wl_s (o_callK (vs := [vI (2 : Int), vI (1 : Int), vI (0 : Int), vI (1 : Int), vI (1 : Int)]) enter_65 (c_give (O := [] ++ O) (2 : Int) (1 : Int) (0 : Int) (1 : Int) (1 : Int) w s0.lt) rfl s0 fun v2699 w2700 s2701 m2702 k2703 r2704 => (?_)))
 obtain ⟨cs2705, rfl, hs2706⟩ := r2704
 obtain rfl := hs2706
 refine wl_s (o_callK (vs := [Value.slice none 0 0, Value.agg #[vI (((⟨(2 : Int), (1 : Int), 1, (0 : Int), (1 : Int), (1 : Int)⟩ : DeviceOp)).device), vI (((⟨(2 : Int), (1 : Int), 1, (0 : Int), (1 : Int), (1 : Int)⟩ : DeviceOp)).no), vI (((⟨(2 : Int), (1 : Int), 1, (0 : Int), (1 : Int), (1 : Int)⟩ : DeviceOp)).kind), vI (((⟨(2 : Int), (1 : Int), 1, (0 : Int), (1 : Int), (1 : Int)⟩ : DeviceOp)).copy), vI (((⟨(2 : Int), (1 : Int), 1, (0 : Int), (1 : Int), (1 : Int)⟩ : DeviceOp)).to), vI (((⟨(2 : Int), (1 : Int), 1, (0 : Int), (1 : Int), (1 : Int)⟩ : DeviceOp)).token)]]) enter_23 (c_add (O := [] ++ O) (.slice none 0 0) [] [vI (((⟨(2 : Int), (1 : Int), 1, (0 : Int), (1 : Int), (1 : Int)⟩ : DeviceOp)).device), vI (((⟨(2 : Int), (1 : Int), 1, (0 : Int), (1 : Int), (1 : Int)⟩ : DeviceOp)).no), vI (((⟨(2 : Int), (1 : Int), 1, (0 : Int), (1 : Int), (1 : Int)⟩ : DeviceOp)).kind), vI (((⟨(2 : Int), (1 : Int), 1, (0 : Int), (1 : Int), (1 : Int)⟩ : DeviceOp)).copy), vI (((⟨(2 : Int), (1 : Int), 1, (0 : Int), (1 : Int), (1 : Int)⟩ : DeviceOp)).to), vI (((⟨(2 : Int), (1 : Int), 1, (0 : Int), (1 : Int), (1 : Int)⟩ : DeviceOp)).token)] ((⟨(2 : Int), (1 : Int), 1, (0 : Int), (1 : Int), (1 : Int)⟩ : DeviceOp)) w2700 (RdL.nil _ _ _) rfl s2701.lt) rfl s2701 fun v2707 w2708 s2709 m2710 k2711 r2712 => (?_))
 obtain ⟨x2713, rfl, hl2714⟩ := r2712
 have := hl2714.len_le
 have hl2714 : RdL Enc.devop w2708 ([] ++ O) x2713 dA := hl2714
 refine wl_s (o_move (Value.tuple #[x2713, vI ((addM ([]) ((⟨(2 : Int), (1 : Int), 1, (0 : Int), (1 : Int), (1 : Int)⟩ : DeviceOp))).2)]) rfl (wl_s (o_extract (x2713) rfl rfl (wl_s (o_extract (vI ((addM ([]) ((⟨(2 : Int), (1 : Int), 1, (0 : Int), (1 : Int), (1 : Int)⟩ : DeviceOp))).2)) rfl rfl (wl_s (o_assign (x2713) rfl (wl_s (o_assign (vI ((addM ([]) ((⟨(2 : Int), (1 : Int), 1, (0 : Int), (1 : Int), (1 : Int)⟩ : DeviceOp))).2)) rfl (wl_nil (thenQ_n (?_))))))))))))
 refine cw_seq (?_)
 refine cw_region (by kernel_rfl) (wl_s (o_move (x2713) rfl (wl_s (o_callK (vs := [vI (1 : Int), vI (1 : Int), vI (0 : Int), vI (2 : Int)]) enter_66 (c_show (O := [] ++ O) (1 : Int) (1 : Int) (0 : Int) (2 : Int) w2708 s2709.lt) rfl s2709 fun v2715 w2716 s2717 m2718 k2719 r2720 => (?_)))))
 obtain ⟨cs2721, rfl, hs2722⟩ := r2720
 obtain rfl := hs2722
 have hl2714 := hl2714.mv m2718
 refine wl_s (o_callK (vs := [x2713, Value.agg #[vI (((⟨(1 : Int), (1 : Int), 2, (0 : Int), 0, (2 : Int)⟩ : DeviceOp)).device), vI (((⟨(1 : Int), (1 : Int), 2, (0 : Int), 0, (2 : Int)⟩ : DeviceOp)).no), vI (((⟨(1 : Int), (1 : Int), 2, (0 : Int), 0, (2 : Int)⟩ : DeviceOp)).kind), vI (((⟨(1 : Int), (1 : Int), 2, (0 : Int), 0, (2 : Int)⟩ : DeviceOp)).copy), vI (((⟨(1 : Int), (1 : Int), 2, (0 : Int), 0, (2 : Int)⟩ : DeviceOp)).to), vI (((⟨(1 : Int), (1 : Int), 2, (0 : Int), 0, (2 : Int)⟩ : DeviceOp)).token)]]) enter_23 (c_add (O := [] ++ O) x2713 dA [vI (((⟨(1 : Int), (1 : Int), 2, (0 : Int), 0, (2 : Int)⟩ : DeviceOp)).device), vI (((⟨(1 : Int), (1 : Int), 2, (0 : Int), 0, (2 : Int)⟩ : DeviceOp)).no), vI (((⟨(1 : Int), (1 : Int), 2, (0 : Int), 0, (2 : Int)⟩ : DeviceOp)).kind), vI (((⟨(1 : Int), (1 : Int), 2, (0 : Int), 0, (2 : Int)⟩ : DeviceOp)).copy), vI (((⟨(1 : Int), (1 : Int), 2, (0 : Int), 0, (2 : Int)⟩ : DeviceOp)).to), vI (((⟨(1 : Int), (1 : Int), 2, (0 : Int), 0, (2 : Int)⟩ : DeviceOp)).token)] ((⟨(1 : Int), (1 : Int), 2, (0 : Int), 0, (2 : Int)⟩ : DeviceOp)) w2716 hl2714 rfl s2717.lt) rfl s2717 fun v2723 w2724 s2725 m2726 k2727 r2728 => (?_))
 obtain ⟨x2729, rfl, hl2730⟩ := r2728
 have := hl2730.len_le
 have hl2730 : RdL Enc.devop w2724 ([] ++ O) x2729 dB := hl2730
 have hl2714 := hl2714.mv m2726
 refine wl_s (o_move (Value.tuple #[x2729, vI ((addM dA ((⟨(1 : Int), (1 : Int), 2, (0 : Int), 0, (2 : Int)⟩ : DeviceOp))).2)]) rfl (wl_s (o_extract (x2729) rfl rfl (wl_s (o_extract (vI ((addM dA ((⟨(1 : Int), (1 : Int), 2, (0 : Int), 0, (2 : Int)⟩ : DeviceOp))).2)) rfl rfl (wl_s (o_assign (x2729) rfl (wl_s (o_assign (vI ((addM dA ((⟨(1 : Int), (1 : Int), 2, (0 : Int), 0, (2 : Int)⟩ : DeviceOp))).2)) rfl (wl_nil (thenQ_n (?_))))))))))))
 refine cw_seq (?_)
 refine cw_region (by kernel_rfl) (wl_s (o_move (x2729) rfl (wl_s (o_callK (vs := [vI (1 : Int), vI (1 : Int), vI (0 : Int), vI (2 : Int)]) enter_66 (c_show (O := [] ++ O) (1 : Int) (1 : Int) (0 : Int) (2 : Int) w2724 s2725.lt) rfl s2725 fun v2731 w2732 s2733 m2734 k2735 r2736 => (?_)))))
 obtain ⟨cs2737, rfl, hs2738⟩ := r2736
 obtain rfl := hs2738
 have hl2714 := hl2714.mv m2734
 have hl2730 := hl2730.mv m2734
 refine wl_s (o_callK (vs := [x2729, Value.agg #[vI (((⟨(1 : Int), (1 : Int), 2, (0 : Int), 0, (2 : Int)⟩ : DeviceOp)).device), vI (((⟨(1 : Int), (1 : Int), 2, (0 : Int), 0, (2 : Int)⟩ : DeviceOp)).no), vI (((⟨(1 : Int), (1 : Int), 2, (0 : Int), 0, (2 : Int)⟩ : DeviceOp)).kind), vI (((⟨(1 : Int), (1 : Int), 2, (0 : Int), 0, (2 : Int)⟩ : DeviceOp)).copy), vI (((⟨(1 : Int), (1 : Int), 2, (0 : Int), 0, (2 : Int)⟩ : DeviceOp)).to), vI (((⟨(1 : Int), (1 : Int), 2, (0 : Int), 0, (2 : Int)⟩ : DeviceOp)).token)]]) enter_23 (c_add (O := [] ++ O) x2729 dB [vI (((⟨(1 : Int), (1 : Int), 2, (0 : Int), 0, (2 : Int)⟩ : DeviceOp)).device), vI (((⟨(1 : Int), (1 : Int), 2, (0 : Int), 0, (2 : Int)⟩ : DeviceOp)).no), vI (((⟨(1 : Int), (1 : Int), 2, (0 : Int), 0, (2 : Int)⟩ : DeviceOp)).kind), vI (((⟨(1 : Int), (1 : Int), 2, (0 : Int), 0, (2 : Int)⟩ : DeviceOp)).copy), vI (((⟨(1 : Int), (1 : Int), 2, (0 : Int), 0, (2 : Int)⟩ : DeviceOp)).to), vI (((⟨(1 : Int), (1 : Int), 2, (0 : Int), 0, (2 : Int)⟩ : DeviceOp)).token)] ((⟨(1 : Int), (1 : Int), 2, (0 : Int), 0, (2 : Int)⟩ : DeviceOp)) w2732 hl2730 rfl s2733.lt) rfl s2733 fun v2739 w2740 s2741 m2742 k2743 r2744 => (?_))
 obtain ⟨x2745, rfl, hl2746⟩ := r2744
 have := hl2746.len_le
 have hl2746 : RdL Enc.devop w2740 ([] ++ O) x2745 dG := hl2746
 have hl2714 := hl2714.mv m2742
 have hl2730 := hl2730.mv m2742
 refine wl_s (o_move (Value.tuple #[x2745, vI ((addM dB ((⟨(1 : Int), (1 : Int), 2, (0 : Int), 0, (2 : Int)⟩ : DeviceOp))).2)]) rfl (wl_s (o_extract (x2745) rfl rfl (wl_s (o_extract (vI ((addM dB ((⟨(1 : Int), (1 : Int), 2, (0 : Int), 0, (2 : Int)⟩ : DeviceOp))).2)) rfl rfl (wl_s (o_assign (x2745) rfl (wl_s (o_assign (vI ((addM dB ((⟨(1 : Int), (1 : Int), 2, (0 : Int), 0, (2 : Int)⟩ : DeviceOp))).2)) rfl (wl_nil (thenQ_n (?_))))))))))))
 refine cw_seq (?_)
 refine cw_region (by kernel_rfl) (wl_s (o_move (x2729) rfl (wl_s (o_callK (vs := [vI (1 : Int), vI (1 : Int), vI (3 : Int), vI (1 : Int)]) enter_66 (c_show (O := [] ++ O) (1 : Int) (1 : Int) (3 : Int) (1 : Int) w2740 s2741.lt) rfl s2741 fun v2747 w2748 s2749 m2750 k2751 r2752 => (?_)))))
 obtain ⟨cs2753, rfl, hs2754⟩ := r2752
 obtain rfl := hs2754
 have hl2714 := hl2714.mv m2750
 have hl2730 := hl2730.mv m2750
 have hl2746 := hl2746.mv m2750
 refine wl_s (o_callK (vs := [x2729, Value.agg #[vI (((⟨(1 : Int), (1 : Int), 2, (3 : Int), 0, (1 : Int)⟩ : DeviceOp)).device), vI (((⟨(1 : Int), (1 : Int), 2, (3 : Int), 0, (1 : Int)⟩ : DeviceOp)).no), vI (((⟨(1 : Int), (1 : Int), 2, (3 : Int), 0, (1 : Int)⟩ : DeviceOp)).kind), vI (((⟨(1 : Int), (1 : Int), 2, (3 : Int), 0, (1 : Int)⟩ : DeviceOp)).copy), vI (((⟨(1 : Int), (1 : Int), 2, (3 : Int), 0, (1 : Int)⟩ : DeviceOp)).to), vI (((⟨(1 : Int), (1 : Int), 2, (3 : Int), 0, (1 : Int)⟩ : DeviceOp)).token)]]) enter_23 (c_add (O := [] ++ O) x2729 dB [vI (((⟨(1 : Int), (1 : Int), 2, (3 : Int), 0, (1 : Int)⟩ : DeviceOp)).device), vI (((⟨(1 : Int), (1 : Int), 2, (3 : Int), 0, (1 : Int)⟩ : DeviceOp)).no), vI (((⟨(1 : Int), (1 : Int), 2, (3 : Int), 0, (1 : Int)⟩ : DeviceOp)).kind), vI (((⟨(1 : Int), (1 : Int), 2, (3 : Int), 0, (1 : Int)⟩ : DeviceOp)).copy), vI (((⟨(1 : Int), (1 : Int), 2, (3 : Int), 0, (1 : Int)⟩ : DeviceOp)).to), vI (((⟨(1 : Int), (1 : Int), 2, (3 : Int), 0, (1 : Int)⟩ : DeviceOp)).token)] ((⟨(1 : Int), (1 : Int), 2, (3 : Int), 0, (1 : Int)⟩ : DeviceOp)) w2748 hl2730 rfl s2749.lt) rfl s2749 fun v2755 w2756 s2757 m2758 k2759 r2760 => (?_))
 obtain ⟨x2761, rfl, hl2762⟩ := r2760
 have := hl2762.len_le
 have hl2762 : RdL Enc.devop w2756 ([] ++ O) x2761 dE := hl2762
 have hl2714 := hl2714.mv m2758
 have hl2730 := hl2730.mv m2758
 have hl2746 := hl2746.mv m2758
 refine wl_s (o_move (Value.tuple #[x2761, vI ((addM dB ((⟨(1 : Int), (1 : Int), 2, (3 : Int), 0, (1 : Int)⟩ : DeviceOp))).2)]) rfl (wl_s (o_extract (x2761) rfl rfl (wl_s (o_extract (vI ((addM dB ((⟨(1 : Int), (1 : Int), 2, (3 : Int), 0, (1 : Int)⟩ : DeviceOp))).2)) rfl rfl (wl_s (o_assign (x2761) rfl (wl_s (o_assign (vI ((addM dB ((⟨(1 : Int), (1 : Int), 2, (3 : Int), 0, (1 : Int)⟩ : DeviceOp))).2)) rfl (wl_nil (thenQ_n (?_))))))))))))
 refine cw_seq (?_)
 refine cw_region (by kernel_rfl) (wl_s (o_move (x2729) rfl (wl_s (o_callK (vs := [Value.slice none 0 0, x2729]) enter_31 (c_merge (O := [] ++ O) (.slice none 0 0) [] x2729 dB w2756 (RdL.nil _ _ _) hl2730 s2757.lt) rfl s2757 fun v2763 w2764 s2765 m2766 k2767 r2768 => (?_)))))
 obtain ⟨x2769, rfl, hl2770⟩ := r2768
 have := hl2770.len_le
 have hl2770 : RdL Enc.devop w2764 ([] ++ O) x2769 dM := hl2770
 have hl2714 := hl2714.mv m2766
 have hl2730 := hl2730.mv m2766
 have hl2746 := hl2746.mv m2766
 refine wl_s (o_move (Value.tuple #[x2769, vI ((mergeM ([]) dB).2)]) rfl (wl_s (o_extract (x2769) rfl rfl (wl_s (o_extract (vI ((mergeM ([]) dB).2)) rfl rfl (wl_s (o_assign (x2769) rfl (wl_s (o_assign (vI ((mergeM ([]) dB).2)) rfl (wl_nil (thenQ_n (?_))))))))))))
 refine cw_seq (?_)
 refine cw_region (by kernel_rfl) (wl_s (o_move (x2729) rfl (wl_s (o_callK (vs := [x2729, vI (2 : Int), vI (2 : Int)]) enter_24 (c_state (O := [] ++ O) x2729 dB (2 : Int) (2 : Int) w2764 hl2730 s2765.lt) rfl s2765 fun v2771 w2772 s2773 m2774 k2775 r2776 => (?_)))))
 obtain ⟨x2777, rfl, hl2778⟩ := r2776
 have := hl2778.len_le
 have hl2778 : RdL Enc.holding w2772 ([] ++ O) x2777 dS := hl2778
 have hl2714 := hl2714.mv m2774
 have hl2730 := hl2730.mv m2774
 have hl2746 := hl2746.mv m2774
 have hl2770 := hl2770.mv m2774
 refine wl_s (o_move (Value.tuple #[x2777, vI ((stateM dB (2 : Int) (2 : Int)).2)]) rfl (wl_s (o_extract (x2777) rfl rfl (wl_s (o_extract (vI ((stateM dB (2 : Int) (2 : Int)).2)) rfl rfl (wl_s (o_assign (x2777) rfl (wl_s (o_assign (vI ((stateM dB (2 : Int) (2 : Int)).2)) rfl (wl_nil (thenQ_n (?_))))))))))))
 refine cw_seq (?_)
 refine cw_region (by kernel_rfl) (wl_s (o_move (x2713) rfl (wl_s (o_callK (vs := [x2713, vI (1 : Int), vI (2 : Int), vI (1 : Int), vI (0 : Int)]) enter_34 (c_may (O := [] ++ O) x2713 dA (1 : Int) (2 : Int) (1 : Int) (0 : Int) w2772 hl2714 s2773.lt) rfl s2773 fun v2779 w2780 s2781 m2782 k2783 r2784 => (?_)))))
 obtain rfl := r2784
 have hl2714 := hl2714.mv m2782
 have hl2730 := hl2730.mv m2782
 have hl2746 := hl2746.mv m2782
 have hl2770 := hl2770.mv m2782
 have hl2778 := hl2778.mv m2782
 refine wl_s (o_move (Value.tuple #[Value.bool ((mayM dA (1 : Int) (2 : Int) (1 : Int) (0 : Int)).1), vI ((mayM dA (1 : Int) (2 : Int) (1 : Int) (0 : Int)).2)]) rfl (wl_s (o_extract (Value.bool ((mayM dA (1 : Int) (2 : Int) (1 : Int) (0 : Int)).1)) rfl rfl (wl_s (o_extract (vI ((mayM dA (1 : Int) (2 : Int) (1 : Int) (0 : Int)).2)) rfl rfl (wl_s (o_assign (Value.bool ((mayM dA (1 : Int) (2 : Int) (1 : Int) (0 : Int)).1)) rfl (wl_s (o_assign (vI ((mayM dA (1 : Int) (2 : Int) (1 : Int) (0 : Int)).2)) rfl (wl_nil (thenQ_n (?_))))))))))))
 refine cw_seq (?_)
 refine cw_region (by kernel_rfl) (wl_s (o_move (x2713) rfl (wl_s (o_callK (vs := [x2713, vI (1 : Int), vI (2 : Int), vI (2 : Int), vI (0 : Int)]) enter_34 (c_may (O := [] ++ O) x2713 dA (1 : Int) (2 : Int) (2 : Int) (0 : Int) w2780 hl2714 s2781.lt) rfl s2781 fun v2785 w2786 s2787 m2788 k2789 r2790 => (?_)))))
 obtain rfl := r2790
 have hl2730 := hl2730.mv m2788
 have hl2746 := hl2746.mv m2788
 have hl2770 := hl2770.mv m2788
 have hl2778 := hl2778.mv m2788
 refine wl_s (o_move (Value.tuple #[Value.bool ((mayM dA (1 : Int) (2 : Int) (2 : Int) (0 : Int)).1), vI ((mayM dA (1 : Int) (2 : Int) (2 : Int) (0 : Int)).2)]) rfl (wl_s (o_extract (Value.bool ((mayM dA (1 : Int) (2 : Int) (2 : Int) (0 : Int)).1)) rfl rfl (wl_s (o_extract (vI ((mayM dA (1 : Int) (2 : Int) (2 : Int) (0 : Int)).2)) rfl rfl (wl_s (o_assign (Value.bool ((mayM dA (1 : Int) (2 : Int) (2 : Int) (0 : Int)).1)) rfl (wl_s (o_assign (vI ((mayM dA (1 : Int) (2 : Int) (2 : Int) (0 : Int)).2)) rfl (wl_nil (thenQ_n (?_))))))))))))
 refine cw_seq (?_)
 refine cw_region (by kernel_rfl) (wl_s (o_move (x2729) rfl (wl_s (o_callK (vs := [x2729, vI (1 : Int), vI (2 : Int), vI (1 : Int), vI (0 : Int)]) enter_34 (c_may (O := [] ++ O) x2729 dB (1 : Int) (2 : Int) (1 : Int) (0 : Int) w2786 hl2730 s2787.lt) rfl s2787 fun v2791 w2792 s2793 m2794 k2795 r2796 => (?_)))))
 obtain rfl := r2796
 have hl2730 := hl2730.mv m2794
 have hl2746 := hl2746.mv m2794
 have hl2770 := hl2770.mv m2794
 have hl2778 := hl2778.mv m2794
 refine wl_s (o_move (Value.tuple #[Value.bool ((mayM dB (1 : Int) (2 : Int) (1 : Int) (0 : Int)).1), vI ((mayM dB (1 : Int) (2 : Int) (1 : Int) (0 : Int)).2)]) rfl (wl_s (o_extract (Value.bool ((mayM dB (1 : Int) (2 : Int) (1 : Int) (0 : Int)).1)) rfl rfl (wl_s (o_extract (vI ((mayM dB (1 : Int) (2 : Int) (1 : Int) (0 : Int)).2)) rfl rfl (wl_s (o_assign (Value.bool ((mayM dB (1 : Int) (2 : Int) (1 : Int) (0 : Int)).1)) rfl (wl_s (o_assign (vI ((mayM dB (1 : Int) (2 : Int) (1 : Int) (0 : Int)).2)) rfl (wl_nil (thenQ_n (?_))))))))))))
 refine cw_seq (?_)
 refine cw_region (by kernel_rfl) (wl_s (o_callK (vs := [Value.slice none 0 0, vI (1 : Int), vI (2 : Int)]) enter_24 (c_state (O := [] ++ O) (.slice none 0 0) [] (1 : Int) (2 : Int) w2792 (RdL.nil _ _ _) s2793.lt) rfl s2793 fun v2797 w2798 s2799 m2800 k2801 r2802 => (?_)))
 obtain ⟨x2803, rfl, hl2804⟩ := r2802
 have := hl2804.len_le
 have hl2804 : RdL Enc.holding w2798 ([] ++ O) x2803 dN := hl2804
 have hl2730 := hl2730.mv m2800
 have hl2746 := hl2746.mv m2800
 have hl2770 := hl2770.mv m2800
 have hl2778 := hl2778.mv m2800
 refine wl_s (o_move (Value.tuple #[x2803, vI ((stateM ([]) (1 : Int) (2 : Int)).2)]) rfl (wl_s (o_extract (x2803) rfl rfl (wl_s (o_extract (vI ((stateM ([]) (1 : Int) (2 : Int)).2)) rfl rfl (wl_s (o_assign (x2803) rfl (wl_s (o_assign (vI ((stateM ([]) (1 : Int) (2 : Int)).2)) rfl (wl_nil (thenQ_n (?_))))))))))))
 refine cw_seq (?_)
 refine cw_region (by kernel_rfl) (wl_s (o_callK (vs := [Value.slice none 0 0, vI (1 : Int), vI (4 : Int)]) enter_24 (c_state (O := [] ++ O) (.slice none 0 0) [] (1 : Int) (4 : Int) w2798 (RdL.nil _ _ _) s2799.lt) rfl s2799 fun v2805 w2806 s2807 m2808 k2809 r2810 => (?_)))
 obtain ⟨x2811, rfl, hl2812⟩ := r2810
 have := hl2812.len_le
 have hl2730 := hl2730.mv m2808
 have hl2746 := hl2746.mv m2808
 have hl2770 := hl2770.mv m2808
 have hl2778 := hl2778.mv m2808
 have hl2804 := hl2804.mv m2808
 refine wl_s (o_move (Value.tuple #[x2811, vI ((stateM ([]) (1 : Int) (4 : Int)).2)]) rfl (wl_s (o_extract (x2811) rfl rfl (wl_s (o_extract (vI ((stateM ([]) (1 : Int) (4 : Int)).2)) rfl rfl (wl_s (o_assign (x2811) rfl (wl_s (o_assign (vI ((stateM ([]) (1 : Int) (4 : Int)).2)) rfl (wl_nil (thenQ_n (?_))))))))))))
 refine cw_seq (?_)
 refine cw_region (by kernel_rfl) (wl_s (o_callK (vs := [Value.slice none 0 0, vI (1 : Int), vI (2 : Int), vI (2 : Int), vI (0 : Int)]) enter_34 (c_may (O := [] ++ O) (.slice none 0 0) [] (1 : Int) (2 : Int) (2 : Int) (0 : Int) w2806 (RdL.nil _ _ _) s2807.lt) rfl s2807 fun v2813 w2814 s2815 m2816 k2817 r2818 => (?_)))
 obtain rfl := r2818
 have hl2730 := hl2730.mv m2816
 have hl2746 := hl2746.mv m2816
 have hl2770 := hl2770.mv m2816
 have hl2778 := hl2778.mv m2816
 have hl2804 := hl2804.mv m2816
 refine wl_s (o_move (Value.tuple #[Value.bool ((mayM ([]) (1 : Int) (2 : Int) (2 : Int) (0 : Int)).1), vI ((mayM ([]) (1 : Int) (2 : Int) (2 : Int) (0 : Int)).2)]) rfl (wl_s (o_extract (Value.bool ((mayM ([]) (1 : Int) (2 : Int) (2 : Int) (0 : Int)).1)) rfl rfl (wl_s (o_extract (vI ((mayM ([]) (1 : Int) (2 : Int) (2 : Int) (0 : Int)).2)) rfl rfl (wl_s (o_assign (Value.bool ((mayM ([]) (1 : Int) (2 : Int) (2 : Int) (0 : Int)).1)) rfl (wl_s (o_assign (vI ((mayM ([]) (1 : Int) (2 : Int) (2 : Int) (0 : Int)).2)) rfl (wl_nil (thenQ_n (?_))))))))))))
 refine cw_seq (?_)
 refine cw_seq (?_)
 refine cw_region (by kernel_rfl) (wl_s (o_move (vI ((addM ([]) ((⟨(2 : Int), (1 : Int), 1, (0 : Int), (1 : Int), (1 : Int)⟩ : DeviceOp))).2)) rfl (wl_s (o_neq .i64 ((addM ([]) ((⟨(2 : Int), (1 : Int), 1, (0 : Int), (1 : Int), (1 : Int)⟩ : DeviceOp))).2) (0 : Int) rfl rfl (wl_s (o_move (Value.bool (((addM ([]) ((⟨(2 : Int), (1 : Int), 1, (0 : Int), (1 : Int), (1 : Int)⟩ : DeviceOp))).2) != (0 : Int))) rfl (?_)))))))
 have hb2819 : (((addM ([]) ((⟨(2 : Int), (1 : Int), 1, (0 : Int), (1 : Int), (1 : Int)⟩ : DeviceOp))).2) != (0 : Int)) = false := (by decide +kernel)
 rw [hb2819]
 refine wl_t rfl (o_move (vI ((addM dA ((⟨(1 : Int), (1 : Int), 2, (0 : Int), 0, (2 : Int)⟩ : DeviceOp))).2)) rfl (wl_t rfl (o_neq .i64 ((addM dA ((⟨(1 : Int), (1 : Int), 2, (0 : Int), 0, (2 : Int)⟩ : DeviceOp))).2) (0 : Int) rfl rfl (wl_s (o_pickF (Value.bool (((addM dA ((⟨(1 : Int), (1 : Int), 2, (0 : Int), 0, (2 : Int)⟩ : DeviceOp))).2) != (0 : Int))) rfl rfl (wl_s (o_move (Value.bool (((addM dA ((⟨(1 : Int), (1 : Int), 2, (0 : Int), 0, (2 : Int)⟩ : DeviceOp))).2) != (0 : Int))) rfl (?_))))))))
 have hb2820 : (((addM dA ((⟨(1 : Int), (1 : Int), 2, (0 : Int), 0, (2 : Int)⟩ : DeviceOp))).2) != (0 : Int)) = false := (by decide +kernel)
 rw [hb2820]
 refine wl_t rfl (o_move (vI ((addM dB ((⟨(1 : Int), (1 : Int), 2, (0 : Int), 0, (2 : Int)⟩ : DeviceOp))).2)) rfl (wl_t rfl (o_neq .i64 ((addM dB ((⟨(1 : Int), (1 : Int), 2, (0 : Int), 0, (2 : Int)⟩ : DeviceOp))).2) (0 : Int) rfl rfl (wl_s (o_pickF (Value.bool (((addM dB ((⟨(1 : Int), (1 : Int), 2, (0 : Int), 0, (2 : Int)⟩ : DeviceOp))).2) != (0 : Int))) rfl rfl (wl_s (o_move (Value.bool (((addM dB ((⟨(1 : Int), (1 : Int), 2, (0 : Int), 0, (2 : Int)⟩ : DeviceOp))).2) != (0 : Int))) rfl (?_))))))))
 have hb2821 : (((addM dB ((⟨(1 : Int), (1 : Int), 2, (0 : Int), 0, (2 : Int)⟩ : DeviceOp))).2) != (0 : Int)) = false := (by decide +kernel)
 rw [hb2821]
 refine wl_t rfl (o_move (vI ((addM dB ((⟨(1 : Int), (1 : Int), 2, (3 : Int), 0, (1 : Int)⟩ : DeviceOp))).2)) rfl (wl_t rfl (o_neq .i64 ((addM dB ((⟨(1 : Int), (1 : Int), 2, (3 : Int), 0, (1 : Int)⟩ : DeviceOp))).2) (420 : Int) rfl rfl (wl_s (o_pickF (Value.bool (((addM dB ((⟨(1 : Int), (1 : Int), 2, (3 : Int), 0, (1 : Int)⟩ : DeviceOp))).2) != (420 : Int))) rfl rfl (wl_s (o_move (Value.bool (((addM dB ((⟨(1 : Int), (1 : Int), 2, (3 : Int), 0, (1 : Int)⟩ : DeviceOp))).2) != (420 : Int))) rfl (?_))))))))
 have hb2822 : (((addM dB ((⟨(1 : Int), (1 : Int), 2, (3 : Int), 0, (1 : Int)⟩ : DeviceOp))).2) != (420 : Int)) = false := (by decide +kernel)
 rw [hb2822]
 refine wl_t rfl (o_move (vI ((mergeM ([]) dB).2)) rfl (wl_t rfl (o_neq .i64 ((mergeM ([]) dB).2) (0 : Int) rfl rfl (wl_s (o_pickF (Value.bool (((mergeM ([]) dB).2) != (0 : Int))) rfl rfl (wl_s (o_move (Value.bool (((mergeM ([]) dB).2) != (0 : Int))) rfl (?_))))))))
 have hb2823 : (((mergeM ([]) dB).2) != (0 : Int)) = false := (by decide +kernel)
 rw [hb2823]
 refine wl_t rfl (o_move (vI ((stateM dB (2 : Int) (2 : Int)).2)) rfl (wl_t rfl (o_neq .i64 ((stateM dB (2 : Int) (2 : Int)).2) (0 : Int) rfl rfl (wl_s (o_pickF (Value.bool (((stateM dB (2 : Int) (2 : Int)).2) != (0 : Int))) rfl rfl (wl_s (o_move (Value.bool (((stateM dB (2 : Int) (2 : Int)).2) != (0 : Int))) rfl (?_))))))))
 have hb2824 : (((stateM dB (2 : Int) (2 : Int)).2) != (0 : Int)) = false := (by decide +kernel)
 rw [hb2824]
 refine wl_t rfl (o_move (vI ((mayM dA (1 : Int) (2 : Int) (1 : Int) (0 : Int)).2)) rfl (wl_t rfl (o_neq .i64 ((mayM dA (1 : Int) (2 : Int) (1 : Int) (0 : Int)).2) (0 : Int) rfl rfl (wl_s (o_pickF (Value.bool (((mayM dA (1 : Int) (2 : Int) (1 : Int) (0 : Int)).2) != (0 : Int))) rfl rfl (wl_s (o_move (Value.bool (((mayM dA (1 : Int) (2 : Int) (1 : Int) (0 : Int)).2) != (0 : Int))) rfl (?_))))))))
 have hb2825 : (((mayM dA (1 : Int) (2 : Int) (1 : Int) (0 : Int)).2) != (0 : Int)) = false := (by decide +kernel)
 rw [hb2825]
 refine wl_t rfl (o_move (vI ((mayM dA (1 : Int) (2 : Int) (2 : Int) (0 : Int)).2)) rfl (wl_t rfl (o_neq .i64 ((mayM dA (1 : Int) (2 : Int) (2 : Int) (0 : Int)).2) (0 : Int) rfl rfl (wl_s (o_pickF (Value.bool (((mayM dA (1 : Int) (2 : Int) (2 : Int) (0 : Int)).2) != (0 : Int))) rfl rfl (wl_s (o_move (Value.bool (((mayM dA (1 : Int) (2 : Int) (2 : Int) (0 : Int)).2) != (0 : Int))) rfl (?_))))))))
 have hb2826 : (((mayM dA (1 : Int) (2 : Int) (2 : Int) (0 : Int)).2) != (0 : Int)) = false := (by decide +kernel)
 rw [hb2826]
 refine wl_t rfl (o_move (vI ((mayM dB (1 : Int) (2 : Int) (1 : Int) (0 : Int)).2)) rfl (wl_t rfl (o_neq .i64 ((mayM dB (1 : Int) (2 : Int) (1 : Int) (0 : Int)).2) (0 : Int) rfl rfl (wl_s (o_pickF (Value.bool (((mayM dB (1 : Int) (2 : Int) (1 : Int) (0 : Int)).2) != (0 : Int))) rfl rfl (wl_s (o_move (Value.bool (((mayM dB (1 : Int) (2 : Int) (1 : Int) (0 : Int)).2) != (0 : Int))) rfl (?_))))))))
 have hb2827 : (((mayM dB (1 : Int) (2 : Int) (1 : Int) (0 : Int)).2) != (0 : Int)) = false := (by decide +kernel)
 rw [hb2827]
 refine wl_t rfl (o_move (vI ((stateM ([]) (1 : Int) (2 : Int)).2)) rfl (wl_t rfl (o_neq .i64 ((stateM ([]) (1 : Int) (2 : Int)).2) (0 : Int) rfl rfl (wl_s (o_pickF (Value.bool (((stateM ([]) (1 : Int) (2 : Int)).2) != (0 : Int))) rfl rfl (wl_s (o_move (Value.bool (((stateM ([]) (1 : Int) (2 : Int)).2) != (0 : Int))) rfl (?_))))))))
 have hb2828 : (((stateM ([]) (1 : Int) (2 : Int)).2) != (0 : Int)) = false := (by decide +kernel)
 rw [hb2828]
 refine wl_t rfl (o_move (vI ((stateM ([]) (1 : Int) (4 : Int)).2)) rfl (wl_t rfl (o_neq .i64 ((stateM ([]) (1 : Int) (4 : Int)).2) (1 : Int) rfl rfl (wl_s (o_pickF (Value.bool (((stateM ([]) (1 : Int) (4 : Int)).2) != (1 : Int))) rfl rfl (wl_s (o_move (Value.bool (((stateM ([]) (1 : Int) (4 : Int)).2) != (1 : Int))) rfl (?_))))))))
 have hb2829 : (((stateM ([]) (1 : Int) (4 : Int)).2) != (1 : Int)) = false := (by decide +kernel)
 rw [hb2829]
 refine wl_t rfl (o_move (vI ((mayM ([]) (1 : Int) (2 : Int) (2 : Int) (0 : Int)).2)) rfl (wl_t rfl (o_neq .i64 ((mayM ([]) (1 : Int) (2 : Int) (2 : Int) (0 : Int)).2) (0 : Int) rfl rfl (wl_s (o_pickF (Value.bool (((mayM ([]) (1 : Int) (2 : Int) (2 : Int) (0 : Int)).2) != (0 : Int))) rfl rfl (wl_nil (thenQ_n (?_))))))))
 have hb2830 : (((mayM ([]) (1 : Int) (2 : Int) (2 : Int) (0 : Int)).2) != (0 : Int)) = false := (by decide +kernel)
 rw [hb2830]
 refine cw_cond false rfl rfl (fun h => by cases h) (fun _ => ?_)
 refine cw_skip (thenQ_n (?_))
 refine cw_seq (?_)
 refine cw_region (by kernel_rfl) (wl_s (o_move (x2745) rfl (wl_s (o_move (x2729) rfl (wl_s (o_callK (vs := [x2745, x2729]) enter_28 (c_same (O := [] ++ O) x2745 dG x2729 dB w2814 hl2746 hl2730 s2815.lt) rfl s2815 fun v2831 w2832 s2833 m2834 k2835 r2836 => (?_)))))))
 obtain rfl := r2836
 have hl2730 := hl2730.mv m2834
 have hl2770 := hl2770.mv m2834
 have hl2778 := hl2778.mv m2834
 have hl2804 := hl2804.mv m2834
 refine wl_s (o_move (Value.bool (dG == dB)) rfl (?_))
 have hb2837 : (dG == dB) = true := (by decide +kernel)
 rw [hb2837]
 refine wl_t rfl (o_move (x2769) rfl (wl_t rfl (o_move (x2729) rfl (wl_t rfl (o_callK (vs := [x2769, x2729]) enter_28 (c_same (O := [] ++ O) x2769 dM x2729 dB w2832 hl2770 hl2730 s2833.lt) rfl s2833 fun v2838 w2839 s2840 m2841 k2842 r2843 => (?_))))))
 obtain rfl := r2843
 have hl2730 := hl2730.mv m2841
 have hl2778 := hl2778.mv m2841
 have hl2804 := hl2804.mv m2841
 refine wl_s (o_pickT (Value.bool (dM == dB)) rfl rfl (wl_s (o_move (Value.bool (dM == dB)) rfl (?_))))
 have hb2844 : (dM == dB) = true := (by decide +kernel)
 rw [hb2844]
 refine wl_t rfl (o_move (x2729) rfl (wl_t rfl (o_lenR Try.underlying26 rfl hl2730 (wl_t rfl (o_eql .i64 (dB.length : Int) (2 : Int) rfl rfl (wl_s (o_pickT (Value.bool ((dB.length : Int) == (2 : Int))) rfl rfl (wl_s (o_move (Value.bool ((dB.length : Int) == (2 : Int))) rfl (?_))))))))))
 have hb2845 : ((dB.length : Int) == (2 : Int)) = true := (by decide +kernel)
 rw [hb2845]
 refine wl_t rfl (o_move (x2777) rfl (wl_t rfl (o_build (l := [(1, .const (vI (1 : Int))), (2, .const (vI (2 : Int))), (3, .const (Value.bool true))]) pl_47 z_47 rfl [(1, vI (1 : Int), [vI (1 : Int)]), (2, vI (2 : Int), [vI (2 : Int)]), (3, Value.bool true, [Value.bool true])] [vI (0 : Int), vI (1 : Int), vI (2 : Int), Value.bool true] rfl ⟨_, rfl, rfl, (of_decide_eq_true rfl), ⟨_, rfl, rfl, (of_decide_eq_true rfl), ⟨_, rfl, rfl, (of_decide_eq_true rfl), rfl⟩⟩⟩ (wl_t rfl (o_build (l := [(0, .const (vI (1 : Int))), (1, .const (vI (2 : Int)))]) pl_47 z_47 rfl [(0, vI (1 : Int), [vI (1 : Int)]), (1, vI (2 : Int), [vI (2 : Int)])] [vI (1 : Int), vI (2 : Int), vI (0 : Int), Value.bool false] rfl ⟨_, rfl, rfl, (of_decide_eq_true rfl), ⟨_, rfl, rfl, (of_decide_eq_true rfl), rfl⟩⟩ (wl_t rfl (o_lit (E := Enc.holding) (xs := [.tmp 146, .tmp 147]) Try.underlying43 s_47 z_47 (by decide) [.agg #[vI (0 : Int), vI (1 : Int), vI (2 : Int), Value.bool true], .agg #[vI (1 : Int), vI (2 : Int), vI (0 : Int), Value.bool false]] [[vI (0 : Int), vI (1 : Int), vI (2 : Int), Value.bool true], [vI (1 : Int), vI (2 : Int), vI (0 : Int), Value.bool false]] [(⟨(0 : Int), (1 : Int), (2 : Int), true⟩ : Holding), (⟨(1 : Int), (2 : Int), (0 : Int), false⟩ : Holding)] rfl rfl rfl (Parts.cons rfl rfl (Parts.cons rfl rfl (Parts.nil _ _ _))) (of_decide_eq_true rfl) s2840 fun v2850 w2846 s2847 m2848 k2849 hl2851 => (?_))))))))
 have hl2778 := hl2778.mv m2848
 have hl2804 := hl2804.mv m2848
 have := hl2851.len_le
 refine wl_t rfl (o_callK (vs := [x2777, v2850]) enter_36 (c_sameS (O := [] ++ O) x2777 dS v2850 ([(⟨(0 : Int), (1 : Int), (2 : Int), true⟩ : Holding), (⟨(1 : Int), (2 : Int), (0 : Int), false⟩ : Holding)]) w2846 hl2778 hl2851 s2847.lt) rfl s2847 fun v2852 w2853 s2854 m2855 k2856 r2857 => (?_))
 obtain rfl := r2857
 have hl2804 := hl2804.mv m2855
 refine wl_s (o_pickT (Value.bool (dS == ([(⟨(0 : Int), (1 : Int), (2 : Int), true⟩ : Holding), (⟨(1 : Int), (2 : Int), (0 : Int), false⟩ : Holding)]))) rfl rfl (wl_s (o_move (Value.bool (dS == ([(⟨(0 : Int), (1 : Int), (2 : Int), true⟩ : Holding), (⟨(1 : Int), (2 : Int), (0 : Int), false⟩ : Holding)]))) rfl (?_))))
 have hb2858 : (dS == ([(⟨(0 : Int), (1 : Int), (2 : Int), true⟩ : Holding), (⟨(1 : Int), (2 : Int), (0 : Int), false⟩ : Holding)])) = true := (by decide +kernel)
 rw [hb2858]
 refine wl_t rfl (o_move (Value.bool ((mayM dA (1 : Int) (2 : Int) (1 : Int) (0 : Int)).1)) rfl (wl_s (o_pickT (Value.bool ((mayM dA (1 : Int) (2 : Int) (1 : Int) (0 : Int)).1)) rfl rfl (wl_s (o_move (Value.bool ((mayM dA (1 : Int) (2 : Int) (1 : Int) (0 : Int)).1)) rfl (?_))))))
 have hb2859 : ((mayM dA (1 : Int) (2 : Int) (1 : Int) (0 : Int)).1) = true := (by decide +kernel)
 rw [hb2859]
 refine wl_t rfl (o_move (Value.bool ((mayM dA (1 : Int) (2 : Int) (2 : Int) (0 : Int)).1)) rfl (wl_t rfl (o_not ((mayM dA (1 : Int) (2 : Int) (2 : Int) (0 : Int)).1) rfl (wl_s (o_pickT (Value.bool (!((mayM dA (1 : Int) (2 : Int) (2 : Int) (0 : Int)).1))) rfl rfl (wl_s (o_move (Value.bool (!((mayM dA (1 : Int) (2 : Int) (2 : Int) (0 : Int)).1))) rfl (?_))))))))
 have hb2860 : (!((mayM dA (1 : Int) (2 : Int) (2 : Int) (0 : Int)).1)) = true := (by rw [show ((mayM dA (1 : Int) (2 : Int) (2 : Int) (0 : Int)).1) = false from (by decide +kernel)]; rfl)
 rw [hb2860]
 refine wl_t rfl (o_move (Value.bool ((mayM dB (1 : Int) (2 : Int) (1 : Int) (0 : Int)).1)) rfl (wl_t rfl (o_not ((mayM dB (1 : Int) (2 : Int) (1 : Int) (0 : Int)).1) rfl (wl_s (o_pickT (Value.bool (!((mayM dB (1 : Int) (2 : Int) (1 : Int) (0 : Int)).1))) rfl rfl (wl_s (o_move (Value.bool (!((mayM dB (1 : Int) (2 : Int) (1 : Int) (0 : Int)).1))) rfl (?_))))))))
 have hb2861 : (!((mayM dB (1 : Int) (2 : Int) (1 : Int) (0 : Int)).1)) = true := (by rw [show ((mayM dB (1 : Int) (2 : Int) (1 : Int) (0 : Int)).1) = false from (by decide +kernel)]; rfl)
 rw [hb2861]
 refine wl_t rfl (o_move (x2803) rfl (wl_t rfl (o_build (l := [(1, .const (vI (2 : Int)))]) pl_47 z_47 rfl [(1, vI (2 : Int), [vI (2 : Int)])] [vI (0 : Int), vI (2 : Int), vI (0 : Int), Value.bool false] rfl ⟨_, rfl, rfl, (of_decide_eq_true rfl), rfl⟩ (wl_t rfl (o_lit (E := Enc.holding) (xs := [.tmp 164]) Try.underlying43 s_47 z_47 (by decide) [.agg #[vI (0 : Int), vI (2 : Int), vI (0 : Int), Value.bool false]] [[vI (0 : Int), vI (2 : Int), vI (0 : Int), Value.bool false]] [(⟨(0 : Int), (2 : Int), (0 : Int), false⟩ : Holding)] rfl rfl rfl (Parts.cons rfl rfl (Parts.nil _ _ _)) (of_decide_eq_true rfl) s2854 fun v2866 w2862 s2863 m2864 k2865 hl2867 => (?_))))))
 have hl2804 := hl2804.mv m2864
 have := hl2867.len_le
 refine wl_t rfl (o_callK (vs := [x2803, v2866]) enter_36 (c_sameS (O := [] ++ O) x2803 dN v2866 ([(⟨(0 : Int), (2 : Int), (0 : Int), false⟩ : Holding)]) w2862 hl2804 hl2867 s2863.lt) rfl s2863 fun v2868 w2869 s2870 m2871 k2872 r2873 => (?_))
 obtain rfl := r2873
 refine wl_s (o_pickT (Value.bool (dN == ([(⟨(0 : Int), (2 : Int), (0 : Int), false⟩ : Holding)]))) rfl rfl (wl_s (o_move (Value.bool (dN == ([(⟨(0 : Int), (2 : Int), (0 : Int), false⟩ : Holding)]))) rfl (?_))))
 have hb2874 : (dN == ([(⟨(0 : Int), (2 : Int), (0 : Int), false⟩ : Holding)])) = true := (by decide +kernel)
 rw [hb2874]
 refine wl_t rfl (o_move (Value.bool ((mayM ([]) (1 : Int) (2 : Int) (2 : Int) (0 : Int)).1)) rfl (wl_s (o_pickT (Value.bool ((mayM ([]) (1 : Int) (2 : Int) (2 : Int) (0 : Int)).1)) rfl rfl (wl_s (o_move (Value.bool ((mayM ([]) (1 : Int) (2 : Int) (2 : Int) (0 : Int)).1)) rfl (?_))))))
 have hb2875 : ((mayM ([]) (1 : Int) (2 : Int) (2 : Int) (0 : Int)).1) = true := (by decide +kernel)
 rw [hb2875]
 refine wl_t rfl (o_callK (vs := [Value.slice none 0 0]) enter_29 (c_check42 (O := [] ++ O) (.slice none 0 0) [] w2869 (RdL.nil _ _ _) s2870.lt) rfl s2870 fun v2876 w2877 s2878 m2879 k2880 r2881 => (?_))
 obtain rfl := r2881
 refine wl_t rfl (o_eql .i64 (checkM ([])) (0 : Int) rfl rfl (wl_s (o_pickT (Value.bool ((checkM ([])) == (0 : Int))) rfl rfl (wl_s (o_move (Value.bool ((checkM ([])) == (0 : Int))) rfl (?_))))))
 have hb2882 : ((checkM ([])) == (0 : Int)) = true := (by decide +kernel)
 rw [hb2882]
 refine wl_t rfl (o_build (l := []) pl_40 z_40 rfl [] [vI (0 : Int), vI (0 : Int), vI (0 : Int), vI (0 : Int), vI (0 : Int), vI (0 : Int)] rfl rfl (wl_t rfl (o_lit (E := Enc.devop) (xs := [.tmp 176]) Try.underlying26 s_40 z_40 (by decide) [.agg #[vI (0 : Int), vI (0 : Int), vI (0 : Int), vI (0 : Int), vI (0 : Int), vI (0 : Int)]] [[vI (0 : Int), vI (0 : Int), vI (0 : Int), vI (0 : Int), vI (0 : Int), vI (0 : Int)]] [(⟨(0 : Int), (0 : Int), (0 : Int), (0 : Int), (0 : Int), (0 : Int)⟩ : DeviceOp)] rfl rfl rfl (Parts.cons rfl rfl (Parts.nil _ _ _)) (of_decide_eq_true rfl) s2878 fun v2887 w2883 s2884 m2885 k2886 hl2888 => (?_))))
 have := hl2888.len_le
 refine wl_t rfl (o_callK (vs := [v2887]) enter_29 (c_check42 (O := [] ++ O) v2887 ([(⟨(0 : Int), (0 : Int), (0 : Int), (0 : Int), (0 : Int), (0 : Int)⟩ : DeviceOp)]) w2883 hl2888 s2884.lt) rfl s2884 fun v2889 w2890 s2891 m2892 k2893 r2894 => (?_))
 obtain rfl := r2894
 refine wl_t rfl (o_eql .i64 (checkM ([(⟨(0 : Int), (0 : Int), (0 : Int), (0 : Int), (0 : Int), (0 : Int)⟩ : DeviceOp)])) (420 : Int) rfl rfl (wl_s (o_pickT (Value.bool ((checkM ([(⟨(0 : Int), (0 : Int), (0 : Int), (0 : Int), (0 : Int), (0 : Int)⟩ : DeviceOp)])) == (420 : Int))) rfl rfl (wl_s (o_assign (Value.bool ((checkM ([(⟨(0 : Int), (0 : Int), (0 : Int), (0 : Int), (0 : Int), (0 : Int)⟩ : DeviceOp)])) == (420 : Int))) rfl (wl_nil (thenQ_n (?_))))))))
 refine cw_ret (end_r rfl (res1 rfl rfl rfl) (?_))
 have e : true = ((checkM ([(⟨(0 : Int), (0 : Int), (0 : Int), (0 : Int), (0 : Int), (0 : Int)⟩ : DeviceOp)])) == (420 : Int)) := rfl
 exact ⟨_, rfl, s2891.keep, (by first | exact congrArg Value.bool e.symm | rfl)⟩

end Go.Proofs.Ytjpniibleelgiaa
