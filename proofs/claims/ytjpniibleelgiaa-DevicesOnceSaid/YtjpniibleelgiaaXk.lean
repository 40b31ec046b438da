/- Walks, printed by gen.py. -/
import Derived.Test.YtjpniibleelgiaaXq
import Derived.Test.YtjpniibleelgiaaXf
import Derived.Test.YtjpniibleelgiaaXe
import Derived.Test.YtjpniibleelgiaaXd
set_option linter.unusedSimpArgs false
set_option linter.unusedVariables false
namespace Go.Proofs.Ytjpniibleelgiaa
open Go.Fw Go.RowKit

set_option maxHeartbeats 4000000 in
set_option maxRecDepth 100000 in
theorem c_give {O : List Nat} (device : Int) (no : Int) (copy : Int) (to : Int) (token : Int) (w : World) (hO : ∀ b ∈ O, b < w.heap.size) : CallsK Try.prog 65 [vI device, vI no, vI copy, vI to, vI token] w (fun v w' => ∃ (x0 : List Value), v = .agg x0.toArray ∧ Enc.devop.rd w' (O) x0 ((⟨device, no, 1, copy, to, token⟩ : DeviceOp))) :=  by
 have s0 : St w O w [] := St.start hO
 refine callsK_of 17 Try.func65 rfl rfl (of_decide_eq_true rfl) (fun F0 => ?_)
 refine cw_seq (?_)
 refine cw_region (by kernel_rfl) (wl_s (o_alloc [vI (0 : Int), vI (0 : Int), vI (0 : Int), vI (0 : Int), vI (0 : Int), vI (0 : Int)] z_40 rfl s0 fun b2785 w2786 e2791 s2787 m2788 k2789 bx2790 => (?_)))
 clear e2791
 refine wl_nil (thenQ_n (?_))
 refine cw_seq (?_)
 refine cw_region (by kernel_rfl) (wl_s (o_move (vI device) rfl (wl_s (o_move (vI no) rfl (wl_s (o_move (vI copy) rfl (wl_s (o_move (vI to) rfl (wl_s (o_move (vI token) rfl (wl_s (o_build (l := [(0, .tmp 11), (1, .tmp 12), (2, .const (vI (1 : Int))), (3, .tmp 13), (4, .tmp 14), (5, .tmp 15)]) pl_40 z_40 rfl [(0, vI device, [vI device]), (1, vI no, [vI no]), (2, vI (1 : Int), [vI (1 : Int)]), (3, vI copy, [vI copy]), (4, vI to, [vI to]), (5, vI token, [vI token])] [vI device, vI no, vI (1 : Int), vI copy, vI to, vI token] rfl ⟨_, rfl, rfl, (of_decide_eq_true rfl), ⟨_, rfl, rfl, (of_decide_eq_true rfl), ⟨_, rfl, rfl, (of_decide_eq_true rfl), ⟨_, rfl, rfl, (of_decide_eq_true rfl), ⟨_, rfl, rfl, (of_decide_eq_true rfl), ⟨_, rfl, rfl, (of_decide_eq_true rfl), rfl⟩⟩⟩⟩⟩⟩ (wl_n (o_store (vs := [vI device, vI no, vI (1 : Int), vI copy, vI to, vI token]) (.agg #[vI device, vI no, vI (1 : Int), vI copy, vI to, vI token]) rfl rfl rfl s_40 (fun u hu => by simp only [List.mem_cons, List.not_mem_nil, or_false] at hu; rcases hu with rfl | rfl | rfl | rfl | rfl | rfl <;> first | rfl) (by repeat (first | assumption | constructor)) bx2790 (of_decide_eq_true rfl) s2787 fun w2792 s2793 m2794 k2795 bx2796 => (?_)))))))))))))))
 refine wl_nil (thenQ_n (?_))
 refine cw_ret (end_r rfl (rescA (vs := [vI device, vI no, vI (1 : Int), vI copy, vI to, vI token]) rfl rfl Try.underlying40 rfl s_40 rfl bx2796 rfl) (?_))
 have e : (⟨device, no, 1, copy, to, token⟩ : DeviceOp) = (⟨device, no, (1 : Int), copy, to, token⟩ : DeviceOp) := rfl
 exact ⟨_, rfl, s2793.keep, by rw [e]; exact ⟨[vI device, vI no, vI (1 : Int), vI copy, vI to, vI token], rfl, Enc.out (B := (b2785 :: [])) rfl⟩⟩
set_option maxHeartbeats 4000000 in
set_option maxRecDepth 100000 in
theorem c_show {O : List Nat} (device : Int) (no : Int) (copy : Int) (token : Int) (w : World) (hO : ∀ b ∈ O, b < w.heap.size) : CallsK Try.prog 66 [vI device, vI no, vI copy, vI token] w (fun v w' => ∃ (x0 : List Value), v = .agg x0.toArray ∧ Enc.devop.rd w' (O) x0 ((⟨device, no, 2, copy, 0, token⟩ : DeviceOp))) :=  by
 have s0 : St w O w [] := St.start hO
 refine callsK_of 14 Try.func66 rfl rfl (of_decide_eq_true rfl) (fun F0 => ?_)
 refine cw_seq (?_)
 refine cw_region (by kernel_rfl) (wl_s (o_alloc [vI (0 : Int), vI (0 : Int), vI (0 : Int), vI (0 : Int), vI (0 : Int), vI (0 : Int)] z_40 rfl s0 fun b2797 w2798 e2803 s2799 m2800 k2801 bx2802 => (?_)))
 clear e2803
 refine wl_nil (thenQ_n (?_))
 refine cw_seq (?_)
 refine cw_region (by kernel_rfl) (wl_s (o_move (vI device) rfl (wl_s (o_move (vI no) rfl (wl_s (o_move (vI copy) rfl (wl_s (o_move (vI token) rfl (wl_s (o_build (l := [(0, .tmp 9), (1, .tmp 10), (2, .const (vI (2 : Int))), (3, .tmp 11), (5, .tmp 12)]) pl_40 z_40 rfl [(0, vI device, [vI device]), (1, vI no, [vI no]), (2, vI (2 : Int), [vI (2 : Int)]), (3, vI copy, [vI copy]), (5, vI token, [vI token])] [vI device, vI no, vI (2 : Int), vI copy, vI (0 : Int), vI token] rfl ⟨_, rfl, rfl, (of_decide_eq_true rfl), ⟨_, rfl, rfl, (of_decide_eq_true rfl), ⟨_, rfl, rfl, (of_decide_eq_true rfl), ⟨_, rfl, rfl, (of_decide_eq_true rfl), ⟨_, rfl, rfl, (of_decide_eq_true rfl), rfl⟩⟩⟩⟩⟩ (wl_n (o_store (vs := [vI device, vI no, vI (2 : Int), vI copy, vI (0 : Int), vI token]) (.agg #[vI device, vI no, vI (2 : Int), vI copy, vI (0 : Int), vI token]) rfl rfl rfl s_40 (fun u hu => by simp only [List.mem_cons, List.not_mem_nil, or_false] at hu; rcases hu with rfl | rfl | rfl | rfl | rfl | rfl <;> first | rfl) (by repeat (first | assumption | constructor)) bx2802 (of_decide_eq_true rfl) s2799 fun w2804 s2805 m2806 k2807 bx2808 => (?_)))))))))))))
 refine wl_nil (thenQ_n (?_))
 refine cw_ret (end_r rfl (rescA (vs := [vI device, vI no, vI (2 : Int), vI copy, vI (0 : Int), vI token]) rfl rfl Try.underlying40 rfl s_40 rfl bx2808 rfl) (?_))
 have e : (⟨device, no, 2, copy, 0, token⟩ : DeviceOp) = (⟨device, no, (2 : Int), copy, (0 : Int), token⟩ : DeviceOp) := rfl
 exact ⟨_, rfl, s2805.keep, by rw [e]; exact ⟨[vI device, vI no, vI (2 : Int), vI copy, vI (0 : Int), vI token], rfl, Enc.out (B := (b2797 :: [])) rfl⟩⟩
def dA : List DeviceOp := (addM [] ⟨2, 1, 1, 0, 1, 1⟩).1
def dB : List DeviceOp := (addM dA ⟨1, 1, 2, 0, 0, 2⟩).1
def dG : List DeviceOp := (addM dB ⟨1, 1, 2, 0, 0, 2⟩).1
def dE : List DeviceOp := (addM dB ⟨1, 1, 2, 3, 0, 1⟩).1
def dM : List DeviceOp := (mergeM [] dB).1
def dS : List Holding := (stateM dB 2 2).1
def dN : List Holding := (stateM [] 1 2).1
set_option maxHeartbeats 4000000 in
set_option maxRecDepth 100000 in
theorem c_sane42 {O : List Nat} (w : World) (hO : ∀ b ∈ O, b < w.heap.size) : CallsK Try.prog 25 [] w (fun v _ => v = .bool (true)) :=  by
 have s0 : St w O w [] := St.start hO
 refine callsK_of 181 Try.func25 rfl rfl (of_decide_eq_true rfl) (fun F0 => ?_)
 refine cw_seq (?_)
 refine cw_region (by kernel_rfl) (wl_s (o_assign (Value.bool false) rfl (wl_nil (thenQ_n (?_)))))
 refine cw_seq (?_)
 refine cw_region (by kernel_rfl) (wl_s (o_callK (vs := [vI (2 : Int), vI (1 : Int), vI (0 : Int), vI (1 : Int), vI (1 : Int)]) enter_65 (c_give (O := [] ++ O) (2 : Int) (1 : Int) (0 : Int) (1 : Int) (1 : Int) w s0.lt) rfl s0 fun v2809 w2810 s2811 m2812 k2813 r2814 => (?_)))
 obtain ⟨cs2815, rfl, hs2816⟩ := r2814
 obtain rfl := hs2816
 refine wl_s (o_callK (vs := [Value.slice none 0 0, Value.agg #[vI (((⟨(2 : Int), (1 : Int), 1, (0 : Int), (1 : Int), (1 : Int)⟩ : DeviceOp)).device), vI (((⟨(2 : Int), (1 : Int), 1, (0 : Int), (1 : Int), (1 : Int)⟩ : DeviceOp)).no), vI (((⟨(2 : Int), (1 : Int), 1, (0 : Int), (1 : Int), (1 : Int)⟩ : DeviceOp)).kind), vI (((⟨(2 : Int), (1 : Int), 1, (0 : Int), (1 : Int), (1 : Int)⟩ : DeviceOp)).copy), vI (((⟨(2 : Int), (1 : Int), 1, (0 : Int), (1 : Int), (1 : Int)⟩ : DeviceOp)).to), vI (((⟨(2 : Int), (1 : Int), 1, (0 : Int), (1 : Int), (1 : Int)⟩ : DeviceOp)).token)]]) enter_23 (c_add (O := [] ++ O) (.slice none 0 0) [] [vI (((⟨(2 : Int), (1 : Int), 1, (0 : Int), (1 : Int), (1 : Int)⟩ : DeviceOp)).device), vI (((⟨(2 : Int), (1 : Int), 1, (0 : Int), (1 : Int), (1 : Int)⟩ : DeviceOp)).no), vI (((⟨(2 : Int), (1 : Int), 1, (0 : Int), (1 : Int), (1 : Int)⟩ : DeviceOp)).kind), vI (((⟨(2 : Int), (1 : Int), 1, (0 : Int), (1 : Int), (1 : Int)⟩ : DeviceOp)).copy), vI (((⟨(2 : Int), (1 : Int), 1, (0 : Int), (1 : Int), (1 : Int)⟩ : DeviceOp)).to), vI (((⟨(2 : Int), (1 : Int), 1, (0 : Int), (1 : Int), (1 : Int)⟩ : DeviceOp)).token)] ((⟨(2 : Int), (1 : Int), 1, (0 : Int), (1 : Int), (1 : Int)⟩ : DeviceOp)) w2810 (RdL.nil _ _ _) rfl s2811.lt) rfl s2811 fun v2817 w2818 s2819 m2820 k2821 r2822 => (?_))
 obtain ⟨x2823, rfl, hl2824⟩ := r2822
 have := hl2824.len_le
 have hl2824 : RdL Enc.devop w2818 ([] ++ O) x2823 dA := hl2824
 refine wl_s (o_move (Value.tuple #[x2823, vI ((addM ([]) ((⟨(2 : Int), (1 : Int), 1, (0 : Int), (1 : Int), (1 : Int)⟩ : DeviceOp))).2)]) rfl (wl_s (o_extract (x2823) rfl rfl (wl_s (o_extract (vI ((addM ([]) ((⟨(2 : Int), (1 : Int), 1, (0 : Int), (1 : Int), (1 : Int)⟩ : DeviceOp))).2)) rfl rfl (wl_s (o_assign (x2823) rfl (wl_s (o_assign (vI ((addM ([]) ((⟨(2 : Int), (1 : Int), 1, (0 : Int), (1 : Int), (1 : Int)⟩ : DeviceOp))).2)) rfl (wl_nil (thenQ_n (?_))))))))))))
 refine cw_seq (?_)
 refine cw_region (by kernel_rfl) (wl_s (o_move (x2823) rfl (wl_s (o_callK (vs := [vI (1 : Int), vI (1 : Int), vI (0 : Int), vI (2 : Int)]) enter_66 (c_show (O := [] ++ O) (1 : Int) (1 : Int) (0 : Int) (2 : Int) w2818 s2819.lt) rfl s2819 fun v2825 w2826 s2827 m2828 k2829 r2830 => (?_)))))
 obtain ⟨cs2831, rfl, hs2832⟩ := r2830
 obtain rfl := hs2832
 have hl2824 := hl2824.mv m2828
 refine wl_s (o_callK (vs := [x2823, Value.agg #[vI (((⟨(1 : Int), (1 : Int), 2, (0 : Int), 0, (2 : Int)⟩ : DeviceOp)).device), vI (((⟨(1 : Int), (1 : Int), 2, (0 : Int), 0, (2 : Int)⟩ : DeviceOp)).no), vI (((⟨(1 : Int), (1 : Int), 2, (0 : Int), 0, (2 : Int)⟩ : DeviceOp)).kind), vI (((⟨(1 : Int), (1 : Int), 2, (0 : Int), 0, (2 : Int)⟩ : DeviceOp)).copy), vI (((⟨(1 : Int), (1 : Int), 2, (0 : Int), 0, (2 : Int)⟩ : DeviceOp)).to), vI (((⟨(1 : Int), (1 : Int), 2, (0 : Int), 0, (2 : Int)⟩ : DeviceOp)).token)]]) enter_23 (c_add (O := [] ++ O) x2823 dA [vI (((⟨(1 : Int), (1 : Int), 2, (0 : Int), 0, (2 : Int)⟩ : DeviceOp)).device), vI (((⟨(1 : Int), (1 : Int), 2, (0 : Int), 0, (2 : Int)⟩ : DeviceOp)).no), vI (((⟨(1 : Int), (1 : Int), 2, (0 : Int), 0, (2 : Int)⟩ : DeviceOp)).kind), vI (((⟨(1 : Int), (1 : Int), 2, (0 : Int), 0, (2 : Int)⟩ : DeviceOp)).copy), vI (((⟨(1 : Int), (1 : Int), 2, (0 : Int), 0, (2 : Int)⟩ : DeviceOp)).to), vI (((⟨(1 : Int), (1 : Int), 2, (0 : Int), 0, (2 : Int)⟩ : DeviceOp)).token)] ((⟨(1 : Int), (1 : Int), 2, (0 : Int), 0, (2 : Int)⟩ : DeviceOp)) w2826 hl2824 rfl s2827.lt) rfl s2827 fun v2833 w2834 s2835 m2836 k2837 r2838 => (?_))
 obtain ⟨x2839, rfl, hl2840⟩ := r2838
 have := hl2840.len_le
 have hl2840 : RdL Enc.devop w2834 ([] ++ O) x2839 dB := hl2840
 have hl2824 := hl2824.mv m2836
 refine wl_s (o_move (Value.tuple #[x2839, vI ((addM dA ((⟨(1 : Int), (1 : Int), 2, (0 : Int), 0, (2 : Int)⟩ : DeviceOp))).2)]) rfl (wl_s (o_extract (x2839) rfl rfl (wl_s (o_extract (vI ((addM dA ((⟨(1 : Int), (1 : Int), 2, (0 : Int), 0, (2 : Int)⟩ : DeviceOp))).2)) rfl rfl (wl_s (o_assign (x2839) rfl (wl_s (o_assign (vI ((addM dA ((⟨(1 : Int), (1 : Int), 2, (0 : Int), 0, (2 : Int)⟩ : DeviceOp))).2)) rfl (wl_nil (thenQ_n (?_))))))))))))
 refine cw_seq (?_)
 refine cw_region (by kernel_rfl) (wl_s (o_move (x2839) rfl (wl_s (o_callK (vs := [vI (1 : Int), vI (1 : Int), vI (0 : Int), vI (2 : Int)]) enter_66 (c_show (O := [] ++ O) (1 : Int) (1 : Int) (0 : Int) (2 : Int) w2834 s2835.lt) rfl s2835 fun v2841 w2842 s2843 m2844 k2845 r2846 => (?_)))))
 obtain ⟨cs2847, rfl, hs2848⟩ := r2846
 obtain rfl := hs2848
 have hl2824 := hl2824.mv m2844
 have hl2840 := hl2840.mv m2844
 refine wl_s (o_callK (vs := [x2839, Value.agg #[vI (((⟨(1 : Int), (1 : Int), 2, (0 : Int), 0, (2 : Int)⟩ : DeviceOp)).device), vI (((⟨(1 : Int), (1 : Int), 2, (0 : Int), 0, (2 : Int)⟩ : DeviceOp)).no), vI (((⟨(1 : Int), (1 : Int), 2, (0 : Int), 0, (2 : Int)⟩ : DeviceOp)).kind), vI (((⟨(1 : Int), (1 : Int), 2, (0 : Int), 0, (2 : Int)⟩ : DeviceOp)).copy), vI (((⟨(1 : Int), (1 : Int), 2, (0 : Int), 0, (2 : Int)⟩ : DeviceOp)).to), vI (((⟨(1 : Int), (1 : Int), 2, (0 : Int), 0, (2 : Int)⟩ : DeviceOp)).token)]]) enter_23 (c_add (O := [] ++ O) x2839 dB [vI (((⟨(1 : Int), (1 : Int), 2, (0 : Int), 0, (2 : Int)⟩ : DeviceOp)).device), vI (((⟨(1 : Int), (1 : Int), 2, (0 : Int), 0, (2 : Int)⟩ : DeviceOp)).no), vI (((⟨(1 : Int), (1 : Int), 2, (0 : Int), 0, (2 : Int)⟩ : DeviceOp)).kind), vI (((⟨(1 : Int), (1 : Int), 2, (0 : Int), 0, (2 : Int)⟩ : DeviceOp)).copy), vI (((⟨(1 : Int), (1 : Int), 2, (0 : Int), 0, (2 : Int)⟩ : DeviceOp)).to), vI (((⟨(1 : Int), (1 : Int), 2, (0 : Int), 0, (2 : Int)⟩ : DeviceOp)).token)] ((⟨(1 : Int), (1 : Int), 2, (0 : Int), 0, (2 : Int)⟩ : DeviceOp)) w2842 hl2840 rfl s2843.lt) rfl s2843 fun v2849 w2850 s2851 m2852 k2853 r2854 => (?_))
 obtain ⟨x2855, rfl, hl2856⟩ := r2854
 have := hl2856.len_le
 have hl2856 : RdL Enc.devop w2850 ([] ++ O) x2855 dG := hl2856
 have hl2824 := hl2824.mv m2852
 have hl2840 := hl2840.mv m2852
 refine wl_s (o_move (Value.tuple #[x2855, vI ((addM dB ((⟨(1 : Int), (1 : Int), 2, (0 : Int), 0, (2 : Int)⟩ : DeviceOp))).2)]) rfl (wl_s (o_extract (x2855) rfl rfl (wl_s (o_extract (vI ((addM dB ((⟨(1 : Int), (1 : Int), 2, (0 : Int), 0, (2 : Int)⟩ : DeviceOp))).2)) rfl rfl (wl_s (o_assign (x2855) rfl (wl_s (o_assign (vI ((addM dB ((⟨(1 : Int), (1 : Int), 2, (0 : Int), 0, (2 : Int)⟩ : DeviceOp))).2)) rfl (wl_nil (thenQ_n (?_))))))))))))
 refine cw_seq (?_)
 refine cw_region (by kernel_rfl) (wl_s (o_move (x2839) rfl (wl_s (o_callK (vs := [vI (1 : Int), vI (1 : Int), vI (3 : Int), vI (1 : Int)]) enter_66 (c_show (O := [] ++ O) (1 : Int) (1 : Int) (3 : Int) (1 : Int) w2850 s2851.lt) rfl s2851 fun v2857 w2858 s2859 m2860 k2861 r2862 => (?_)))))
 obtain ⟨cs2863, rfl, hs2864⟩ := r2862
 obtain rfl := hs2864
 have hl2824 := hl2824.mv m2860
 have hl2840 := hl2840.mv m2860
 have hl2856 := hl2856.mv m2860
 refine wl_s (o_callK (vs := [x2839, Value.agg #[vI (((⟨(1 : Int), (1 : Int), 2, (3 : Int), 0, (1 : Int)⟩ : DeviceOp)).device), vI (((⟨(1 : Int), (1 : Int), 2, (3 : Int), 0, (1 : Int)⟩ : DeviceOp)).no), vI (((⟨(1 : Int), (1 : Int), 2, (3 : Int), 0, (1 : Int)⟩ : DeviceOp)).kind), vI (((⟨(1 : Int), (1 : Int), 2, (3 : Int), 0, (1 : Int)⟩ : DeviceOp)).copy), vI (((⟨(1 : Int), (1 : Int), 2, (3 : Int), 0, (1 : Int)⟩ : DeviceOp)).to), vI (((⟨(1 : Int), (1 : Int), 2, (3 : Int), 0, (1 : Int)⟩ : DeviceOp)).token)]]) enter_23 (c_add (O := [] ++ O) x2839 dB [vI (((⟨(1 : Int), (1 : Int), 2, (3 : Int), 0, (1 : Int)⟩ : DeviceOp)).device), vI (((⟨(1 : Int), (1 : Int), 2, (3 : Int), 0, (1 : Int)⟩ : DeviceOp)).no), vI (((⟨(1 : Int), (1 : Int), 2, (3 : Int), 0, (1 : Int)⟩ : DeviceOp)).kind), vI (((⟨(1 : Int), (1 : Int), 2, (3 : Int), 0, (1 : Int)⟩ : DeviceOp)).copy), vI (((⟨(1 : Int), (1 : Int), 2, (3 : Int), 0, (1 : Int)⟩ : DeviceOp)).to), vI (((⟨(1 : Int), (1 : Int), 2, (3 : Int), 0, (1 : Int)⟩ : DeviceOp)).token)] ((⟨(1 : Int), (1 : Int), 2, (3 : Int), 0, (1 : Int)⟩ : DeviceOp)) w2858 hl2840 rfl s2859.lt) rfl s2859 fun v2865 w2866 s2867 m2868 k2869 r2870 => (?_))
 obtain ⟨x2871, rfl, hl2872⟩ := r2870
 have := hl2872.len_le
 have hl2872 : RdL Enc.devop w2866 ([] ++ O) x2871 dE := hl2872
 have hl2824 := hl2824.mv m2868
 have hl2840 := hl2840.mv m2868
 have hl2856 := hl2856.mv m2868
 refine wl_s (o_move (Value.tuple #[x2871, vI ((addM dB ((⟨(1 : Int), (1 : Int), 2, (3 : Int), 0, (1 : Int)⟩ : DeviceOp))).2)]) rfl (wl_s (o_extract (x2871) rfl rfl (wl_s (o_extract (vI ((addM dB ((⟨(1 : Int), (1 : Int), 2, (3 : Int), 0, (1 : Int)⟩ : DeviceOp))).2)) rfl rfl (wl_s (o_assign (x2871) rfl (wl_s (o_assign (vI ((addM dB ((⟨(1 : Int), (1 : Int), 2, (3 : Int), 0, (1 : Int)⟩ : DeviceOp))).2)) rfl (wl_nil (thenQ_n (?_))))))))))))
 refine cw_seq (?_)
 refine cw_region (by kernel_rfl) (wl_s (o_move (x2839) rfl (wl_s (o_callK (vs := [Value.slice none 0 0, x2839]) enter_31 (c_merge (O := [] ++ O) (.slice none 0 0) [] x2839 dB w2866 (RdL.nil _ _ _) hl2840 s2867.lt) rfl s2867 fun v2873 w2874 s2875 m2876 k2877 r2878 => (?_)))))
 obtain ⟨x2879, rfl, hl2880⟩ := r2878
 have := hl2880.len_le
 have hl2880 : RdL Enc.devop w2874 ([] ++ O) x2879 dM := hl2880
 have hl2824 := hl2824.mv m2876
 have hl2840 := hl2840.mv m2876
 have hl2856 := hl2856.mv m2876
 refine wl_s (o_move (Value.tuple #[x2879, vI ((mergeM ([]) dB).2)]) rfl (wl_s (o_extract (x2879) rfl rfl (wl_s (o_extract (vI ((mergeM ([]) dB).2)) rfl rfl (wl_s (o_assign (x2879) rfl (wl_s (o_assign (vI ((mergeM ([]) dB).2)) rfl (wl_nil (thenQ_n (?_))))))))))))
 refine cw_seq (?_)
 refine cw_region (by kernel_rfl) (wl_s (o_move (x2839) rfl (wl_s (o_callK (vs := [x2839, vI (2 : Int), vI (2 : Int)]) enter_24 (c_state (O := [] ++ O) x2839 dB (2 : Int) (2 : Int) w2874 hl2840 s2875.lt) rfl s2875 fun v2881 w2882 s2883 m2884 k2885 r2886 => (?_)))))
 obtain ⟨x2887, rfl, hl2888⟩ := r2886
 have := hl2888.len_le
 have hl2888 : RdL Enc.holding w2882 ([] ++ O) x2887 dS := hl2888
 have hl2824 := hl2824.mv m2884
 have hl2840 := hl2840.mv m2884
 have hl2856 := hl2856.mv m2884
 have hl2880 := hl2880.mv m2884
 refine wl_s (o_move (Value.tuple #[x2887, vI ((stateM dB (2 : Int) (2 : Int)).2)]) rfl (wl_s (o_extract (x2887) rfl rfl (wl_s (o_extract (vI ((stateM dB (2 : Int) (2 : Int)).2)) rfl rfl (wl_s (o_assign (x2887) rfl (wl_s (o_assign (vI ((stateM dB (2 : Int) (2 : Int)).2)) rfl (wl_nil (thenQ_n (?_))))))))))))
 refine cw_seq (?_)
 refine cw_region (by kernel_rfl) (wl_s (o_move (x2823) rfl (wl_s (o_callK (vs := [x2823, vI (1 : Int), vI (2 : Int), vI (1 : Int), vI (0 : Int)]) enter_34 (c_may (O := [] ++ O) x2823 dA (1 : Int) (2 : Int) (1 : Int) (0 : Int) w2882 hl2824 s2883.lt) rfl s2883 fun v2889 w2890 s2891 m2892 k2893 r2894 => (?_)))))
 obtain rfl := r2894
 have hl2824 := hl2824.mv m2892
 have hl2840 := hl2840.mv m2892
 have hl2856 := hl2856.mv m2892
 have hl2880 := hl2880.mv m2892
 have hl2888 := hl2888.mv m2892
 refine wl_s (o_move (Value.tuple #[Value.bool ((mayM dA (1 : Int) (2 : Int) (1 : Int) (0 : Int)).1), vI ((mayM dA (1 : Int) (2 : Int) (1 : Int) (0 : Int)).2)]) rfl (wl_s (o_extract (Value.bool ((mayM dA (1 : Int) (2 : Int) (1 : Int) (0 : Int)).1)) rfl rfl (wl_s (o_extract (vI ((mayM dA (1 : Int) (2 : Int) (1 : Int) (0 : Int)).2)) rfl rfl (wl_s (o_assign (Value.bool ((mayM dA (1 : Int) (2 : Int) (1 : Int) (0 : Int)).1)) rfl (wl_s (o_assign (vI ((mayM dA (1 : Int) (2 : Int) (1 : Int) (0 : Int)).2)) rfl (wl_nil (thenQ_n (?_))))))))))))
 refine cw_seq (?_)
 refine cw_region (by kernel_rfl) (wl_s (o_move (x2823) rfl (wl_s (o_callK (vs := [x2823, vI (1 : Int), vI (2 : Int), vI (2 : Int), vI (0 : Int)]) enter_34 (c_may (O := [] ++ O) x2823 dA (1 : Int) (2 : Int) (2 : Int) (0 : Int) w2890 hl2824 s2891.lt) rfl s2891 fun v2895 w2896 s2897 m2898 k2899 r2900 => (?_)))))
 obtain rfl := r2900
 have hl2840 := hl2840.mv m2898
 have hl2856 := hl2856.mv m2898
 have hl2880 := hl2880.mv m2898
 have hl2888 := hl2888.mv m2898
 refine wl_s (o_move (Value.tuple #[Value.bool ((mayM dA (1 : Int) (2 : Int) (2 : Int) (0 : Int)).1), vI ((mayM dA (1 : Int) (2 : Int) (2 : Int) (0 : Int)).2)]) rfl (wl_s (o_extract (Value.bool ((mayM dA (1 : Int) (2 : Int) (2 : Int) (0 : Int)).1)) rfl rfl (wl_s (o_extract (vI ((mayM dA (1 : Int) (2 : Int) (2 : Int) (0 : Int)).2)) rfl rfl (wl_s (o_assign (Value.bool ((mayM dA (1 : Int) (2 : Int) (2 : Int) (0 : Int)).1)) rfl (wl_s (o_assign (vI ((mayM dA (1 : Int) (2 : Int) (2 : Int) (0 : Int)).2)) rfl (wl_nil (thenQ_n (?_))))))))))))
 refine cw_seq (?_)
 refine cw_region (by kernel_rfl) (wl_s (o_move (x2839) rfl (wl_s (o_callK (vs := [x2839, vI (1 : Int), vI (2 : Int), vI (1 : Int), vI (0 : Int)]) enter_34 (c_may (O := [] ++ O) x2839 dB (1 : Int) (2 : Int) (1 : Int) (0 : Int) w2896 hl2840 s2897.lt) rfl s2897 fun v2901 w2902 s2903 m2904 k2905 r2906 => (?_)))))
 obtain rfl := r2906
 have hl2840 := hl2840.mv m2904
 have hl2856 := hl2856.mv m2904
 have hl2880 := hl2880.mv m2904
 have hl2888 := hl2888.mv m2904
 refine wl_s (o_move (Value.tuple #[Value.bool ((mayM dB (1 : Int) (2 : Int) (1 : Int) (0 : Int)).1), vI ((mayM dB (1 : Int) (2 : Int) (1 : Int) (0 : Int)).2)]) rfl (wl_s (o_extract (Value.bool ((mayM dB (1 : Int) (2 : Int) (1 : Int) (0 : Int)).1)) rfl rfl (wl_s (o_extract (vI ((mayM dB (1 : Int) (2 : Int) (1 : Int) (0 : Int)).2)) rfl rfl (wl_s (o_assign (Value.bool ((mayM dB (1 : Int) (2 : Int) (1 : Int) (0 : Int)).1)) rfl (wl_s (o_assign (vI ((mayM dB (1 : Int) (2 : Int) (1 : Int) (0 : Int)).2)) rfl (wl_nil (thenQ_n (?_))))))))))))
 refine cw_seq (?_)
 refine cw_region (by kernel_rfl) (wl_s (o_callK (vs := [Value.slice none 0 0, vI (1 : Int), vI (2 : Int)]) enter_24 (c_state (O := [] ++ O) (.slice none 0 0) [] (1 : Int) (2 : Int) w2902 (RdL.nil _ _ _) s2903.lt) rfl s2903 fun v2907 w2908 s2909 m2910 k2911 r2912 => (?_)))
 obtain ⟨x2913, rfl, hl2914⟩ := r2912
 have := hl2914.len_le
 have hl2914 : RdL Enc.holding w2908 ([] ++ O) x2913 dN := hl2914
 have hl2840 := hl2840.mv m2910
 have hl2856 := hl2856.mv m2910
 have hl2880 := hl2880.mv m2910
 have hl2888 := hl2888.mv m2910
 refine wl_s (o_move (Value.tuple #[x2913, vI ((stateM ([]) (1 : Int) (2 : Int)).2)]) rfl (wl_s (o_extract (x2913) rfl rfl (wl_s (o_extract (vI ((stateM ([]) (1 : Int) (2 : Int)).2)) rfl rfl (wl_s (o_assign (x2913) rfl (wl_s (o_assign (vI ((stateM ([]) (1 : Int) (2 : Int)).2)) rfl (wl_nil (thenQ_n (?_))))))))))))
 refine cw_seq (?_)
 refine cw_region (by kernel_rfl) (wl_s (o_callK (vs := [Value.slice none 0 0, vI (1 : Int), vI (4 : Int)]) enter_24 (c_state (O := [] ++ O) (.slice none 0 0) [] (1 : Int) (4 : Int) w2908 (RdL.nil _ _ _) s2909.lt) rfl s2909 fun v2915 w2916 s2917 m2918 k2919 r2920 => (?_)))
 obtain ⟨x2921, rfl, hl2922⟩ := r2920
 have := hl2922.len_le
 have hl2840 := hl2840.mv m2918
 have hl2856 := hl2856.mv m2918
 have hl2880 := hl2880.mv m2918
 have hl2888 := hl2888.mv m2918
 have hl2914 := hl2914.mv m2918
 refine wl_s (o_move (Value.tuple #[x2921, vI ((stateM ([]) (1 : Int) (4 : Int)).2)]) rfl (wl_s (o_extract (x2921) rfl rfl (wl_s (o_extract (vI ((stateM ([]) (1 : Int) (4 : Int)).2)) rfl rfl (wl_s (o_assign (x2921) rfl (wl_s (o_assign (vI ((stateM ([]) (1 : Int) (4 : Int)).2)) rfl (wl_nil (thenQ_n (?_))))))))))))
 refine cw_seq (?_)
 refine cw_region (by kernel_rfl) (wl_s (o_callK (vs := [Value.slice none 0 0, vI (1 : Int), vI (2 : Int), vI (2 : Int), vI (0 : Int)]) enter_34 (c_may (O := [] ++ O) (.slice none 0 0) [] (1 : Int) (2 : Int) (2 : Int) (0 : Int) w2916 (RdL.nil _ _ _) s2917.lt) rfl s2917 fun v2923 w2924 s2925 m2926 k2927 r2928 => (?_)))
 obtain rfl := r2928
 have hl2840 := hl2840.mv m2926
 have hl2856 := hl2856.mv m2926
 have hl2880 := hl2880.mv m2926
 have hl2888 := hl2888.mv m2926
 have hl2914 := hl2914.mv m2926
 refine wl_s (o_move (Value.tuple #[Value.bool ((mayM ([]) (1 : Int) (2 : Int) (2 : Int) (0 : Int)).1), vI ((mayM ([]) (1 : Int) (2 : Int) (2 : Int) (0 : Int)).2)]) rfl (wl_s (o_extract (Value.bool ((mayM ([]) (1 : Int) (2 : Int) (2 : Int) (0 : Int)).1)) rfl rfl (wl_s (o_extract (vI ((mayM ([]) (1 : Int) (2 : Int) (2 : Int) (0 : Int)).2)) rfl rfl (wl_s (o_assign (Value.bool ((mayM ([]) (1 : Int) (2 : Int) (2 : Int) (0 : Int)).1)) rfl (wl_s (o_assign (vI ((mayM ([]) (1 : Int) (2 : Int) (2 : Int) (0 : Int)).2)) rfl (wl_nil (thenQ_n (?_))))))))))))
 refine cw_seq (?_)
 refine cw_seq (?_)
 refine cw_region (by kernel_rfl) (wl_s (o_move (vI ((addM ([]) ((⟨(2 : Int), (1 : Int), 1, (0 : Int), (1 : Int), (1 : Int)⟩ : DeviceOp))).2)) rfl (wl_s (o_neq .i64 ((addM ([]) ((⟨(2 : Int), (1 : Int), 1, (0 : Int), (1 : Int), (1 : Int)⟩ : DeviceOp))).2) (0 : Int) rfl rfl (wl_s (o_move (Value.bool (((addM ([]) ((⟨(2 : Int), (1 : Int), 1, (0 : Int), (1 : Int), (1 : Int)⟩ : DeviceOp))).2) != (0 : Int))) rfl (?_)))))))
 have hb2929 : (((addM ([]) ((⟨(2 : Int), (1 : Int), 1, (0 : Int), (1 : Int), (1 : Int)⟩ : DeviceOp))).2) != (0 : Int)) = false := (by decide +kernel)
 rw [hb2929]
 refine wl_t rfl (o_move (vI ((addM dA ((⟨(1 : Int), (1 : Int), 2, (0 : Int), 0, (2 : Int)⟩ : DeviceOp))).2)) rfl (wl_t rfl (o_neq .i64 ((addM dA ((⟨(1 : Int), (1 : Int), 2, (0 : Int), 0, (2 : Int)⟩ : DeviceOp))).2) (0 : Int) rfl rfl (wl_s (o_pickF (Value.bool (((addM dA ((⟨(1 : Int), (1 : Int), 2, (0 : Int), 0, (2 : Int)⟩ : DeviceOp))).2) != (0 : Int))) rfl rfl (wl_s (o_move (Value.bool (((addM dA ((⟨(1 : Int), (1 : Int), 2, (0 : Int), 0, (2 : Int)⟩ : DeviceOp))).2) != (0 : Int))) rfl (?_))))))))
 have hb2930 : (((addM dA ((⟨(1 : Int), (1 : Int), 2, (0 : Int), 0, (2 : Int)⟩ : DeviceOp))).2) != (0 : Int)) = false := (by decide +kernel)
 rw [hb2930]
 refine wl_t rfl (o_move (vI ((addM dB ((⟨(1 : Int), (1 : Int), 2, (0 : Int), 0, (2 : Int)⟩ : DeviceOp))).2)) rfl (wl_t rfl (o_neq .i64 ((addM dB ((⟨(1 : Int), (1 : Int), 2, (0 : Int), 0, (2 : Int)⟩ : DeviceOp))).2) (0 : Int) rfl rfl (wl_s (o_pickF (Value.bool (((addM dB ((⟨(1 : Int), (1 : Int), 2, (0 : Int), 0, (2 : Int)⟩ : DeviceOp))).2) != (0 : Int))) rfl rfl (wl_s (o_move (Value.bool (((addM dB ((⟨(1 : Int), (1 : Int), 2, (0 : Int), 0, (2 : Int)⟩ : DeviceOp))).2) != (0 : Int))) rfl (?_))))))))
 have hb2931 : (((addM dB ((⟨(1 : Int), (1 : Int), 2, (0 : Int), 0, (2 : Int)⟩ : DeviceOp))).2) != (0 : Int)) = false := (by decide +kernel)
 rw [hb2931]
 refine wl_t rfl (o_move (vI ((addM dB ((⟨(1 : Int), (1 : Int), 2, (3 : Int), 0, (1 : Int)⟩ : DeviceOp))).2)) rfl (wl_t rfl (o_neq .i64 ((addM dB ((⟨(1 : Int), (1 : Int), 2, (3 : Int), 0, (1 : Int)⟩ : DeviceOp))).2) (420 : Int) rfl rfl (wl_s (o_pickF (Value.bool (((addM dB ((⟨(1 : Int), (1 : Int), 2, (3 : Int), 0, (1 : Int)⟩ : DeviceOp))).2) != (420 : Int))) rfl rfl (wl_s (o_move (Value.bool (((addM dB ((⟨(1 : Int), (1 : Int), 2, (3 : Int), 0, (1 : Int)⟩ : DeviceOp))).2) != (420 : Int))) rfl (?_))))))))
 have hb2932 : (((addM dB ((⟨(1 : Int), (1 : Int), 2, (3 : Int), 0, (1 : Int)⟩ : DeviceOp))).2) != (420 : Int)) = false := (by decide +kernel)
 rw [hb2932]
 refine wl_t rfl (o_move (vI ((mergeM ([]) dB).2)) rfl (wl_t rfl (o_neq .i64 ((mergeM ([]) dB).2) (0 : Int) rfl rfl (wl_s (o_pickF (Value.bool (((mergeM ([]) dB).2) != (0 : Int))) rfl rfl (wl_s (o_move (Value.bool (((mergeM ([]) dB).2) != (0 : Int))) rfl (?_))))))))
 have hb2933 : (((mergeM ([]) dB).2) != (0 : Int)) = false := (by decide +kernel)
 rw [hb2933]
 refine wl_t rfl (o_move (vI ((stateM dB (2 : Int) (2 : Int)).2)) rfl (wl_t rfl (o_neq .i64 ((stateM dB (2 : Int) (2 : Int)).2) (0 : Int) rfl rfl (wl_s (o_pickF (Value.bool (((stateM dB (2 : Int) (2 : Int)).2) != (0 : Int))) rfl rfl (wl_s (o_move (Value.bool (((stateM dB (2 : Int) (2 : Int)).2) != (0 : Int))) rfl (?_))))))))
 have hb2934 : (((stateM dB (2 : Int) (2 : Int)).2) != (0 : Int)) = false := (by decide +kernel)
 rw [hb2934]
 refine wl_t rfl (o_move (vI ((mayM dA (1 : Int) (2 : Int) (1 : Int) (0 : Int)).2)) rfl (wl_t rfl (o_neq .i64 ((mayM dA (1 : Int) (2 : Int) (1 : Int) (0 : Int)).2) (0 : Int) rfl rfl (wl_s (o_pickF (Value.bool (((mayM dA (1 : Int) (2 : Int) (1 : Int) (0 : Int)).2) != (0 : Int))) rfl rfl (wl_s (o_move (Value.bool (((mayM dA (1 : Int) (2 : Int) (1 : Int) (0 : Int)).2) != (0 : Int))) rfl (?_))))))))
 have hb2935 : (((mayM dA (1 : Int) (2 : Int) (1 : Int) (0 : Int)).2) != (0 : Int)) = false := (by decide +kernel)
 rw [hb2935]
 refine wl_t rfl (o_move (vI ((mayM dA (1 : Int) (2 : Int) (2 : Int) (0 : Int)).2)) rfl (wl_t rfl (o_neq .i64 ((mayM dA (1 : Int) (2 : Int) (2 : Int) (0 : Int)).2) (0 : Int) rfl rfl (wl_s (o_pickF (Value.bool (((mayM dA (1 : Int) (2 : Int) (2 : Int) (0 : Int)).2) != (0 : Int))) rfl rfl (wl_s (o_move (Value.bool (((mayM dA (1 : Int) (2 : Int) (2 : Int) (0 : Int)).2) != (0 : Int))) rfl (?_))))))))
 have hb2936 : (((mayM dA (1 : Int) (2 : Int) (2 : Int) (0 : Int)).2) != (0 : Int)) = false := (by decide +kernel)
 rw [hb2936]
 refine wl_t rfl (o_move (vI ((mayM dB (1 : Int) (2 : Int) (1 : Int) (0 : Int)).2)) rfl (wl_t rfl (o_neq .i64 ((mayM dB (1 : Int) (2 : Int) (1 : Int) (0 : Int)).2) (0 : Int) rfl rfl (wl_s (o_pickF (Value.bool (((mayM dB (1 : Int) (2 : Int) (1 : Int) (0 : Int)).2) != (0 : Int))) rfl rfl (wl_s (o_move (Value.bool (((mayM dB (1 : Int) (2 : Int) (1 : Int) (0 : Int)).2) != (0 : Int))) rfl (?_))))))))
 have hb2937 : (((mayM dB (1 : Int) (2 : Int) (1 : Int) (0 : Int)).2) != (0 : Int)) = false := (by decide +kernel)
 rw [hb2937]
 refine wl_t rfl (o_move (vI ((stateM ([]) (1 : Int) (2 : Int)).2)) rfl (wl_t rfl (o_neq .i64 ((stateM ([]) (1 : Int) (2 : Int)).2) (0 : Int) rfl rfl (wl_s (o_pickF (Value.bool (((stateM ([]) (1 : Int) (2 : Int)).2) != (0 : Int))) rfl rfl (wl_s (o_move (Value.bool (((stateM ([]) (1 : Int) (2 : Int)).2) != (0 : Int))) rfl (?_))))))))
 have hb2938 : (((stateM ([]) (1 : Int) (2 : Int)).2) != (0 : Int)) = false := (by decide +kernel)
 rw [hb2938]
 refine wl_t rfl (o_move (vI ((stateM ([]) (1 : Int) (4 : Int)).2)) rfl (wl_t rfl (o_neq .i64 ((stateM ([]) (1 : Int) (4 : Int)).2) (1 : Int) rfl rfl (wl_s (o_pickF (Value.bool (((stateM ([]) (1 : Int) (4 : Int)).2) != (1 : Int))) rfl rfl (wl_s (o_move (Value.bool (((stateM ([]) (1 : Int) (4 : Int)).2) != (1 : Int))) rfl (?_))))))))
 have hb2939 : (((stateM ([]) (1 : Int) (4 : Int)).2) != (1 : Int)) = false := (by decide +kernel)
 rw [hb2939]
 refine wl_t rfl (o_move (vI ((mayM ([]) (1 : Int) (2 : Int) (2 : Int) (0 : Int)).2)) rfl (wl_t rfl (o_neq .i64 ((mayM ([]) (1 : Int) (2 : Int) (2 : Int) (0 : Int)).2) (0 : Int) rfl rfl (wl_s (o_pickF (Value.bool (((mayM ([]) (1 : Int) (2 : Int) (2 : Int) (0 : Int)).2) != (0 : Int))) rfl rfl (wl_nil (thenQ_n (?_))))))))
 have hb2940 : (((mayM ([]) (1 : Int) (2 : Int) (2 : Int) (0 : Int)).2) != (0 : Int)) = false := (by decide +kernel)
 rw [hb2940]
 refine cw_cond false rfl rfl (fun h => by cases h) (fun _ => ?_)
 refine cw_skip (thenQ_n (?_))
 refine cw_seq (?_)
 refine cw_region (by kernel_rfl) (wl_s (o_move (x2855) rfl (wl_s (o_move (x2839) rfl (wl_s (o_callK (vs := [x2855, x2839]) enter_28 (c_same (O := [] ++ O) x2855 dG x2839 dB w2924 hl2856 hl2840 s2925.lt) rfl s2925 fun v2941 w2942 s2943 m2944 k2945 r2946 => (?_)))))))
 obtain rfl := r2946
 have hl2840 := hl2840.mv m2944
 have hl2880 := hl2880.mv m2944
 have hl2888 := hl2888.mv m2944
 have hl2914 := hl2914.mv m2944
 refine wl_s (o_move (Value.bool (dG == dB)) rfl (?_))
 have hb2947 : (dG == dB) = true := (by decide +kernel)
 rw [hb2947]
 refine wl_t rfl (o_move (x2879) rfl (wl_t rfl (o_move (x2839) rfl (wl_t rfl (o_callK (vs := [x2879, x2839]) enter_28 (c_same (O := [] ++ O) x2879 dM x2839 dB w2942 hl2880 hl2840 s2943.lt) rfl s2943 fun v2948 w2949 s2950 m2951 k2952 r2953 => (?_))))))
 obtain rfl := r2953
 have hl2840 := hl2840.mv m2951
 have hl2888 := hl2888.mv m2951
 have hl2914 := hl2914.mv m2951
 refine wl_s (o_pickT (Value.bool (dM == dB)) rfl rfl (wl_s (o_move (Value.bool (dM == dB)) rfl (?_))))
 have hb2954 : (dM == dB) = true := (by decide +kernel)
 rw [hb2954]
 refine wl_t rfl (o_move (x2839) rfl (wl_t rfl (o_lenR Try.underlying26 rfl hl2840 (wl_t rfl (o_eql .i64 (dB.length : Int) (2 : Int) rfl rfl (wl_s (o_pickT (Value.bool ((dB.length : Int) == (2 : Int))) rfl rfl (wl_s (o_move (Value.bool ((dB.length : Int) == (2 : Int))) rfl (?_))))))))))
 have hb2955 : ((dB.length : Int) == (2 : Int)) = true := (by decide +kernel)
 rw [hb2955]
 refine wl_t rfl (o_move (x2887) rfl (wl_t rfl (o_build (l := [(1, .const (vI (1 : Int))), (2, .const (vI (2 : Int))), (3, .const (Value.bool true))]) pl_47 z_47 rfl [(1, vI (1 : Int), [vI (1 : Int)]), (2, vI (2 : Int), [vI (2 : Int)]), (3, Value.bool true, [Value.bool true])] [vI (0 : Int), vI (1 : Int), vI (2 : Int), Value.bool true] rfl ⟨_, rfl, rfl, (of_decide_eq_true rfl), ⟨_, rfl, rfl, (of_decide_eq_true rfl), ⟨_, rfl, rfl, (of_decide_eq_true rfl), rfl⟩⟩⟩ (wl_t rfl (o_build (l := [(0, .const (vI (1 : Int))), (1, .const (vI (2 : Int)))]) pl_47 z_47 rfl [(0, vI (1 : Int), [vI (1 : Int)]), (1, vI (2 : Int), [vI (2 : Int)])] [vI (1 : Int), vI (2 : Int), vI (0 : Int), Value.bool false] rfl ⟨_, rfl, rfl, (of_decide_eq_true rfl), ⟨_, rfl, rfl, (of_decide_eq_true rfl), rfl⟩⟩ (wl_t rfl (o_lit (E := Enc.holding) (xs := [.tmp 146, .tmp 147]) Try.underlying43 s_47 z_47 (by decide) [.agg #[vI (0 : Int), vI (1 : Int), vI (2 : Int), Value.bool true], .agg #[vI (1 : Int), vI (2 : Int), vI (0 : Int), Value.bool false]] [[vI (0 : Int), vI (1 : Int), vI (2 : Int), Value.bool true], [vI (1 : Int), vI (2 : Int), vI (0 : Int), Value.bool false]] [(⟨(0 : Int), (1 : Int), (2 : Int), true⟩ : Holding), (⟨(1 : Int), (2 : Int), (0 : Int), false⟩ : Holding)] rfl rfl rfl (Parts.cons rfl rfl (Parts.cons rfl rfl (Parts.nil _ _ _))) (of_decide_eq_true rfl) s2950 fun v2960 w2956 s2957 m2958 k2959 hl2961 => (?_))))))))
 have hl2888 := hl2888.mv m2958
 have hl2914 := hl2914.mv m2958
 have := hl2961.len_le
 refine wl_t rfl (o_callK (vs := [x2887, v2960]) enter_36 (c_sameS (O := [] ++ O) x2887 dS v2960 ([(⟨(0 : Int), (1 : Int), (2 : Int), true⟩ : Holding), (⟨(1 : Int), (2 : Int), (0 : Int), false⟩ : Holding)]) w2956 hl2888 hl2961 s2957.lt) rfl s2957 fun v2962 w2963 s2964 m2965 k2966 r2967 => (?_))
 obtain rfl := r2967
 have hl2914 := hl2914.mv m2965
 refine wl_s (o_pickT (Value.bool (dS == ([(⟨(0 : Int), (1 : Int), (2 : Int), true⟩ : Holding), (⟨(1 : Int), (2 : Int), (0 : Int), false⟩ : Holding)]))) rfl rfl (wl_s (o_move (Value.bool (dS == ([(⟨(0 : Int), (1 : Int), (2 : Int), true⟩ : Holding), (⟨(1 : Int), (2 : Int), (0 : Int), false⟩ : Holding)]))) rfl (?_))))
 have hb2968 : (dS == ([(⟨(0 : Int), (1 : Int), (2 : Int), true⟩ : Holding), (⟨(1 : Int), (2 : Int), (0 : Int), false⟩ : Holding)])) = true := (by decide +kernel)
 rw [hb2968]
 refine wl_t rfl (o_move (Value.bool ((mayM dA (1 : Int) (2 : Int) (1 : Int) (0 : Int)).1)) rfl (wl_s (o_pickT (Value.bool ((mayM dA (1 : Int) (2 : Int) (1 : Int) (0 : Int)).1)) rfl rfl (wl_s (o_move (Value.bool ((mayM dA (1 : Int) (2 : Int) (1 : Int) (0 : Int)).1)) rfl (?_))))))
 have hb2969 : ((mayM dA (1 : Int) (2 : Int) (1 : Int) (0 : Int)).1) = true := (by decide +kernel)
 rw [hb2969]
 refine wl_t rfl (o_move (Value.bool ((mayM dA (1 : Int) (2 : Int) (2 : Int) (0 : Int)).1)) rfl (wl_t rfl (o_not ((mayM dA (1 : Int) (2 : Int) (2 : Int) (0 : Int)).1) rfl (wl_s (o_pickT (Value.bool (!((mayM dA (1 : Int) (2 : Int) (2 : Int) (0 : Int)).1))) rfl rfl (wl_s (o_move (Value.bool (!((mayM dA (1 : Int) (2 : Int) (2 : Int) (0 : Int)).1))) rfl (?_))))))))
 have hb2970 : (!((mayM dA (1 : Int) (2 : Int) (2 : Int) (0 : Int)).1)) = true := (by rw [show ((mayM dA (1 : Int) (2 : Int) (2 : Int) (0 : Int)).1) = false from (by decide +kernel)]; rfl)
 rw [hb2970]
 refine wl_t rfl (o_move (Value.bool ((mayM dB (1 : Int) (2 : Int) (1 : Int) (0 : Int)).1)) rfl (wl_t rfl (o_not ((mayM dB (1 : Int) (2 : Int) (1 : Int) (0 : Int)).1) rfl (wl_s (o_pickT (Value.bool (!((mayM dB (1 : Int) (2 : Int) (1 : Int) (0 : Int)).1))) rfl rfl (wl_s (o_move (Value.bool (!((mayM dB (1 : Int) (2 : Int) (1 : Int) (0 : Int)).1))) rfl (?_))))))))
 have hb2971 : (!((mayM dB (1 : Int) (2 : Int) (1 : Int) (0 : Int)).1)) = true := (by rw [show ((mayM dB (1 : Int) (2 : Int) (1 : Int) (0 : Int)).1) = false from (by decide +kernel)]; rfl)
 rw [hb2971]
 refine wl_t rfl (o_move (x2913) rfl (wl_t rfl (o_build (l := [(1, .const (vI (2 : Int)))]) pl_47 z_47 rfl [(1, vI (2 : Int), [vI (2 : Int)])] [vI (0 : Int), vI (2 : Int), vI (0 : Int), Value.bool false] rfl ⟨_, rfl, rfl, (of_decide_eq_true rfl), rfl⟩ (wl_t rfl (o_lit (E := Enc.holding) (xs := [.tmp 164]) Try.underlying43 s_47 z_47 (by decide) [.agg #[vI (0 : Int), vI (2 : Int), vI (0 : Int), Value.bool false]] [[vI (0 : Int), vI (2 : Int), vI (0 : Int), Value.bool false]] [(⟨(0 : Int), (2 : Int), (0 : Int), false⟩ : Holding)] rfl rfl rfl (Parts.cons rfl rfl (Parts.nil _ _ _)) (of_decide_eq_true rfl) s2964 fun v2976 w2972 s2973 m2974 k2975 hl2977 => (?_))))))
 have hl2914 := hl2914.mv m2974
 have := hl2977.len_le
 refine wl_t rfl (o_callK (vs := [x2913, v2976]) enter_36 (c_sameS (O := [] ++ O) x2913 dN v2976 ([(⟨(0 : Int), (2 : Int), (0 : Int), false⟩ : Holding)]) w2972 hl2914 hl2977 s2973.lt) rfl s2973 fun v2978 w2979 s2980 m2981 k2982 r2983 => (?_))
 obtain rfl := r2983
 refine wl_s (o_pickT (Value.bool (dN == ([(⟨(0 : Int), (2 : Int), (0 : Int), false⟩ : Holding)]))) rfl rfl (wl_s (o_move (Value.bool (dN == ([(⟨(0 : Int), (2 : Int), (0 : Int), false⟩ : Holding)]))) rfl (?_))))
 have hb2984 : (dN == ([(⟨(0 : Int), (2 : Int), (0 : Int), false⟩ : Holding)])) = true := (by decide +kernel)
 rw [hb2984]
 refine wl_t rfl (o_move (Value.bool ((mayM ([]) (1 : Int) (2 : Int) (2 : Int) (0 : Int)).1)) rfl (wl_s (o_pickT (Value.bool ((mayM ([]) (1 : Int) (2 : Int) (2 : Int) (0 : Int)).1)) rfl rfl (wl_s (o_move (Value.bool ((mayM ([]) (1 : Int) (2 : Int) (2 : Int) (0 : Int)).1)) rfl (?_))))))
 have hb2985 : ((mayM ([]) (1 : Int) (2 : Int) (2 : Int) (0 : Int)).1) = true := (by decide +kernel)
 rw [hb2985]
 refine wl_t rfl (o_callK (vs := [Value.slice none 0 0]) enter_29 (c_check42 (O := [] ++ O) (.slice none 0 0) [] w2979 (RdL.nil _ _ _) s2980.lt) rfl s2980 fun v2986 w2987 s2988 m2989 k2990 r2991 => (?_))
 obtain rfl := r2991
 refine wl_t rfl (o_eql .i64 (checkM ([])) (0 : Int) rfl rfl (wl_s (o_pickT (Value.bool ((checkM ([])) == (0 : Int))) rfl rfl (wl_s (o_move (Value.bool ((checkM ([])) == (0 : Int))) rfl (?_))))))
 have hb2992 : ((checkM ([])) == (0 : Int)) = true := (by decide +kernel)
 rw [hb2992]
 refine wl_t rfl (o_build (l := []) pl_40 z_40 rfl [] [vI (0 : Int), vI (0 : Int), vI (0 : Int), vI (0 : Int), vI (0 : Int), vI (0 : Int)] rfl rfl (wl_t rfl (o_lit (E := Enc.devop) (xs := [.tmp 176]) Try.underlying26 s_40 z_40 (by decide) [.agg #[vI (0 : Int), vI (0 : Int), vI (0 : Int), vI (0 : Int), vI (0 : Int), vI (0 : Int)]] [[vI (0 : Int), vI (0 : Int), vI (0 : Int), vI (0 : Int), vI (0 : Int), vI (0 : Int)]] [(⟨(0 : Int), (0 : Int), (0 : Int), (0 : Int), (0 : Int), (0 : Int)⟩ : DeviceOp)] rfl rfl rfl (Parts.cons rfl rfl (Parts.nil _ _ _)) (of_decide_eq_true rfl) s2988 fun v2997 w2993 s2994 m2995 k2996 hl2998 => (?_))))
 have := hl2998.len_le
 refine wl_t rfl (o_callK (vs := [v2997]) enter_29 (c_check42 (O := [] ++ O) v2997 ([(⟨(0 : Int), (0 : Int), (0 : Int), (0 : Int), (0 : Int), (0 : Int)⟩ : DeviceOp)]) w2993 hl2998 s2994.lt) rfl s2994 fun v2999 w3000 s3001 m3002 k3003 r3004 => (?_))
 obtain rfl := r3004
 refine wl_t rfl (o_eql .i64 (checkM ([(⟨(0 : Int), (0 : Int), (0 : Int), (0 : Int), (0 : Int), (0 : Int)⟩ : DeviceOp)])) (420 : Int) rfl rfl (wl_s (o_pickT (Value.bool ((checkM ([(⟨(0 : Int), (0 : Int), (0 : Int), (0 : Int), (0 : Int), (0 : Int)⟩ : DeviceOp)])) == (420 : Int))) rfl rfl (wl_s (o_assign (Value.bool ((checkM ([(⟨(0 : Int), (0 : Int), (0 : Int), (0 : Int), (0 : Int), (0 : Int)⟩ : DeviceOp)])) == (420 : Int))) rfl (wl_nil (thenQ_n (?_))))))))
 refine cw_ret (end_r rfl (res1 rfl rfl rfl) (?_))
 have e : true = ((checkM ([(⟨(0 : Int), (0 : Int), (0 : Int), (0 : Int), (0 : Int), (0 : Int)⟩ : DeviceOp)])) == (420 : Int)) := rfl
 exact ⟨_, rfl, s3001.keep, by rw [e]; exact rfl⟩

end Go.Proofs.Ytjpniibleelgiaa
