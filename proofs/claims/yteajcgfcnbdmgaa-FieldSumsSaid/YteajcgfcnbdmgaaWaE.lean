/- Walks, printed by gen.py. -/
import Derived.Test.YteajcgfcnbdmgaaWaD
namespace Go.Proofs.Yteajcgfcnbdmgaa
open Go.Fw Go.RowKit

set_option maxHeartbeats 4000000 in
set_option maxRecDepth 100000 in
theorem c_sane7 {O : List Nat} (w : World) (hO : ∀ b ∈ O, b < w.heap.size) : CallsK Try.prog 17 [] w (fun v _ => v = .bool (true)) :=  by
  have s0 : St w O w [] := St.start hO
  refine callsK_of 110 Try.func17 rfl rfl (of_decide_eq_true rfl) (fun F0 => ?_)
  refine cw_seq (?_)
  refine cw_region (by kernel_rfl) (wl_s (o_assign (Value.bool false) rfl (wl_nil (thenQ_n (?_)))))
  refine cw_seq (?_)
  refine cw_region (by kernel_rfl) (wl_s (o_callK (vs := [vB (2 : UInt8)]) enter_18 (c_inv (O := [] ++ O) (2 : UInt8) w s0.lt) rfl s0 fun v863 w864 s865 m866 k867 r868 => (?_)))
  obtain rfl := r868
  refine wl_s (o_move (Value.tuple #[vB ((inv (2 : UInt8)).1), vI ((inv (2 : UInt8)).2)]) rfl (wl_s (o_extract (vB ((inv (2 : UInt8)).1)) rfl rfl (wl_s (o_extract (vI ((inv (2 : UInt8)).2)) rfl rfl (wl_s (o_assign (vB ((inv (2 : UInt8)).1)) rfl (wl_s (o_assign (vI ((inv (2 : UInt8)).2)) rfl (wl_nil (thenQ_n (?_))))))))))))
  refine cw_seq (?_)
  refine cw_region (by kernel_rfl) (wl_s (o_callK (vs := [vB (0 : UInt8)]) enter_18 (c_inv (O := [] ++ O) (0 : UInt8) w864 s865.lt) rfl s865 fun v869 w870 s871 m872 k873 r874 => (?_)))
  obtain rfl := r874
  refine wl_s (o_move (Value.tuple #[vB ((inv (0 : UInt8)).1), vI ((inv (0 : UInt8)).2)]) rfl (wl_s (o_extract (vB ((inv (0 : UInt8)).1)) rfl rfl (wl_s (o_extract (vI ((inv (0 : UInt8)).2)) rfl rfl (wl_s (o_assign (vB ((inv (0 : UInt8)).1)) rfl (wl_s (o_assign (vI ((inv (0 : UInt8)).2)) rfl (wl_nil (thenQ_n (?_))))))))))))
  refine cw_seq (?_)
  refine cw_region (by kernel_rfl) (wl_s (o_lit (E := Enc.u8) (xs := [.const (vB (1 : UInt8)), .const (vB (2 : UInt8))]) Try.underlying28 s_5 z_5 (by decide) [vB (1 : UInt8), vB (2 : UInt8)] [[vB (1 : UInt8)], [vB (2 : UInt8)]] [(1 : UInt8), (2 : UInt8)] rfl rfl rfl (Parts.cons rfl rfl (Parts.cons rfl rfl (Parts.nil _ _ _))) (of_decide_eq_true rfl) s871 fun v879 w875 s876 m877 k878 hl880 => (?_)))
  have := hl880.len_le
  refine wl_s (o_lit (E := Enc.u8) (xs := [.const (vB (5 : UInt8)), .const (vB (5 : UInt8))]) Try.underlying28 s_5 z_5 (by decide) [vB (5 : UInt8), vB (5 : UInt8)] [[vB (5 : UInt8)], [vB (5 : UInt8)]] [(5 : UInt8), (5 : UInt8)] rfl rfl rfl (Parts.cons rfl rfl (Parts.cons rfl rfl (Parts.nil _ _ _))) (of_decide_eq_true rfl) s876 fun v885 w881 s882 m883 k884 hl886 => (?_))
  have hl880 := hl880.mv m883
  have := hl886.len_le
  refine wl_s (o_callK (vs := [v879, v885]) enter_24 (c_coeff (O := [] ++ O) v879 ([(1 : UInt8), (2 : UInt8)]) v885 ([(5 : UInt8), (5 : UInt8)]) w881 hl880 hl886 (by simp) s882.lt) rfl s882 fun v887 w888 s889 m890 k891 r892 => (?_))
  obtain ⟨x893, rfl, hl894⟩ := r892
  have := hl894.len_le
  have hl880 := hl880.mv m890
  have hl886 := hl886.mv m890
  refine wl_s (o_move (Value.tuple #[x893, vI ((coeff ([(1 : UInt8), (2 : UInt8)]) ([(5 : UInt8), (5 : UInt8)])).2)]) rfl (wl_s (o_extract (x893) rfl rfl (wl_s (o_extract (vI ((coeff ([(1 : UInt8), (2 : UInt8)]) ([(5 : UInt8), (5 : UInt8)])).2)) rfl rfl (wl_s (o_assign (x893) rfl (wl_s (o_assign (vI ((coeff ([(1 : UInt8), (2 : UInt8)]) ([(5 : UInt8), (5 : UInt8)])).2)) rfl (wl_nil (thenQ_n (?_))))))))))))
  refine cw_seq (?_)
  refine cw_region (by kernel_rfl) (wl_s (o_lit (E := Enc.u8) (xs := [.const (vB (1 : UInt8)), .const (vB (2 : UInt8))]) Try.underlying28 s_5 z_5 (by decide) [vB (1 : UInt8), vB (2 : UInt8)] [[vB (1 : UInt8)], [vB (2 : UInt8)]] [(1 : UInt8), (2 : UInt8)] rfl rfl rfl (Parts.cons rfl rfl (Parts.cons rfl rfl (Parts.nil _ _ _))) (of_decide_eq_true rfl) s889 fun v899 w895 s896 m897 k898 hl900 => (?_)))
  have hl894 := hl894.mv m897
  have hl880 := hl880.mv m897
  have hl886 := hl886.mv m897
  have := hl900.len_le
  refine wl_s (o_lit (E := Enc.u8) (xs := [.const (vB (5 : UInt8)), .const (vB (5 : UInt8))]) Try.underlying28 s_5 z_5 (by decide) [vB (5 : UInt8), vB (5 : UInt8)] [[vB (5 : UInt8)], [vB (5 : UInt8)]] [(5 : UInt8), (5 : UInt8)] rfl rfl rfl (Parts.cons rfl rfl (Parts.cons rfl rfl (Parts.nil _ _ _))) (of_decide_eq_true rfl) s896 fun v905 w901 s902 m903 k904 hl906 => (?_))
  have hl894 := hl894.mv m903
  have hl880 := hl880.mv m903
  have hl886 := hl886.mv m903
  have hl900 := hl900.mv m903
  have := hl906.len_le
  refine wl_s (o_callK (vs := [v899, v905, vB (77 : UInt8)]) enter_22 (c_through (O := [] ++ O) v899 ([(1 : UInt8), (2 : UInt8)]) v905 ([(5 : UInt8), (5 : UInt8)]) (77 : UInt8) w901 hl900 hl906 (by simp) s902.lt) rfl s902 fun v907 w908 s909 m910 k911 r912 => (?_))
  obtain rfl := r912
  have hl894 := hl894.mv m910
  have hl880 := hl880.mv m910
  have hl886 := hl886.mv m910
  have hl900 := hl900.mv m910
  have hl906 := hl906.mv m910
  refine wl_s (o_move (Value.tuple #[vB ((through ([(1 : UInt8), (2 : UInt8)]) ([(5 : UInt8), (5 : UInt8)]) (77 : UInt8)).1), vI ((through ([(1 : UInt8), (2 : UInt8)]) ([(5 : UInt8), (5 : UInt8)]) (77 : UInt8)).2)]) rfl (wl_s (o_extract (vB ((through ([(1 : UInt8), (2 : UInt8)]) ([(5 : UInt8), (5 : UInt8)]) (77 : UInt8)).1)) rfl rfl (wl_s (o_extract (vI ((through ([(1 : UInt8), (2 : UInt8)]) ([(5 : UInt8), (5 : UInt8)]) (77 : UInt8)).2)) rfl rfl (wl_s (o_assign (vB ((through ([(1 : UInt8), (2 : UInt8)]) ([(5 : UInt8), (5 : UInt8)]) (77 : UInt8)).1)) rfl (wl_s (o_assign (vI ((through ([(1 : UInt8), (2 : UInt8)]) ([(5 : UInt8), (5 : UInt8)]) (77 : UInt8)).2)) rfl (wl_nil (thenQ_n (?_))))))))))))
  refine cw_seq (?_)
  refine cw_region (by kernel_rfl) (wl_s (o_callK (vs := [Value.slice none 0 0, Value.slice none 0 0, vB (7 : UInt8)]) enter_22 (c_through (O := [] ++ O) (.slice none 0 0) [] (.slice none 0 0) [] (7 : UInt8) w908 (RdL.nil _ _ _) (RdL.nil _ _ _) (by simp) s909.lt) rfl s909 fun v913 w914 s915 m916 k917 r918 => (?_)))
  obtain rfl := r918
  have hl894 := hl894.mv m916
  have hl880 := hl880.mv m916
  have hl886 := hl886.mv m916
  have hl900 := hl900.mv m916
  have hl906 := hl906.mv m916
  refine wl_s (o_move (Value.tuple #[vB ((through ([]) ([]) (7 : UInt8)).1), vI ((through ([]) ([]) (7 : UInt8)).2)]) rfl (wl_s (o_extract (vB ((through ([]) ([]) (7 : UInt8)).1)) rfl rfl (wl_s (o_extract (vI ((through ([]) ([]) (7 : UInt8)).2)) rfl rfl (wl_s (o_assign (vB ((through ([]) ([]) (7 : UInt8)).1)) rfl (wl_s (o_assign (vI ((through ([]) ([]) (7 : UInt8)).2)) rfl (wl_nil (thenQ_n (?_))))))))))))
  refine cw_seq (?_)
  refine cw_region (by kernel_rfl) (wl_s (o_lit (E := Enc.u8) (xs := [.const (vB (1 : UInt8)), .const (vB (1 : UInt8))]) Try.underlying28 s_5 z_5 (by decide) [vB (1 : UInt8), vB (1 : UInt8)] [[vB (1 : UInt8)], [vB (1 : UInt8)]] [(1 : UInt8), (1 : UInt8)] rfl rfl rfl (Parts.cons rfl rfl (Parts.cons rfl rfl (Parts.nil _ _ _))) (of_decide_eq_true rfl) s915 fun v923 w919 s920 m921 k922 hl924 => (?_)))
  have hl894 := hl894.mv m921
  have hl880 := hl880.mv m921
  have hl886 := hl886.mv m921
  have hl900 := hl900.mv m921
  have hl906 := hl906.mv m921
  have := hl924.len_le
  refine wl_s (o_lit (E := Enc.u8) (xs := [.const (vB (5 : UInt8)), .const (vB (5 : UInt8))]) Try.underlying28 s_5 z_5 (by decide) [vB (5 : UInt8), vB (5 : UInt8)] [[vB (5 : UInt8)], [vB (5 : UInt8)]] [(5 : UInt8), (5 : UInt8)] rfl rfl rfl (Parts.cons rfl rfl (Parts.cons rfl rfl (Parts.nil _ _ _))) (of_decide_eq_true rfl) s920 fun v929 w925 s926 m927 k928 hl930 => (?_))
  have hl894 := hl894.mv m927
  have hl880 := hl880.mv m927
  have hl886 := hl886.mv m927
  have hl900 := hl900.mv m927
  have hl906 := hl906.mv m927
  have hl924 := hl924.mv m927
  have := hl930.len_le
  refine wl_s (o_callK (vs := [v923, v929, vB (7 : UInt8)]) enter_22 (c_through (O := [] ++ O) v923 ([(1 : UInt8), (1 : UInt8)]) v929 ([(5 : UInt8), (5 : UInt8)]) (7 : UInt8) w925 hl924 hl930 (by simp) s926.lt) rfl s926 fun v931 w932 s933 m934 k935 r936 => (?_))
  obtain rfl := r936
  have hl894 := hl894.mv m934
  have hl880 := hl880.mv m934
  have hl886 := hl886.mv m934
  have hl900 := hl900.mv m934
  have hl906 := hl906.mv m934
  have hl924 := hl924.mv m934
  have hl930 := hl930.mv m934
  refine wl_s (o_move (Value.tuple #[vB ((through ([(1 : UInt8), (1 : UInt8)]) ([(5 : UInt8), (5 : UInt8)]) (7 : UInt8)).1), vI ((through ([(1 : UInt8), (1 : UInt8)]) ([(5 : UInt8), (5 : UInt8)]) (7 : UInt8)).2)]) rfl (wl_s (o_extract (vB ((through ([(1 : UInt8), (1 : UInt8)]) ([(5 : UInt8), (5 : UInt8)]) (7 : UInt8)).1)) rfl rfl (wl_s (o_extract (vI ((through ([(1 : UInt8), (1 : UInt8)]) ([(5 : UInt8), (5 : UInt8)]) (7 : UInt8)).2)) rfl rfl (wl_s (o_assign (vB ((through ([(1 : UInt8), (1 : UInt8)]) ([(5 : UInt8), (5 : UInt8)]) (7 : UInt8)).1)) rfl (wl_s (o_assign (vI ((through ([(1 : UInt8), (1 : UInt8)]) ([(5 : UInt8), (5 : UInt8)]) (7 : UInt8)).2)) rfl (wl_nil (thenQ_n (?_))))))))))))
  refine cw_seq (?_)
  refine cw_region (by kernel_rfl) (wl_s (o_lit (E := Enc.u8) (xs := [.const (vB (1 : UInt8))]) Try.underlying28 s_5 z_5 (by decide) [vB (1 : UInt8)] [[vB (1 : UInt8)]] [(1 : UInt8)] rfl rfl rfl (Parts.cons rfl rfl (Parts.nil _ _ _)) (of_decide_eq_true rfl) s933 fun v941 w937 s938 m939 k940 hl942 => (?_)))
  have hl894 := hl894.mv m939
  have hl880 := hl880.mv m939
  have hl886 := hl886.mv m939
  have hl900 := hl900.mv m939
  have hl906 := hl906.mv m939
  have hl924 := hl924.mv m939
  have hl930 := hl930.mv m939
  have := hl942.len_le
  refine wl_s (o_callK (vs := [v941, Value.slice none 0 0]) enter_24 (c_coeff (O := [] ++ O) v941 ([(1 : UInt8)]) (.slice none 0 0) [] w937 hl942 (RdL.nil _ _ _) (by simp) s938.lt) rfl s938 fun v943 w944 s945 m946 k947 r948 => (?_))
  obtain ⟨x949, rfl, hl950⟩ := r948
  have := hl950.len_le
  have hl894 := hl894.mv m946
  have hl880 := hl880.mv m946
  have hl886 := hl886.mv m946
  have hl900 := hl900.mv m946
  have hl906 := hl906.mv m946
  have hl924 := hl924.mv m946
  have hl930 := hl930.mv m946
  have hl942 := hl942.mv m946
  refine wl_s (o_move (Value.tuple #[x949, vI ((coeff ([(1 : UInt8)]) ([])).2)]) rfl (wl_s (o_extract (x949) rfl rfl (wl_s (o_extract (vI ((coeff ([(1 : UInt8)]) ([])).2)) rfl rfl (wl_s (o_assign (x949) rfl (wl_s (o_assign (vI ((coeff ([(1 : UInt8)]) ([])).2)) rfl (wl_nil (thenQ_n (?_))))))))))))
  refine cw_seq (?_)
  refine cw_seq (?_)
  refine cw_region (by kernel_rfl) (wl_s (o_move (vI ((inv (2 : UInt8)).2)) rfl (wl_s (o_neq .i64 ((inv (2 : UInt8)).2) (0 : Int) rfl rfl (wl_s (o_move (Value.bool (((inv (2 : UInt8)).2) != (0 : Int))) rfl (?_)))))))
  have hb951 : (((inv (2 : UInt8)).2) != (0 : Int)) = false := (by decide +kernel)
  rw [hb951]
  refine wl_t rfl (o_move (vI ((inv (0 : UInt8)).2)) rfl (wl_t rfl (o_neq .i64 ((inv (0 : UInt8)).2) (1 : Int) rfl rfl (wl_s (o_pickF (Value.bool (((inv (0 : UInt8)).2) != (1 : Int))) rfl rfl (wl_s (o_move (Value.bool (((inv (0 : UInt8)).2) != (1 : Int))) rfl (?_))))))))
  have hb952 : (((inv (0 : UInt8)).2) != (1 : Int)) = false := (by decide +kernel)
  rw [hb952]
  refine wl_t rfl (o_move (vI ((coeff ([(1 : UInt8), (2 : UInt8)]) ([(5 : UInt8), (5 : UInt8)])).2)) rfl (wl_t rfl (o_neq .i64 ((coeff ([(1 : UInt8), (2 : UInt8)]) ([(5 : UInt8), (5 : UInt8)])).2) (0 : Int) rfl rfl (wl_s (o_pickF (Value.bool (((coeff ([(1 : UInt8), (2 : UInt8)]) ([(5 : UInt8), (5 : UInt8)])).2) != (0 : Int))) rfl rfl (wl_s (o_move (Value.bool (((coeff ([(1 : UInt8), (2 : UInt8)]) ([(5 : UInt8), (5 : UInt8)])).2) != (0 : Int))) rfl (?_))))))))
  have hb953 : (((coeff ([(1 : UInt8), (2 : UInt8)]) ([(5 : UInt8), (5 : UInt8)])).2) != (0 : Int)) = false := (by decide +kernel)
  rw [hb953]
  refine wl_t rfl (o_move (vI ((through ([(1 : UInt8), (2 : UInt8)]) ([(5 : UInt8), (5 : UInt8)]) (77 : UInt8)).2)) rfl (wl_t rfl (o_neq .i64 ((through ([(1 : UInt8), (2 : UInt8)]) ([(5 : UInt8), (5 : UInt8)]) (77 : UInt8)).2) (0 : Int) rfl rfl (wl_s (o_pickF (Value.bool (((through ([(1 : UInt8), (2 : UInt8)]) ([(5 : UInt8), (5 : UInt8)]) (77 : UInt8)).2) != (0 : Int))) rfl rfl (wl_s (o_move (Value.bool (((through ([(1 : UInt8), (2 : UInt8)]) ([(5 : UInt8), (5 : UInt8)]) (77 : UInt8)).2) != (0 : Int))) rfl (?_))))))))
  have hb954 : (((through ([(1 : UInt8), (2 : UInt8)]) ([(5 : UInt8), (5 : UInt8)]) (77 : UInt8)).2) != (0 : Int)) = false := (by decide +kernel)
  rw [hb954]
  refine wl_t rfl (o_move (vI ((through ([]) ([]) (7 : UInt8)).2)) rfl (wl_t rfl (o_neq .i64 ((through ([]) ([]) (7 : UInt8)).2) (0 : Int) rfl rfl (wl_s (o_pickF (Value.bool (((through ([]) ([]) (7 : UInt8)).2) != (0 : Int))) rfl rfl (wl_s (o_move (Value.bool (((through ([]) ([]) (7 : UInt8)).2) != (0 : Int))) rfl (?_))))))))
  have hb955 : (((through ([]) ([]) (7 : UInt8)).2) != (0 : Int)) = false := (by decide +kernel)
  rw [hb955]
  refine wl_t rfl (o_move (vI ((through ([(1 : UInt8), (1 : UInt8)]) ([(5 : UInt8), (5 : UInt8)]) (7 : UInt8)).2)) rfl (wl_t rfl (o_neq .i64 ((through ([(1 : UInt8), (1 : UInt8)]) ([(5 : UInt8), (5 : UInt8)]) (7 : UInt8)).2) (1 : Int) rfl rfl (wl_s (o_pickF (Value.bool (((through ([(1 : UInt8), (1 : UInt8)]) ([(5 : UInt8), (5 : UInt8)]) (7 : UInt8)).2) != (1 : Int))) rfl rfl (wl_s (o_move (Value.bool (((through ([(1 : UInt8), (1 : UInt8)]) ([(5 : UInt8), (5 : UInt8)]) (7 : UInt8)).2) != (1 : Int))) rfl (?_))))))))
  have hb956 : (((through ([(1 : UInt8), (1 : UInt8)]) ([(5 : UInt8), (5 : UInt8)]) (7 : UInt8)).2) != (1 : Int)) = false := (by decide +kernel)
  rw [hb956]
  refine wl_t rfl (o_move (vI ((coeff ([(1 : UInt8)]) ([])).2)) rfl (wl_t rfl (o_neq .i64 ((coeff ([(1 : UInt8)]) ([])).2) (1 : Int) rfl rfl (wl_s (o_pickF (Value.bool (((coeff ([(1 : UInt8)]) ([])).2) != (1 : Int))) rfl rfl (wl_nil (thenQ_n (?_))))))))
  have hb957 : (((coeff ([(1 : UInt8)]) ([])).2) != (1 : Int)) = false := (by decide +kernel)
  rw [hb957]
  refine cw_cond false rfl rfl (fun h => by cases h) (fun _ => ?_)
  refine cw_skip (thenQ_n (?_))
  refine cw_seq (?_)
  refine cw_region (by kernel_rfl) (wl_s (o_callK (vs := [vB (2 : UInt8), vB (128 : UInt8)]) enter_20 (c_mul (O := [] ++ O) (2 : UInt8) (128 : UInt8) w944 s945.lt) rfl s945 fun v958 w959 s960 m961 k962 r963 => (?_)))
  obtain rfl := r963
  have hl894 := hl894.mv m961
  have hl950 := hl950.mv m961
  have hl880 := hl880.mv m961
  have hl886 := hl886.mv m961
  have hl900 := hl900.mv m961
  have hl906 := hl906.mv m961
  have hl924 := hl924.mv m961
  have hl930 := hl930.mv m961
  have hl942 := hl942.mv m961
  refine wl_s (o_eql8 (gmul (2 : UInt8) (128 : UInt8)) (27 : UInt8) rfl rfl (wl_s (o_move (Value.bool ((gmul (2 : UInt8) (128 : UInt8)) == (27 : UInt8))) rfl (?_))))
  have hb964 : ((gmul (2 : UInt8) (128 : UInt8)) == (27 : UInt8)) = true := (by decide +kernel)
  rw [hb964]
  refine wl_t rfl (o_move (vB ((inv (2 : UInt8)).1)) rfl (wl_t rfl (o_eql8 ((inv (2 : UInt8)).1) (141 : UInt8) rfl rfl (wl_s (o_pickT (Value.bool (((inv (2 : UInt8)).1) == (141 : UInt8))) rfl rfl (wl_s (o_move (Value.bool (((inv (2 : UInt8)).1) == (141 : UInt8))) rfl (?_))))))))
  have hb965 : (((inv (2 : UInt8)).1) == (141 : UInt8)) = true := (by decide +kernel)
  rw [hb965]
  refine wl_t rfl (o_callK (vs := [vB (83 : UInt8), vB (202 : UInt8)]) enter_20 (c_mul (O := [] ++ O) (83 : UInt8) (202 : UInt8) w959 s960.lt) rfl s960 fun v966 w967 s968 m969 k970 r971 => (?_))
  obtain rfl := r971
  have hl894 := hl894.mv m969
  have hl950 := hl950.mv m969
  have hl880 := hl880.mv m969
  have hl886 := hl886.mv m969
  have hl900 := hl900.mv m969
  have hl906 := hl906.mv m969
  have hl924 := hl924.mv m969
  have hl930 := hl930.mv m969
  have hl942 := hl942.mv m969
  refine wl_t rfl (o_eql8 (gmul (83 : UInt8) (202 : UInt8)) (1 : UInt8) rfl rfl (wl_s (o_pickT (Value.bool ((gmul (83 : UInt8) (202 : UInt8)) == (1 : UInt8))) rfl rfl (wl_s (o_move (Value.bool ((gmul (83 : UInt8) (202 : UInt8)) == (1 : UInt8))) rfl (?_))))))
  have hb972 : ((gmul (83 : UInt8) (202 : UInt8)) == (1 : UInt8)) = true := (by decide +kernel)
  rw [hb972]
  refine wl_t rfl (o_move (x893) rfl (wl_t rfl (o_bytes Try.underlying28 Try.underlying5 Try.underlying9 rfl hl894 (wl_t rfl (o_lit (E := Enc.u8) (xs := [.const (vB (5 : UInt8)), .const (vB (0 : UInt8))]) Try.underlying28 s_5 z_5 (by decide) [vB (5 : UInt8), vB (0 : UInt8)] [[vB (5 : UInt8)], [vB (0 : UInt8)]] [(5 : UInt8), (0 : UInt8)] rfl rfl rfl (Parts.cons rfl rfl (Parts.cons rfl rfl (Parts.nil _ _ _))) (of_decide_eq_true rfl) s968 fun v977 w973 s974 m975 k976 hl978 => (?_))))))
  have hl894 := hl894.mv m975
  have hl950 := hl950.mv m975
  have hl880 := hl880.mv m975
  have hl886 := hl886.mv m975
  have hl900 := hl900.mv m975
  have hl906 := hl906.mv m975
  have hl924 := hl924.mv m975
  have hl930 := hl930.mv m975
  have hl942 := hl942.mv m975
  have := hl978.len_le
  refine wl_t rfl (o_bytes Try.underlying28 Try.underlying5 Try.underlying9 rfl hl978 (wl_t rfl (o_eqlS ((coeff ([(1 : UInt8), (2 : UInt8)]) ([(5 : UInt8), (5 : UInt8)])).1) ([(5 : UInt8), (0 : UInt8)]) rfl rfl (wl_s (o_pickT (Value.bool (((coeff ([(1 : UInt8), (2 : UInt8)]) ([(5 : UInt8), (5 : UInt8)])).1) == ([(5 : UInt8), (0 : UInt8)]))) rfl rfl (wl_s (o_move (Value.bool (((coeff ([(1 : UInt8), (2 : UInt8)]) ([(5 : UInt8), (5 : UInt8)])).1) == ([(5 : UInt8), (0 : UInt8)]))) rfl (?_))))))))
  have hb979 : (((coeff ([(1 : UInt8), (2 : UInt8)]) ([(5 : UInt8), (5 : UInt8)])).1) == ([(5 : UInt8), (0 : UInt8)])) = true := (by decide +kernel)
  rw [hb979]
  refine wl_t rfl (o_move (vB ((through ([(1 : UInt8), (2 : UInt8)]) ([(5 : UInt8), (5 : UInt8)]) (77 : UInt8)).1)) rfl (wl_t rfl (o_eql8 ((through ([(1 : UInt8), (2 : UInt8)]) ([(5 : UInt8), (5 : UInt8)]) (77 : UInt8)).1) (5 : UInt8) rfl rfl (wl_s (o_pickT (Value.bool (((through ([(1 : UInt8), (2 : UInt8)]) ([(5 : UInt8), (5 : UInt8)]) (77 : UInt8)).1) == (5 : UInt8))) rfl rfl (wl_s (o_move (Value.bool (((through ([(1 : UInt8), (2 : UInt8)]) ([(5 : UInt8), (5 : UInt8)]) (77 : UInt8)).1) == (5 : UInt8))) rfl (?_))))))))
  have hb980 : (((through ([(1 : UInt8), (2 : UInt8)]) ([(5 : UInt8), (5 : UInt8)]) (77 : UInt8)).1) == (5 : UInt8)) = true := (by decide +kernel)
  rw [hb980]
  refine wl_t rfl (o_move (vB ((through ([]) ([]) (7 : UInt8)).1)) rfl (wl_t rfl (o_eql8 ((through ([]) ([]) (7 : UInt8)).1) (0 : UInt8) rfl rfl (wl_s (o_pickT (Value.bool (((through ([]) ([]) (7 : UInt8)).1) == (0 : UInt8))) rfl rfl (wl_s (o_move (Value.bool (((through ([]) ([]) (7 : UInt8)).1) == (0 : UInt8))) rfl (?_))))))))
  have hb981 : (((through ([]) ([]) (7 : UInt8)).1) == (0 : UInt8)) = true := (by decide +kernel)
  rw [hb981]
  refine wl_t rfl (o_callK (vs := [Value.slice none 0 0, vB (7 : UInt8)]) enter_26 (c_eval (O := [] ++ O) (.slice none 0 0) [] (7 : UInt8) w973 (RdL.nil _ _ _) s974.lt) rfl s974 fun v982 w983 s984 m985 k986 r987 => (?_))
  obtain rfl := r987
  have hl894 := hl894.mv m985
  have hl950 := hl950.mv m985
  have hl880 := hl880.mv m985
  have hl886 := hl886.mv m985
  have hl900 := hl900.mv m985
  have hl906 := hl906.mv m985
  have hl924 := hl924.mv m985
  have hl930 := hl930.mv m985
  have hl942 := hl942.mv m985
  have hl978 := hl978.mv m985
  refine wl_t rfl (o_eql8 (pev ([]) (7 : UInt8)) (0 : UInt8) rfl rfl (wl_s (o_pickT (Value.bool ((pev ([]) (7 : UInt8)) == (0 : UInt8))) rfl rfl (wl_s (o_move (Value.bool ((pev ([]) (7 : UInt8)) == (0 : UInt8))) rfl (?_))))))
  have hb988 : ((pev ([]) (7 : UInt8)) == (0 : UInt8)) = true := (by decide +kernel)
  rw [hb988]
  refine wl_t rfl (o_lit (E := Enc.u8) (xs := [.const (vB (3 : UInt8)), .const (vB (9 : UInt8)), .const (vB (200 : UInt8))]) Try.underlying28 s_5 z_5 (by decide) [vB (3 : UInt8), vB (9 : UInt8), vB (200 : UInt8)] [[vB (3 : UInt8)], [vB (9 : UInt8)], [vB (200 : UInt8)]] [(3 : UInt8), (9 : UInt8), (200 : UInt8)] rfl rfl rfl (Parts.cons rfl rfl (Parts.cons rfl rfl (Parts.cons rfl rfl (Parts.nil _ _ _)))) (of_decide_eq_true rfl) s984 fun v993 w989 s990 m991 k992 hl994 => (?_))
  have hl894 := hl894.mv m991
  have hl950 := hl950.mv m991
  have hl880 := hl880.mv m991
  have hl886 := hl886.mv m991
  have hl900 := hl900.mv m991
  have hl906 := hl906.mv m991
  have hl924 := hl924.mv m991
  have hl930 := hl930.mv m991
  have hl942 := hl942.mv m991
  have hl978 := hl978.mv m991
  have := hl994.len_le
  refine wl_t rfl (o_callK (vs := [v993, vB (0 : UInt8)]) enter_26 (c_eval (O := [] ++ O) v993 ([(3 : UInt8), (9 : UInt8), (200 : UInt8)]) (0 : UInt8) w989 hl994 s990.lt) rfl s990 fun v995 w996 s997 m998 k999 r1000 => (?_))
  obtain rfl := r1000
  have hl894 := hl894.mv m998
  have hl950 := hl950.mv m998
  have hl880 := hl880.mv m998
  have hl886 := hl886.mv m998
  have hl900 := hl900.mv m998
  have hl906 := hl906.mv m998
  have hl924 := hl924.mv m998
  have hl930 := hl930.mv m998
  have hl942 := hl942.mv m998
  have hl978 := hl978.mv m998
  have hl994 := hl994.mv m998
  refine wl_t rfl (o_eql8 (pev ([(3 : UInt8), (9 : UInt8), (200 : UInt8)]) (0 : UInt8)) (3 : UInt8) rfl rfl (wl_s (o_pickT (Value.bool ((pev ([(3 : UInt8), (9 : UInt8), (200 : UInt8)]) (0 : UInt8)) == (3 : UInt8))) rfl rfl (wl_s (o_assign (Value.bool ((pev ([(3 : UInt8), (9 : UInt8), (200 : UInt8)]) (0 : UInt8)) == (3 : UInt8))) rfl (wl_nil (thenQ_n (?_))))))))
  refine cw_ret (end_r rfl (res1 rfl rfl rfl) (?_))
  have e : true = ((pev ([(3 : UInt8), (9 : UInt8), (200 : UInt8)]) (0 : UInt8)) == (3 : UInt8)) := by decide +kernel
  exact ⟨_, rfl, s997.keep, by rw [e]; exact rfl⟩

end Go.Proofs.Yteajcgfcnbdmgaa
