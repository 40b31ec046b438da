/- Walks, printed by gen.py. -/
import Derived.Test.YteajcgfcnbdmgaaWaD
namespace Go.Proofs.Yteajcgfcnbdmgaa
open Go.Fw Go.RowKit

set_option maxHeartbeats 4000000 in
set_option maxRecDepth 100000 in
theorem c_sane7 {O : List Nat} (w : World) (hO : ∀ b ∈ O, b < w.heap.size) : CallsK Try.prog 17 [] w (fun v _ => v = .bool (true)) :=  by
  have s0 : St w O w [] := St.start hO
  refine callsK_of 110 Try.func17 rfl rfl (of_decide_eq_true rfl) (fun F0 => ?_)
  refine cw_seq (?_)
  refine cw_region (by kernel_rfl) (wl_s (o_assign (.bool false) rfl (wl_nil (thenQ_n (?_)))))
  refine cw_seq (?_)
  refine cw_region (by kernel_rfl) (wl_s (o_callK (vs := [vB (2 : UInt8)]) enter_18 (c_inv (O := [] ++ O) (2 : UInt8) w s0.lt) rfl s0 fun v864 w865 s866 m867 k868 r869 => (?_)))
  obtain rfl := r869
  refine wl_s (o_move (.tuple #[vB ((inv (2 : UInt8)).1), vI ((inv (2 : UInt8)).2)]) rfl (wl_s (o_extract (vB ((inv (2 : UInt8)).1)) rfl rfl (wl_s (o_extract (vI ((inv (2 : UInt8)).2)) rfl rfl (wl_s (o_assign (vB ((inv (2 : UInt8)).1)) rfl (wl_s (o_assign (vI ((inv (2 : UInt8)).2)) rfl (wl_nil (thenQ_n (?_))))))))))))
  refine cw_seq (?_)
  refine cw_region (by kernel_rfl) (wl_s (o_callK (vs := [vB (0 : UInt8)]) enter_18 (c_inv (O := [] ++ O) (0 : UInt8) w865 s866.lt) rfl s866 fun v870 w871 s872 m873 k874 r875 => (?_)))
  obtain rfl := r875
  refine wl_s (o_move (.tuple #[vB ((inv (0 : UInt8)).1), vI ((inv (0 : UInt8)).2)]) rfl (wl_s (o_extract (vB ((inv (0 : UInt8)).1)) rfl rfl (wl_s (o_extract (vI ((inv (0 : UInt8)).2)) rfl rfl (wl_s (o_assign (vB ((inv (0 : UInt8)).1)) rfl (wl_s (o_assign (vI ((inv (0 : UInt8)).2)) rfl (wl_nil (thenQ_n (?_))))))))))))
  refine cw_seq (?_)
  refine cw_region (by kernel_rfl) (wl_s (o_lit (E := Enc.u8) (xs := [.const (vB (1 : UInt8)), .const (vB (2 : UInt8))]) Try.underlying28 s_5 z_5 (by decide) [vB (1 : UInt8), vB (2 : UInt8)] [[vB (1 : UInt8)], [vB (2 : UInt8)]] [(1 : UInt8), (2 : UInt8)] rfl rfl rfl (Parts.cons rfl rfl (Parts.cons rfl rfl (Parts.nil _ _ _))) (of_decide_eq_true rfl) s872 fun v880 w876 s877 m878 k879 hl881 => (?_)))
  have := hl881.len_le
  refine wl_s (o_lit (E := Enc.u8) (xs := [.const (vB (5 : UInt8)), .const (vB (5 : UInt8))]) Try.underlying28 s_5 z_5 (by decide) [vB (5 : UInt8), vB (5 : UInt8)] [[vB (5 : UInt8)], [vB (5 : UInt8)]] [(5 : UInt8), (5 : UInt8)] rfl rfl rfl (Parts.cons rfl rfl (Parts.cons rfl rfl (Parts.nil _ _ _))) (of_decide_eq_true rfl) s877 fun v886 w882 s883 m884 k885 hl887 => (?_))
  have hl881 := hl881.mv m884
  have := hl887.len_le
  refine wl_s (o_callK (vs := [v880, v886]) enter_24 (c_coeff (O := [] ++ O) v880 ([(1 : UInt8), (2 : UInt8)]) v886 ([(5 : UInt8), (5 : UInt8)]) w882 hl881 hl887 (by simp) s883.lt) rfl s883 fun v888 w889 s890 m891 k892 r893 => (?_))
  obtain ⟨x894, rfl, hl895⟩ := r893
  have := hl895.len_le
  have hl881 := hl881.mv m891
  have hl887 := hl887.mv m891
  refine wl_s (o_move (.tuple #[x894, vI ((coeff ([(1 : UInt8), (2 : UInt8)]) ([(5 : UInt8), (5 : UInt8)])).2)]) rfl (wl_s (o_extract (x894) rfl rfl (wl_s (o_extract (vI ((coeff ([(1 : UInt8), (2 : UInt8)]) ([(5 : UInt8), (5 : UInt8)])).2)) rfl rfl (wl_s (o_assign (x894) rfl (wl_s (o_assign (vI ((coeff ([(1 : UInt8), (2 : UInt8)]) ([(5 : UInt8), (5 : UInt8)])).2)) rfl (wl_nil (thenQ_n (?_))))))))))))
  refine cw_seq (?_)
  refine cw_region (by kernel_rfl) (wl_s (o_lit (E := Enc.u8) (xs := [.const (vB (1 : UInt8)), .const (vB (2 : UInt8))]) Try.underlying28 s_5 z_5 (by decide) [vB (1 : UInt8), vB (2 : UInt8)] [[vB (1 : UInt8)], [vB (2 : UInt8)]] [(1 : UInt8), (2 : UInt8)] rfl rfl rfl (Parts.cons rfl rfl (Parts.cons rfl rfl (Parts.nil _ _ _))) (of_decide_eq_true rfl) s890 fun v900 w896 s897 m898 k899 hl901 => (?_)))
  have hl895 := hl895.mv m898
  have hl881 := hl881.mv m898
  have hl887 := hl887.mv m898
  have := hl901.len_le
  refine wl_s (o_lit (E := Enc.u8) (xs := [.const (vB (5 : UInt8)), .const (vB (5 : UInt8))]) Try.underlying28 s_5 z_5 (by decide) [vB (5 : UInt8), vB (5 : UInt8)] [[vB (5 : UInt8)], [vB (5 : UInt8)]] [(5 : UInt8), (5 : UInt8)] rfl rfl rfl (Parts.cons rfl rfl (Parts.cons rfl rfl (Parts.nil _ _ _))) (of_decide_eq_true rfl) s897 fun v906 w902 s903 m904 k905 hl907 => (?_))
  have hl895 := hl895.mv m904
  have hl881 := hl881.mv m904
  have hl887 := hl887.mv m904
  have hl901 := hl901.mv m904
  have := hl907.len_le
  refine wl_s (o_callK (vs := [v900, v906, vB (77 : UInt8)]) enter_22 (c_through (O := [] ++ O) v900 ([(1 : UInt8), (2 : UInt8)]) v906 ([(5 : UInt8), (5 : UInt8)]) (77 : UInt8) w902 hl901 hl907 (by simp) s903.lt) rfl s903 fun v908 w909 s910 m911 k912 r913 => (?_))
  obtain rfl := r913
  have hl895 := hl895.mv m911
  have hl881 := hl881.mv m911
  have hl887 := hl887.mv m911
  have hl901 := hl901.mv m911
  have hl907 := hl907.mv m911
  refine wl_s (o_move (.tuple #[vB ((through ([(1 : UInt8), (2 : UInt8)]) ([(5 : UInt8), (5 : UInt8)]) (77 : UInt8)).1), vI ((through ([(1 : UInt8), (2 : UInt8)]) ([(5 : UInt8), (5 : UInt8)]) (77 : UInt8)).2)]) rfl (wl_s (o_extract (vB ((through ([(1 : UInt8), (2 : UInt8)]) ([(5 : UInt8), (5 : UInt8)]) (77 : UInt8)).1)) rfl rfl (wl_s (o_extract (vI ((through ([(1 : UInt8), (2 : UInt8)]) ([(5 : UInt8), (5 : UInt8)]) (77 : UInt8)).2)) rfl rfl (wl_s (o_assign (vB ((through ([(1 : UInt8), (2 : UInt8)]) ([(5 : UInt8), (5 : UInt8)]) (77 : UInt8)).1)) rfl (wl_s (o_assign (vI ((through ([(1 : UInt8), (2 : UInt8)]) ([(5 : UInt8), (5 : UInt8)]) (77 : UInt8)).2)) rfl (wl_nil (thenQ_n (?_))))))))))))
  refine cw_seq (?_)
  refine cw_region (by kernel_rfl) (wl_s (o_callK (vs := [.slice none 0 0, .slice none 0 0, vB (7 : UInt8)]) enter_22 (c_through (O := [] ++ O) (.slice none 0 0) [] (.slice none 0 0) [] (7 : UInt8) w909 (RdL.nil _ _ _) (RdL.nil _ _ _) (by simp) s910.lt) rfl s910 fun v914 w915 s916 m917 k918 r919 => (?_)))
  obtain rfl := r919
  have hl895 := hl895.mv m917
  have hl881 := hl881.mv m917
  have hl887 := hl887.mv m917
  have hl901 := hl901.mv m917
  have hl907 := hl907.mv m917
  refine wl_s (o_move (.tuple #[vB ((through ([]) ([]) (7 : UInt8)).1), vI ((through ([]) ([]) (7 : UInt8)).2)]) rfl (wl_s (o_extract (vB ((through ([]) ([]) (7 : UInt8)).1)) rfl rfl (wl_s (o_extract (vI ((through ([]) ([]) (7 : UInt8)).2)) rfl rfl (wl_s (o_assign (vB ((through ([]) ([]) (7 : UInt8)).1)) rfl (wl_s (o_assign (vI ((through ([]) ([]) (7 : UInt8)).2)) rfl (wl_nil (thenQ_n (?_))))))))))))
  refine cw_seq (?_)
  refine cw_region (by kernel_rfl) (wl_s (o_lit (E := Enc.u8) (xs := [.const (vB (1 : UInt8)), .const (vB (1 : UInt8))]) Try.underlying28 s_5 z_5 (by decide) [vB (1 : UInt8), vB (1 : UInt8)] [[vB (1 : UInt8)], [vB (1 : UInt8)]] [(1 : UInt8), (1 : UInt8)] rfl rfl rfl (Parts.cons rfl rfl (Parts.cons rfl rfl (Parts.nil _ _ _))) (of_decide_eq_true rfl) s916 fun v924 w920 s921 m922 k923 hl925 => (?_)))
  have hl895 := hl895.mv m922
  have hl881 := hl881.mv m922
  have hl887 := hl887.mv m922
  have hl901 := hl901.mv m922
  have hl907 := hl907.mv m922
  have := hl925.len_le
  refine wl_s (o_lit (E := Enc.u8) (xs := [.const (vB (5 : UInt8)), .const (vB (5 : UInt8))]) Try.underlying28 s_5 z_5 (by decide) [vB (5 : UInt8), vB (5 : UInt8)] [[vB (5 : UInt8)], [vB (5 : UInt8)]] [(5 : UInt8), (5 : UInt8)] rfl rfl rfl (Parts.cons rfl rfl (Parts.cons rfl rfl (Parts.nil _ _ _))) (of_decide_eq_true rfl) s921 fun v930 w926 s927 m928 k929 hl931 => (?_))
  have hl895 := hl895.mv m928
  have hl881 := hl881.mv m928
  have hl887 := hl887.mv m928
  have hl901 := hl901.mv m928
  have hl907 := hl907.mv m928
  have hl925 := hl925.mv m928
  have := hl931.len_le
  refine wl_s (o_callK (vs := [v924, v930, vB (7 : UInt8)]) enter_22 (c_through (O := [] ++ O) v924 ([(1 : UInt8), (1 : UInt8)]) v930 ([(5 : UInt8), (5 : UInt8)]) (7 : UInt8) w926 hl925 hl931 (by simp) s927.lt) rfl s927 fun v932 w933 s934 m935 k936 r937 => (?_))
  obtain rfl := r937
  have hl895 := hl895.mv m935
  have hl881 := hl881.mv m935
  have hl887 := hl887.mv m935
  have hl901 := hl901.mv m935
  have hl907 := hl907.mv m935
  have hl925 := hl925.mv m935
  have hl931 := hl931.mv m935
  refine wl_s (o_move (.tuple #[vB ((through ([(1 : UInt8), (1 : UInt8)]) ([(5 : UInt8), (5 : UInt8)]) (7 : UInt8)).1), vI ((through ([(1 : UInt8), (1 : UInt8)]) ([(5 : UInt8), (5 : UInt8)]) (7 : UInt8)).2)]) rfl (wl_s (o_extract (vB ((through ([(1 : UInt8), (1 : UInt8)]) ([(5 : UInt8), (5 : UInt8)]) (7 : UInt8)).1)) rfl rfl (wl_s (o_extract (vI ((through ([(1 : UInt8), (1 : UInt8)]) ([(5 : UInt8), (5 : UInt8)]) (7 : UInt8)).2)) rfl rfl (wl_s (o_assign (vB ((through ([(1 : UInt8), (1 : UInt8)]) ([(5 : UInt8), (5 : UInt8)]) (7 : UInt8)).1)) rfl (wl_s (o_assign (vI ((through ([(1 : UInt8), (1 : UInt8)]) ([(5 : UInt8), (5 : UInt8)]) (7 : UInt8)).2)) rfl (wl_nil (thenQ_n (?_))))))))))))
  refine cw_seq (?_)
  refine cw_region (by kernel_rfl) (wl_s (o_lit (E := Enc.u8) (xs := [.const (vB (1 : UInt8))]) Try.underlying28 s_5 z_5 (by decide) [vB (1 : UInt8)] [[vB (1 : UInt8)]] [(1 : UInt8)] rfl rfl rfl (Parts.cons rfl rfl (Parts.nil _ _ _)) (of_decide_eq_true rfl) s934 fun v942 w938 s939 m940 k941 hl943 => (?_)))
  have hl895 := hl895.mv m940
  have hl881 := hl881.mv m940
  have hl887 := hl887.mv m940
  have hl901 := hl901.mv m940
  have hl907 := hl907.mv m940
  have hl925 := hl925.mv m940
  have hl931 := hl931.mv m940
  have := hl943.len_le
  refine wl_s (o_callK (vs := [v942, .slice none 0 0]) enter_24 (c_coeff (O := [] ++ O) v942 ([(1 : UInt8)]) (.slice none 0 0) [] w938 hl943 (RdL.nil _ _ _) (by simp) s939.lt) rfl s939 fun v944 w945 s946 m947 k948 r949 => (?_))
  obtain ⟨x950, rfl, hl951⟩ := r949
  have := hl951.len_le
  have hl895 := hl895.mv m947
  have hl881 := hl881.mv m947
  have hl887 := hl887.mv m947
  have hl901 := hl901.mv m947
  have hl907 := hl907.mv m947
  have hl925 := hl925.mv m947
  have hl931 := hl931.mv m947
  have hl943 := hl943.mv m947
  refine wl_s (o_move (.tuple #[x950, vI ((coeff ([(1 : UInt8)]) ([])).2)]) rfl (wl_s (o_extract (x950) rfl rfl (wl_s (o_extract (vI ((coeff ([(1 : UInt8)]) ([])).2)) rfl rfl (wl_s (o_assign (x950) rfl (wl_s (o_assign (vI ((coeff ([(1 : UInt8)]) ([])).2)) rfl (wl_nil (thenQ_n (?_))))))))))))
  refine cw_seq (?_)
  refine cw_seq (?_)
  refine cw_region (by kernel_rfl) (wl_s (o_move (vI ((inv (2 : UInt8)).2)) rfl (wl_s (o_neq .i64 ((inv (2 : UInt8)).2) (0 : Int) rfl rfl (wl_s (o_move (.bool (((inv (2 : UInt8)).2) != (0 : Int))) rfl (?_)))))))
  have hb952 : (((inv (2 : UInt8)).2) != (0 : Int)) = false := (by decide +kernel)
  rw [hb952]
  refine wl_t rfl (o_move (vI ((inv (0 : UInt8)).2)) rfl (wl_t rfl (o_neq .i64 ((inv (0 : UInt8)).2) (1 : Int) rfl rfl (wl_s (o_pickF (.bool (((inv (0 : UInt8)).2) != (1 : Int))) rfl rfl (wl_s (o_move (.bool (((inv (0 : UInt8)).2) != (1 : Int))) rfl (?_))))))))
  have hb953 : (((inv (0 : UInt8)).2) != (1 : Int)) = false := (by decide +kernel)
  rw [hb953]
  refine wl_t rfl (o_move (vI ((coeff ([(1 : UInt8), (2 : UInt8)]) ([(5 : UInt8), (5 : UInt8)])).2)) rfl (wl_t rfl (o_neq .i64 ((coeff ([(1 : UInt8), (2 : UInt8)]) ([(5 : UInt8), (5 : UInt8)])).2) (0 : Int) rfl rfl (wl_s (o_pickF (.bool (((coeff ([(1 : UInt8), (2 : UInt8)]) ([(5 : UInt8), (5 : UInt8)])).2) != (0 : Int))) rfl rfl (wl_s (o_move (.bool (((coeff ([(1 : UInt8), (2 : UInt8)]) ([(5 : UInt8), (5 : UInt8)])).2) != (0 : Int))) rfl (?_))))))))
  have hb954 : (((coeff ([(1 : UInt8), (2 : UInt8)]) ([(5 : UInt8), (5 : UInt8)])).2) != (0 : Int)) = false := (by decide +kernel)
  rw [hb954]
  refine wl_t rfl (o_move (vI ((through ([(1 : UInt8), (2 : UInt8)]) ([(5 : UInt8), (5 : UInt8)]) (77 : UInt8)).2)) rfl (wl_t rfl (o_neq .i64 ((through ([(1 : UInt8), (2 : UInt8)]) ([(5 : UInt8), (5 : UInt8)]) (77 : UInt8)).2) (0 : Int) rfl rfl (wl_s (o_pickF (.bool (((through ([(1 : UInt8), (2 : UInt8)]) ([(5 : UInt8), (5 : UInt8)]) (77 : UInt8)).2) != (0 : Int))) rfl rfl (wl_s (o_move (.bool (((through ([(1 : UInt8), (2 : UInt8)]) ([(5 : UInt8), (5 : UInt8)]) (77 : UInt8)).2) != (0 : Int))) rfl (?_))))))))
  have hb955 : (((through ([(1 : UInt8), (2 : UInt8)]) ([(5 : UInt8), (5 : UInt8)]) (77 : UInt8)).2) != (0 : Int)) = false := (by decide +kernel)
  rw [hb955]
  refine wl_t rfl (o_move (vI ((through ([]) ([]) (7 : UInt8)).2)) rfl (wl_t rfl (o_neq .i64 ((through ([]) ([]) (7 : UInt8)).2) (0 : Int) rfl rfl (wl_s (o_pickF (.bool (((through ([]) ([]) (7 : UInt8)).2) != (0 : Int))) rfl rfl (wl_s (o_move (.bool (((through ([]) ([]) (7 : UInt8)).2) != (0 : Int))) rfl (?_))))))))
  have hb956 : (((through ([]) ([]) (7 : UInt8)).2) != (0 : Int)) = false := (by decide +kernel)
  rw [hb956]
  refine wl_t rfl (o_move (vI ((through ([(1 : UInt8), (1 : UInt8)]) ([(5 : UInt8), (5 : UInt8)]) (7 : UInt8)).2)) rfl (wl_t rfl (o_neq .i64 ((through ([(1 : UInt8), (1 : UInt8)]) ([(5 : UInt8), (5 : UInt8)]) (7 : UInt8)).2) (1 : Int) rfl rfl (wl_s (o_pickF (.bool (((through ([(1 : UInt8), (1 : UInt8)]) ([(5 : UInt8), (5 : UInt8)]) (7 : UInt8)).2) != (1 : Int))) rfl rfl (wl_s (o_move (.bool (((through ([(1 : UInt8), (1 : UInt8)]) ([(5 : UInt8), (5 : UInt8)]) (7 : UInt8)).2) != (1 : Int))) rfl (?_))))))))
  have hb957 : (((through ([(1 : UInt8), (1 : UInt8)]) ([(5 : UInt8), (5 : UInt8)]) (7 : UInt8)).2) != (1 : Int)) = false := (by decide +kernel)
  rw [hb957]
  refine wl_t rfl (o_move (vI ((coeff ([(1 : UInt8)]) ([])).2)) rfl (wl_t rfl (o_neq .i64 ((coeff ([(1 : UInt8)]) ([])).2) (1 : Int) rfl rfl (wl_s (o_pickF (.bool (((coeff ([(1 : UInt8)]) ([])).2) != (1 : Int))) rfl rfl (wl_nil (thenQ_n (?_))))))))
  refine cw_cond false rfl (congrArg Value.bool (show (((coeff ([(1 : UInt8)]) ([])).2) != (1 : Int)) = false from (by decide +kernel))) (fun h => by cases h) (fun _ => ?_)
  refine cw_skip (thenQ_n (?_))
  refine cw_seq (?_)
  refine cw_region (by kernel_rfl) (wl_s (o_callK (vs := [vB (2 : UInt8), vB (128 : UInt8)]) enter_20 (c_mul (O := [] ++ O) (2 : UInt8) (128 : UInt8) w945 s946.lt) rfl s946 fun v958 w959 s960 m961 k962 r963 => (?_)))
  obtain rfl := r963
  have hl895 := hl895.mv m961
  have hl951 := hl951.mv m961
  have hl881 := hl881.mv m961
  have hl887 := hl887.mv m961
  have hl901 := hl901.mv m961
  have hl907 := hl907.mv m961
  have hl925 := hl925.mv m961
  have hl931 := hl931.mv m961
  have hl943 := hl943.mv m961
  refine wl_s (o_eql8 (gmul (2 : UInt8) (128 : UInt8)) (27 : UInt8) rfl rfl (wl_s (o_move (.bool ((gmul (2 : UInt8) (128 : UInt8)) == (27 : UInt8))) rfl (?_))))
  have hb964 : ((gmul (2 : UInt8) (128 : UInt8)) == (27 : UInt8)) = true := (by decide +kernel)
  rw [hb964]
  refine wl_t rfl (o_move (vB ((inv (2 : UInt8)).1)) rfl (wl_t rfl (o_eql8 ((inv (2 : UInt8)).1) (141 : UInt8) rfl rfl (wl_s (o_pickT (.bool (((inv (2 : UInt8)).1) == (141 : UInt8))) rfl rfl (wl_s (o_move (.bool (((inv (2 : UInt8)).1) == (141 : UInt8))) rfl (?_))))))))
  have hb965 : (((inv (2 : UInt8)).1) == (141 : UInt8)) = true := (by decide +kernel)
  rw [hb965]
  refine wl_t rfl (o_callK (vs := [vB (83 : UInt8), vB (202 : UInt8)]) enter_20 (c_mul (O := [] ++ O) (83 : UInt8) (202 : UInt8) w959 s960.lt) rfl s960 fun v966 w967 s968 m969 k970 r971 => (?_))
  obtain rfl := r971
  have hl895 := hl895.mv m969
  have hl951 := hl951.mv m969
  have hl881 := hl881.mv m969
  have hl887 := hl887.mv m969
  have hl901 := hl901.mv m969
  have hl907 := hl907.mv m969
  have hl925 := hl925.mv m969
  have hl931 := hl931.mv m969
  have hl943 := hl943.mv m969
  refine wl_t rfl (o_eql8 (gmul (83 : UInt8) (202 : UInt8)) (1 : UInt8) rfl rfl (wl_s (o_pickT (.bool ((gmul (83 : UInt8) (202 : UInt8)) == (1 : UInt8))) rfl rfl (wl_s (o_move (.bool ((gmul (83 : UInt8) (202 : UInt8)) == (1 : UInt8))) rfl (?_))))))
  have hb972 : ((gmul (83 : UInt8) (202 : UInt8)) == (1 : UInt8)) = true := (by decide +kernel)
  rw [hb972]
  refine wl_t rfl (o_move (x894) rfl (wl_t rfl (o_bytes Try.underlying28 Try.underlying5 Try.underlying9 rfl hl895 (wl_t rfl (o_lit (E := Enc.u8) (xs := [.const (vB (5 : UInt8)), .const (vB (0 : UInt8))]) Try.underlying28 s_5 z_5 (by decide) [vB (5 : UInt8), vB (0 : UInt8)] [[vB (5 : UInt8)], [vB (0 : UInt8)]] [(5 : UInt8), (0 : UInt8)] rfl rfl rfl (Parts.cons rfl rfl (Parts.cons rfl rfl (Parts.nil _ _ _))) (of_decide_eq_true rfl) s968 fun v977 w973 s974 m975 k976 hl978 => (?_))))))
  have hl895 := hl895.mv m975
  have hl951 := hl951.mv m975
  have hl881 := hl881.mv m975
  have hl887 := hl887.mv m975
  have hl901 := hl901.mv m975
  have hl907 := hl907.mv m975
  have hl925 := hl925.mv m975
  have hl931 := hl931.mv m975
  have hl943 := hl943.mv m975
  have := hl978.len_le
  refine wl_t rfl (o_bytes Try.underlying28 Try.underlying5 Try.underlying9 rfl hl978 (wl_t rfl (o_eqlS ((coeff ([(1 : UInt8), (2 : UInt8)]) ([(5 : UInt8), (5 : UInt8)])).1) ([(5 : UInt8), (0 : UInt8)]) rfl rfl (wl_s (o_pickT (.bool (((coeff ([(1 : UInt8), (2 : UInt8)]) ([(5 : UInt8), (5 : UInt8)])).1) == ([(5 : UInt8), (0 : UInt8)]))) rfl rfl (wl_s (o_move (.bool (((coeff ([(1 : UInt8), (2 : UInt8)]) ([(5 : UInt8), (5 : UInt8)])).1) == ([(5 : UInt8), (0 : UInt8)]))) rfl (?_))))))))
  have hb979 : (((coeff ([(1 : UInt8), (2 : UInt8)]) ([(5 : UInt8), (5 : UInt8)])).1) == ([(5 : UInt8), (0 : UInt8)])) = true := (by decide +kernel)
  rw [hb979]
  refine wl_t rfl (o_move (vB ((through ([(1 : UInt8), (2 : UInt8)]) ([(5 : UInt8), (5 : UInt8)]) (77 : UInt8)).1)) rfl (wl_t rfl (o_eql8 ((through ([(1 : UInt8), (2 : UInt8)]) ([(5 : UInt8), (5 : UInt8)]) (77 : UInt8)).1) (5 : UInt8) rfl rfl (wl_s (o_pickT (.bool (((through ([(1 : UInt8), (2 : UInt8)]) ([(5 : UInt8), (5 : UInt8)]) (77 : UInt8)).1) == (5 : UInt8))) rfl rfl (wl_s (o_move (.bool (((through ([(1 : UInt8), (2 : UInt8)]) ([(5 : UInt8), (5 : UInt8)]) (77 : UInt8)).1) == (5 : UInt8))) rfl (?_))))))))
  have hb980 : (((through ([(1 : UInt8), (2 : UInt8)]) ([(5 : UInt8), (5 : UInt8)]) (77 : UInt8)).1) == (5 : UInt8)) = true := (by decide +kernel)
  rw [hb980]
  refine wl_t rfl (o_move (vB ((through ([]) ([]) (7 : UInt8)).1)) rfl (wl_t rfl (o_eql8 ((through ([]) ([]) (7 : UInt8)).1) (0 : UInt8) rfl rfl (wl_s (o_pickT (.bool (((through ([]) ([]) (7 : UInt8)).1) == (0 : UInt8))) rfl rfl (wl_s (o_move (.bool (((through ([]) ([]) (7 : UInt8)).1) == (0 : UInt8))) rfl (?_))))))))
  have hb981 : (((through ([]) ([]) (7 : UInt8)).1) == (0 : UInt8)) = true := (by decide +kernel)
  rw [hb981]
  refine wl_t rfl (o_callK (vs := [.slice none 0 0, vB (7 : UInt8)]) enter_26 (c_eval (O := [] ++ O) (.slice none 0 0) [] (7 : UInt8) w973 (RdL.nil _ _ _) s974.lt) rfl s974 fun v982 w983 s984 m985 k986 r987 => (?_))
  obtain rfl := r987
  have hl895 := hl895.mv m985
  have hl951 := hl951.mv m985
  have hl881 := hl881.mv m985
  have hl887 := hl887.mv m985
  have hl901 := hl901.mv m985
  have hl907 := hl907.mv m985
  have hl925 := hl925.mv m985
  have hl931 := hl931.mv m985
  have hl943 := hl943.mv m985
  have hl978 := hl978.mv m985
  refine wl_t rfl (o_eql8 (pev ([]) (7 : UInt8)) (0 : UInt8) rfl rfl (wl_s (o_pickT (.bool ((pev ([]) (7 : UInt8)) == (0 : UInt8))) rfl rfl (wl_s (o_move (.bool ((pev ([]) (7 : UInt8)) == (0 : UInt8))) rfl (?_))))))
  have hb988 : ((pev ([]) (7 : UInt8)) == (0 : UInt8)) = true := (by decide +kernel)
  rw [hb988]
  refine wl_t rfl (o_lit (E := Enc.u8) (xs := [.const (vB (3 : UInt8)), .const (vB (9 : UInt8)), .const (vB (200 : UInt8))]) Try.underlying28 s_5 z_5 (by decide) [vB (3 : UInt8), vB (9 : UInt8), vB (200 : UInt8)] [[vB (3 : UInt8)], [vB (9 : UInt8)], [vB (200 : UInt8)]] [(3 : UInt8), (9 : UInt8), (200 : UInt8)] rfl rfl rfl (Parts.cons rfl rfl (Parts.cons rfl rfl (Parts.cons rfl rfl (Parts.nil _ _ _)))) (of_decide_eq_true rfl) s984 fun v993 w989 s990 m991 k992 hl994 => (?_))
  have hl895 := hl895.mv m991
  have hl951 := hl951.mv m991
  have hl881 := hl881.mv m991
  have hl887 := hl887.mv m991
  have hl901 := hl901.mv m991
  have hl907 := hl907.mv m991
  have hl925 := hl925.mv m991
  have hl931 := hl931.mv m991
  have hl943 := hl943.mv m991
  have hl978 := hl978.mv m991
  have := hl994.len_le
  refine wl_t rfl (o_callK (vs := [v993, vB (0 : UInt8)]) enter_26 (c_eval (O := [] ++ O) v993 ([(3 : UInt8), (9 : UInt8), (200 : UInt8)]) (0 : UInt8) w989 hl994 s990.lt) rfl s990 fun v995 w996 s997 m998 k999 r1000 => (?_))
  obtain rfl := r1000
  have hl895 := hl895.mv m998
  have hl951 := hl951.mv m998
  have hl881 := hl881.mv m998
  have hl887 := hl887.mv m998
  have hl901 := hl901.mv m998
  have hl907 := hl907.mv m998
  have hl925 := hl925.mv m998
  have hl931 := hl931.mv m998
  have hl943 := hl943.mv m998
  have hl978 := hl978.mv m998
  have hl994 := hl994.mv m998
  refine wl_t rfl (o_eql8 (pev ([(3 : UInt8), (9 : UInt8), (200 : UInt8)]) (0 : UInt8)) (3 : UInt8) rfl rfl (wl_s (o_pickT (.bool ((pev ([(3 : UInt8), (9 : UInt8), (200 : UInt8)]) (0 : UInt8)) == (3 : UInt8))) rfl rfl (wl_s (o_assign (.bool ((pev ([(3 : UInt8), (9 : UInt8), (200 : UInt8)]) (0 : UInt8)) == (3 : UInt8))) rfl (wl_nil (thenQ_n (?_))))))))
  refine cw_ret (end_r rfl (res1 rfl rfl rfl) (?_))
  have e : true = ((pev ([(3 : UInt8), (9 : UInt8), (200 : UInt8)]) (0 : UInt8)) == (3 : UInt8)) := by decide +kernel
  exact ⟨_, rfl, s997.keep, by rw [e]; exact rfl⟩

end Go.Proofs.Yteajcgfcnbdmgaa
