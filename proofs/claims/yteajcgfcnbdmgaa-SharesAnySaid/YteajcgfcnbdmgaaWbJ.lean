/- Walks, printed by gen.py. -/
import Derived.Test.YteajcgfcnbdmgaaWbH
set_option linter.unusedSimpArgs false
set_option linter.unusedVariables false
namespace Go.Proofs.Yteajcgfcnbdmgaa
open Go.Fw Go.RowKit

set_option maxHeartbeats 4000000 in
set_option maxRecDepth 100000 in
theorem c_sane8 {O : List Nat} (w : World) (hO : ∀ b ∈ O, b < w.heap.size) : CallsK Try.prog 28 [] w (fun v _ => v = .bool (true)) :=  by
 have s0 : St w O w [] := St.start hO
 refine callsK_of 197 Try.func28 rfl rfl (of_decide_eq_true rfl) (fun F0 => ?_)
 refine cw_seq (?_)
 refine cw_region (by kernel_rfl) (wl_s (o_assign (Value.bool false) rfl (wl_nil (thenQ_n (?_)))))
 refine cw_seq (?_)
 refine cw_region (by kernel_rfl) (wl_s (o_callK (vs := [Value.slice none 0 0]) enter_35 (c_join (O := [] ++ O) (.slice none 0 0) [] w (RdL.nil _ _ _) s0.lt) rfl s0 fun v3923 w3924 s3925 m3926 k3927 r3928 => (?_)))
 obtain ⟨x3929, rfl, hl3930⟩ := r3928
 have := hl3930.len_le
 refine wl_s (o_move (Value.tuple #[x3929, vI ((joinM ([])).2)]) rfl (wl_s (o_extract (x3929) rfl rfl (wl_s (o_extract (vI ((joinM ([])).2)) rfl rfl (wl_s (o_assign (x3929) rfl (wl_s (o_assign (vI ((joinM ([])).2)) rfl (wl_nil (thenQ_n (?_))))))))))))
 refine cw_seq (?_)
 refine cw_region (by kernel_rfl) (wl_s (o_lit (E := Enc.u8) (xs := [.const (vB (1 : UInt8)), .const (vB (2 : UInt8))]) Try.underlying28 s_5 z_5 (by decide) [vB (1 : UInt8), vB (2 : UInt8)] [[vB (1 : UInt8)], [vB (2 : UInt8)]] [(1 : UInt8), (2 : UInt8)] rfl rfl rfl (Parts.cons rfl rfl (Parts.cons rfl rfl (Parts.nil _ _ _))) (of_decide_eq_true rfl) s3925 fun v3935 w3931 s3932 m3933 k3934 hl3936 => (?_)))
 have := hl3936.len_le
 refine wl_s (o_lit (E := Enc.u8) (xs := [.const (vB (1 : UInt8))]) Try.underlying28 s_5 z_5 (by decide) [vB (1 : UInt8)] [[vB (1 : UInt8)]] [(1 : UInt8)] rfl rfl rfl (Parts.cons rfl rfl (Parts.nil _ _ _)) (of_decide_eq_true rfl) s3932 fun v3941 w3937 s3938 m3939 k3940 hl3942 => (?_))
 have hl3936 := hl3936.mv m3939
 have := hl3942.len_le
 refine wl_s (o_callK (vs := [v3935, vI (0 : Int), vI (2 : Int), vI (3 : Int), v3941]) enter_30 (c_split (O := [] ++ O) v3935 ([(1 : UInt8), (2 : UInt8)]) (0 : Int) (2 : Int) (3 : Int) v3941 ([(1 : UInt8)]) w3937 hl3936 hl3942 s3938.lt) rfl s3938 fun v3943 w3944 s3945 m3946 k3947 r3948 => (?_))
 obtain ⟨x3949, rfl, hl3950⟩ := r3948
 have := hl3950.len_le
 refine wl_s (o_move (Value.tuple #[x3949, vI ((splitM ([(1 : UInt8), (2 : UInt8)]) (0 : Int) (2 : Int) (3 : Int) ([(1 : UInt8)])).2)]) rfl (wl_s (o_extract (x3949) rfl rfl (wl_s (o_extract (vI ((splitM ([(1 : UInt8), (2 : UInt8)]) (0 : Int) (2 : Int) (3 : Int) ([(1 : UInt8)])).2)) rfl rfl (wl_s (o_assign (x3949) rfl (wl_s (o_assign (vI ((splitM ([(1 : UInt8), (2 : UInt8)]) (0 : Int) (2 : Int) (3 : Int) ([(1 : UInt8)])).2)) rfl (wl_nil (thenQ_n (?_))))))))))))
 refine cw_seq (?_)
 refine cw_region (by kernel_rfl) (wl_s (o_lit (E := Enc.u8) (xs := [.const (vB (7 : UInt8))]) Try.underlying28 s_5 z_5 (by decide) [vB (7 : UInt8)] [[vB (7 : UInt8)]] [(7 : UInt8)] rfl rfl rfl (Parts.cons rfl rfl (Parts.nil _ _ _)) (of_decide_eq_true rfl) s3945 fun v3955 w3951 s3952 m3953 k3954 hl3956 => (?_)))
 have := hl3956.len_le
 refine wl_s (o_callK (vs := [v3955, vI (4 : Int), vI (1 : Int), vI (2 : Int), Value.slice none 0 0]) enter_30 (c_split (O := [] ++ O) v3955 ([(7 : UInt8)]) (4 : Int) (1 : Int) (2 : Int) (.slice none 0 0) [] w3951 hl3956 (RdL.nil _ _ _) s3952.lt) rfl s3952 fun v3957 w3958 s3959 m3960 k3961 r3962 => (?_))
 obtain ⟨x3963, rfl, hl3964⟩ := r3962
 have := hl3964.len_le
 refine wl_s (o_move (Value.tuple #[x3963, vI ((splitM ([(7 : UInt8)]) (4 : Int) (1 : Int) (2 : Int) ([])).2)]) rfl (wl_s (o_extract (x3963) rfl rfl (wl_s (o_extract (vI ((splitM ([(7 : UInt8)]) (4 : Int) (1 : Int) (2 : Int) ([])).2)) rfl rfl (wl_s (o_assign (x3963) rfl (wl_s (o_assign (vI ((splitM ([(7 : UInt8)]) (4 : Int) (1 : Int) (2 : Int) ([])).2)) rfl (wl_nil (thenQ_n (?_))))))))))))
 refine cw_seq (?_)
 refine cw_region (by kernel_rfl) (wl_s (o_lit (E := Enc.u8) (xs := [.const (vB (5 : UInt8))]) Try.underlying28 s_5 z_5 (by decide) [vB (5 : UInt8)] [[vB (5 : UInt8)]] [(5 : UInt8)] rfl rfl rfl (Parts.cons rfl rfl (Parts.nil _ _ _)) (of_decide_eq_true rfl) s3959 fun v3969 w3965 s3966 m3967 k3968 hl3970 => (?_)))
 have hl3964 := hl3964.mv m3967
 have := hl3970.len_le
 refine wl_s (o_lit (E := Enc.u8) (xs := [.const (vB (3 : UInt8))]) Try.underlying28 s_5 z_5 (by decide) [vB (3 : UInt8)] [[vB (3 : UInt8)]] [(3 : UInt8)] rfl rfl rfl (Parts.cons rfl rfl (Parts.nil _ _ _)) (of_decide_eq_true rfl) s3966 fun v3975 w3971 s3972 m3973 k3974 hl3976 => (?_))
 have hl3964 := hl3964.mv m3973
 have hl3970 := hl3970.mv m3973
 have := hl3976.len_le
 refine wl_s (o_callK (vs := [v3969, vI (0 : Int), vI (2 : Int), vI (3 : Int), v3975]) enter_30 (c_split (O := [] ++ O) v3969 ([(5 : UInt8)]) (0 : Int) (2 : Int) (3 : Int) v3975 ([(3 : UInt8)]) w3971 hl3970 hl3976 s3972.lt) rfl s3972 fun v3977 w3978 s3979 m3980 k3981 r3982 => (?_))
 obtain ⟨x3983, rfl, hl3984⟩ := r3982
 have := hl3984.len_le
 have hl3964 := hl3964.mv m3980
 refine wl_s (o_move (Value.tuple #[x3983, vI ((splitM ([(5 : UInt8)]) (0 : Int) (2 : Int) (3 : Int) ([(3 : UInt8)])).2)]) rfl (wl_s (o_extract (x3983) rfl rfl (wl_s (o_extract (vI ((splitM ([(5 : UInt8)]) (0 : Int) (2 : Int) (3 : Int) ([(3 : UInt8)])).2)) rfl rfl (wl_s (o_assign (x3983) rfl (wl_s (o_assign (vI ((splitM ([(5 : UInt8)]) (0 : Int) (2 : Int) (3 : Int) ([(3 : UInt8)])).2)) rfl (wl_nil (thenQ_n (?_))))))))))))
 refine cw_seq (?_)
 refine cw_region (by kernel_rfl) (wl_s (o_move (x3983) rfl (wl_s (o_move (x3983) rfl (wl_s (o_lenR Try.underlying38 rfl hl3984 (wl_s (o_min .i64 (1 : Int) (((splitM ([(5 : UInt8)]) (0 : Int) (2 : Int) (3 : Int) ([(3 : UInt8)])).1).length : Int) rfl rfl (wl_s (o_sliceR Try.underlying38 s_53 ((if (((splitM ([(5 : UInt8)]) (0 : Int) (2 : Int) (3 : Int) ([(3 : UInt8)])).1).length : Int) < (1 : Int) then (((splitM ([(5 : UInt8)]) (0 : Int) (2 : Int) (3 : Int) ([(3 : UInt8)])).1).length : Int) else (1 : Int)).toNat) (((splitM ([(5 : UInt8)]) (0 : Int) (2 : Int) (3 : Int) ([(3 : UInt8)])).1).length) rfl (.inr ⟨.tmp 44, .i64, (if (((splitM ([(5 : UInt8)]) (0 : Int) (2 : Int) (3 : Int) ([(3 : UInt8)])).1).length : Int) < (1 : Int) then (((splitM ([(5 : UInt8)]) (0 : Int) (2 : Int) (3 : Int) ([(3 : UInt8)])).1).length : Int) else (1 : Int)), rfl, rfl, (by omega)⟩) (.inl ⟨rfl, rfl⟩) (by decide +kernel) (by decide +kernel) hl3984 fun v3985 hl3986 => (?_)))))))))))
 rw [List.take_length] at hl3986
 refine wl_s (o_callK (vs := [v3985]) enter_35 (c_join (O := [] ++ O) v3985 (((splitM ([(5 : UInt8)]) (0 : Int) (2 : Int) (3 : Int) ([(3 : UInt8)])).1).drop ((if (((splitM ([(5 : UInt8)]) (0 : Int) (2 : Int) (3 : Int) ([(3 : UInt8)])).1).length : Int) < (1 : Int) then (((splitM ([(5 : UInt8)]) (0 : Int) (2 : Int) (3 : Int) ([(3 : UInt8)])).1).length : Int) else (1 : Int)).toNat)) w3978 hl3986 s3979.lt) rfl s3979 fun v3987 w3988 s3989 m3990 k3991 r3992 => (?_))
 obtain ⟨x3993, rfl, hl3994⟩ := r3992
 have := hl3994.len_le
 have hl3964 := hl3964.mv m3990
 have hl3984 := hl3984.mv m3990
 refine wl_s (o_move (Value.tuple #[x3993, vI ((joinM (((splitM ([(5 : UInt8)]) (0 : Int) (2 : Int) (3 : Int) ([(3 : UInt8)])).1).drop ((if (((splitM ([(5 : UInt8)]) (0 : Int) (2 : Int) (3 : Int) ([(3 : UInt8)])).1).length : Int) < (1 : Int) then (((splitM ([(5 : UInt8)]) (0 : Int) (2 : Int) (3 : Int) ([(3 : UInt8)])).1).length : Int) else (1 : Int)).toNat))).2)]) rfl (wl_s (o_extract (x3993) rfl rfl (wl_s (o_extract (vI ((joinM (((splitM ([(5 : UInt8)]) (0 : Int) (2 : Int) (3 : Int) ([(3 : UInt8)])).1).drop ((if (((splitM ([(5 : UInt8)]) (0 : Int) (2 : Int) (3 : Int) ([(3 : UInt8)])).1).length : Int) < (1 : Int) then (((splitM ([(5 : UInt8)]) (0 : Int) (2 : Int) (3 : Int) ([(3 : UInt8)])).1).length : Int) else (1 : Int)).toNat))).2)) rfl rfl (wl_s (o_assign (x3993) rfl (wl_s (o_assign (vI ((joinM (((splitM ([(5 : UInt8)]) (0 : Int) (2 : Int) (3 : Int) ([(3 : UInt8)])).1).drop ((if (((splitM ([(5 : UInt8)]) (0 : Int) (2 : Int) (3 : Int) ([(3 : UInt8)])).1).length : Int) < (1 : Int) then (((splitM ([(5 : UInt8)]) (0 : Int) (2 : Int) (3 : Int) ([(3 : UInt8)])).1).length : Int) else (1 : Int)).toNat))).2)) rfl (wl_nil (thenQ_n (?_))))))))))))
 refine cw_seq (?_)
 refine cw_region (by kernel_rfl) (wl_s (o_move (x3983) rfl (wl_s (o_lit (E := Enc.u8) (xs := [.const (vB (1 : UInt8))]) Try.underlying28 s_5 z_5 (by decide) [vB (1 : UInt8)] [[vB (1 : UInt8)]] [(1 : UInt8)] rfl rfl rfl (Parts.cons rfl rfl (Parts.nil _ _ _)) (of_decide_eq_true rfl) s3989 fun v3999 w3995 s3996 m3997 k3998 hl4000 => (?_)))))
 have hl3964 := hl3964.mv m3997
 have hl3984 := hl3984.mv m3997
 have hl3994 := hl3994.mv m3997
 have := hl4000.len_le
 refine wl_s (o_callK (vs := [x3983, v3999]) enter_37 (c_explain (O := [] ++ O) x3983 ((splitM ([(5 : UInt8)]) (0 : Int) (2 : Int) (3 : Int) ([(3 : UInt8)])).1) v3999 ([(1 : UInt8)]) w3995 hl3984 hl4000 s3996.lt) rfl s3996 fun v4001 w4002 s4003 m4004 k4005 r4006 => (?_))
 obtain ⟨x4007, rfl, hl4008⟩ := r4006
 have := hl4008.len_le
 have hl3964 := hl3964.mv m4004
 have hl3984 := hl3984.mv m4004
 have hl3994 := hl3994.mv m4004
 refine wl_s (o_move (Value.tuple #[x4007, vI ((explainM ((splitM ([(5 : UInt8)]) (0 : Int) (2 : Int) (3 : Int) ([(3 : UInt8)])).1) ([(1 : UInt8)])).2)]) rfl (wl_s (o_extract (x4007) rfl rfl (wl_s (o_extract (vI ((explainM ((splitM ([(5 : UInt8)]) (0 : Int) (2 : Int) (3 : Int) ([(3 : UInt8)])).1) ([(1 : UInt8)])).2)) rfl rfl (wl_s (o_assign (x4007) rfl (wl_s (o_assign (vI ((explainM ((splitM ([(5 : UInt8)]) (0 : Int) (2 : Int) (3 : Int) ([(3 : UInt8)])).1) ([(1 : UInt8)])).2)) rfl (wl_nil (thenQ_n (?_))))))))))))
 refine cw_seq (?_)
 refine cw_region (by kernel_rfl) (wl_s (o_move (x3983) rfl (wl_s (o_lit (E := Enc.u8) (xs := [.const (vB (0 : UInt8))]) Try.underlying28 s_5 z_5 (by decide) [vB (0 : UInt8)] [[vB (0 : UInt8)]] [(0 : UInt8)] rfl rfl rfl (Parts.cons rfl rfl (Parts.nil _ _ _)) (of_decide_eq_true rfl) s4003 fun v4013 w4009 s4010 m4011 k4012 hl4014 => (?_)))))
 have hl3964 := hl3964.mv m4011
 have hl3984 := hl3984.mv m4011
 have hl3994 := hl3994.mv m4011
 have := hl4014.len_le
 refine wl_s (o_callK (vs := [x3983, v4013]) enter_39 (c_refresh (O := [] ++ O) x3983 ((splitM ([(5 : UInt8)]) (0 : Int) (2 : Int) (3 : Int) ([(3 : UInt8)])).1) v4013 ([(0 : UInt8)]) w4009 hl3984 hl4014 s4010.lt) rfl s4010 fun v4015 w4016 s4017 m4018 k4019 r4020 => (?_))
 obtain ⟨x4021, rfl, hl4022⟩ := r4020
 have := hl4022.len_le
 have hl3964 := hl3964.mv m4018
 have hl3984 := hl3984.mv m4018
 have hl3994 := hl3994.mv m4018
 refine wl_s (o_move (Value.tuple #[x4021, vI ((refreshM ((splitM ([(5 : UInt8)]) (0 : Int) (2 : Int) (3 : Int) ([(3 : UInt8)])).1) ([(0 : UInt8)])).2)]) rfl (wl_s (o_extract (x4021) rfl rfl (wl_s (o_extract (vI ((refreshM ((splitM ([(5 : UInt8)]) (0 : Int) (2 : Int) (3 : Int) ([(3 : UInt8)])).1) ([(0 : UInt8)])).2)) rfl rfl (wl_s (o_assign (x4021) rfl (wl_s (o_assign (vI ((refreshM ((splitM ([(5 : UInt8)]) (0 : Int) (2 : Int) (3 : Int) ([(3 : UInt8)])).1) ([(0 : UInt8)])).2)) rfl (wl_nil (thenQ_n (?_))))))))))))
 refine cw_seq (?_)
 refine cw_seq (?_)
 refine cw_region (by kernel_rfl) (wl_s (o_move (vI ((joinM ([])).2)) rfl (wl_s (o_neq .i64 ((joinM ([])).2) (80 : Int) rfl rfl (wl_s (o_move (Value.bool (((joinM ([])).2) != (80 : Int))) rfl (?_)))))))
 have hb4023 : (((joinM ([])).2) != (80 : Int)) = false := (by decide +kernel)
 rw [hb4023]
 refine wl_t rfl (o_move (vI ((splitM ([(1 : UInt8), (2 : UInt8)]) (0 : Int) (2 : Int) (3 : Int) ([(1 : UInt8)])).2)) rfl (wl_t rfl (o_neq .i64 ((splitM ([(1 : UInt8), (2 : UInt8)]) (0 : Int) (2 : Int) (3 : Int) ([(1 : UInt8)])).2) (1 : Int) rfl rfl (wl_s (o_pickF (Value.bool (((splitM ([(1 : UInt8), (2 : UInt8)]) (0 : Int) (2 : Int) (3 : Int) ([(1 : UInt8)])).2) != (1 : Int))) rfl rfl (wl_s (o_move (Value.bool (((splitM ([(1 : UInt8), (2 : UInt8)]) (0 : Int) (2 : Int) (3 : Int) ([(1 : UInt8)])).2) != (1 : Int))) rfl (?_))))))))
 have hb4024 : (((splitM ([(1 : UInt8), (2 : UInt8)]) (0 : Int) (2 : Int) (3 : Int) ([(1 : UInt8)])).2) != (1 : Int)) = false := (by decide +kernel)
 rw [hb4024]
 refine wl_t rfl (o_move (vI ((splitM ([(7 : UInt8)]) (4 : Int) (1 : Int) (2 : Int) ([])).2)) rfl (wl_t rfl (o_neq .i64 ((splitM ([(7 : UInt8)]) (4 : Int) (1 : Int) (2 : Int) ([])).2) (0 : Int) rfl rfl (wl_s (o_pickF (Value.bool (((splitM ([(7 : UInt8)]) (4 : Int) (1 : Int) (2 : Int) ([])).2) != (0 : Int))) rfl rfl (wl_s (o_move (Value.bool (((splitM ([(7 : UInt8)]) (4 : Int) (1 : Int) (2 : Int) ([])).2) != (0 : Int))) rfl (?_))))))))
 have hb4025 : (((splitM ([(7 : UInt8)]) (4 : Int) (1 : Int) (2 : Int) ([])).2) != (0 : Int)) = false := (by decide +kernel)
 rw [hb4025]
 refine wl_t rfl (o_move (vI ((splitM ([(5 : UInt8)]) (0 : Int) (2 : Int) (3 : Int) ([(3 : UInt8)])).2)) rfl (wl_t rfl (o_neq .i64 ((splitM ([(5 : UInt8)]) (0 : Int) (2 : Int) (3 : Int) ([(3 : UInt8)])).2) (0 : Int) rfl rfl (wl_s (o_pickF (Value.bool (((splitM ([(5 : UInt8)]) (0 : Int) (2 : Int) (3 : Int) ([(3 : UInt8)])).2) != (0 : Int))) rfl rfl (wl_s (o_move (Value.bool (((splitM ([(5 : UInt8)]) (0 : Int) (2 : Int) (3 : Int) ([(3 : UInt8)])).2) != (0 : Int))) rfl (?_))))))))
 have hb4026 : (((splitM ([(5 : UInt8)]) (0 : Int) (2 : Int) (3 : Int) ([(3 : UInt8)])).2) != (0 : Int)) = false := (by decide +kernel)
 rw [hb4026]
 refine wl_t rfl (o_move (vI ((joinM (((splitM ([(5 : UInt8)]) (0 : Int) (2 : Int) (3 : Int) ([(3 : UInt8)])).1).drop ((if (((splitM ([(5 : UInt8)]) (0 : Int) (2 : Int) (3 : Int) ([(3 : UInt8)])).1).length : Int) < (1 : Int) then (((splitM ([(5 : UInt8)]) (0 : Int) (2 : Int) (3 : Int) ([(3 : UInt8)])).1).length : Int) else (1 : Int)).toNat))).2)) rfl (wl_t rfl (o_neq .i64 ((joinM (((splitM ([(5 : UInt8)]) (0 : Int) (2 : Int) (3 : Int) ([(3 : UInt8)])).1).drop ((if (((splitM ([(5 : UInt8)]) (0 : Int) (2 : Int) (3 : Int) ([(3 : UInt8)])).1).length : Int) < (1 : Int) then (((splitM ([(5 : UInt8)]) (0 : Int) (2 : Int) (3 : Int) ([(3 : UInt8)])).1).length : Int) else (1 : Int)).toNat))).2) (0 : Int) rfl rfl (wl_s (o_pickF (Value.bool (((joinM (((splitM ([(5 : UInt8)]) (0 : Int) (2 : Int) (3 : Int) ([(3 : UInt8)])).1).drop ((if (((splitM ([(5 : UInt8)]) (0 : Int) (2 : Int) (3 : Int) ([(3 : UInt8)])).1).length : Int) < (1 : Int) then (((splitM ([(5 : UInt8)]) (0 : Int) (2 : Int) (3 : Int) ([(3 : UInt8)])).1).length : Int) else (1 : Int)).toNat))).2) != (0 : Int))) rfl rfl (wl_s (o_move (Value.bool (((joinM (((splitM ([(5 : UInt8)]) (0 : Int) (2 : Int) (3 : Int) ([(3 : UInt8)])).1).drop ((if (((splitM ([(5 : UInt8)]) (0 : Int) (2 : Int) (3 : Int) ([(3 : UInt8)])).1).length : Int) < (1 : Int) then (((splitM ([(5 : UInt8)]) (0 : Int) (2 : Int) (3 : Int) ([(3 : UInt8)])).1).length : Int) else (1 : Int)).toNat))).2) != (0 : Int))) rfl (?_))))))))
 have hb4027 : (((joinM (((splitM ([(5 : UInt8)]) (0 : Int) (2 : Int) (3 : Int) ([(3 : UInt8)])).1).drop ((if (((splitM ([(5 : UInt8)]) (0 : Int) (2 : Int) (3 : Int) ([(3 : UInt8)])).1).length : Int) < (1 : Int) then (((splitM ([(5 : UInt8)]) (0 : Int) (2 : Int) (3 : Int) ([(3 : UInt8)])).1).length : Int) else (1 : Int)).toNat))).2) != (0 : Int)) = false := (by decide +kernel)
 rw [hb4027]
 refine wl_t rfl (o_move (vI ((explainM ((splitM ([(5 : UInt8)]) (0 : Int) (2 : Int) (3 : Int) ([(3 : UInt8)])).1) ([(1 : UInt8)])).2)) rfl (wl_t rfl (o_neq .i64 ((explainM ((splitM ([(5 : UInt8)]) (0 : Int) (2 : Int) (3 : Int) ([(3 : UInt8)])).1) ([(1 : UInt8)])).2) (80 : Int) rfl rfl (wl_s (o_pickF (Value.bool (((explainM ((splitM ([(5 : UInt8)]) (0 : Int) (2 : Int) (3 : Int) ([(3 : UInt8)])).1) ([(1 : UInt8)])).2) != (80 : Int))) rfl rfl (wl_s (o_move (Value.bool (((explainM ((splitM ([(5 : UInt8)]) (0 : Int) (2 : Int) (3 : Int) ([(3 : UInt8)])).1) ([(1 : UInt8)])).2) != (80 : Int))) rfl (?_))))))))
 have hb4028 : (((explainM ((splitM ([(5 : UInt8)]) (0 : Int) (2 : Int) (3 : Int) ([(3 : UInt8)])).1) ([(1 : UInt8)])).2) != (80 : Int)) = false := (by decide +kernel)
 rw [hb4028]
 refine wl_t rfl (o_move (vI ((refreshM ((splitM ([(5 : UInt8)]) (0 : Int) (2 : Int) (3 : Int) ([(3 : UInt8)])).1) ([(0 : UInt8)])).2)) rfl (wl_t rfl (o_neq .i64 ((refreshM ((splitM ([(5 : UInt8)]) (0 : Int) (2 : Int) (3 : Int) ([(3 : UInt8)])).1) ([(0 : UInt8)])).2) (0 : Int) rfl rfl (wl_s (o_pickF (Value.bool (((refreshM ((splitM ([(5 : UInt8)]) (0 : Int) (2 : Int) (3 : Int) ([(3 : UInt8)])).1) ([(0 : UInt8)])).2) != (0 : Int))) rfl rfl (wl_s (o_move (Value.bool (((refreshM ((splitM ([(5 : UInt8)]) (0 : Int) (2 : Int) (3 : Int) ([(3 : UInt8)])).1) ([(0 : UInt8)])).2) != (0 : Int))) rfl (?_))))))))
 have hb4029 : (((refreshM ((splitM ([(5 : UInt8)]) (0 : Int) (2 : Int) (3 : Int) ([(3 : UInt8)])).1) ([(0 : UInt8)])).2) != (0 : Int)) = false := (by decide +kernel)
 rw [hb4029]
 refine wl_t rfl (o_move (x3963) rfl (wl_t rfl (o_lenR Try.underlying38 rfl hl3964 (wl_t rfl (o_neq .i64 (((splitM ([(7 : UInt8)]) (4 : Int) (1 : Int) (2 : Int) ([])).1).length : Int) (2 : Int) rfl rfl (wl_s (o_pickF (Value.bool ((((splitM ([(7 : UInt8)]) (4 : Int) (1 : Int) (2 : Int) ([])).1).length : Int) != (2 : Int))) rfl rfl (wl_s (o_move (Value.bool ((((splitM ([(7 : UInt8)]) (4 : Int) (1 : Int) (2 : Int) ([])).1).length : Int) != (2 : Int))) rfl (?_))))))))))
 have hb4030 : ((((splitM ([(7 : UInt8)]) (4 : Int) (1 : Int) (2 : Int) ([])).1).length : Int) != (2 : Int)) = false := (by decide +kernel)
 rw [hb4030]
 refine wl_t rfl (o_move (x3983) rfl (wl_t rfl (o_lenR Try.underlying38 rfl hl3984 (wl_t rfl (o_neq .i64 (((splitM ([(5 : UInt8)]) (0 : Int) (2 : Int) (3 : Int) ([(3 : UInt8)])).1).length : Int) (3 : Int) rfl rfl (wl_s (o_pickF (Value.bool ((((splitM ([(5 : UInt8)]) (0 : Int) (2 : Int) (3 : Int) ([(3 : UInt8)])).1).length : Int) != (3 : Int))) rfl rfl (wl_s (o_move (Value.bool ((((splitM ([(5 : UInt8)]) (0 : Int) (2 : Int) (3 : Int) ([(3 : UInt8)])).1).length : Int) != (3 : Int))) rfl (?_))))))))))
 have hb4031 : ((((splitM ([(5 : UInt8)]) (0 : Int) (2 : Int) (3 : Int) ([(3 : UInt8)])).1).length : Int) != (3 : Int)) = false := (by decide +kernel)
 rw [hb4031]
 refine wl_t rfl (o_move (x4021) rfl (wl_t rfl (o_lenR Try.underlying38 rfl hl4022 (wl_t rfl (o_neq .i64 (((refreshM ((splitM ([(5 : UInt8)]) (0 : Int) (2 : Int) (3 : Int) ([(3 : UInt8)])).1) ([(0 : UInt8)])).1).length : Int) (3 : Int) rfl rfl (wl_s (o_pickF (Value.bool ((((refreshM ((splitM ([(5 : UInt8)]) (0 : Int) (2 : Int) (3 : Int) ([(3 : UInt8)])).1) ([(0 : UInt8)])).1).length : Int) != (3 : Int))) rfl rfl (wl_nil (thenQ_n (?_))))))))))
 have hb4032 : ((((refreshM ((splitM ([(5 : UInt8)]) (0 : Int) (2 : Int) (3 : Int) ([(3 : UInt8)])).1) ([(0 : UInt8)])).1).length : Int) != (3 : Int)) = false := (by decide +kernel)
 rw [hb4032]
 refine cw_cond false rfl rfl (fun h => by cases h) (fun _ => ?_)
 refine cw_skip (thenQ_n (?_))
 refine cw_seq (?_)
 refine cw_region (by kernel_rfl) (wl_s (o_move (x3983) rfl (wl_s (o_sliceR Try.underlying38 s_53 0 1 rfl (.inl ⟨rfl, rfl⟩) (.inr ⟨.const (vI (1 : Int)), .i64, (1 : Int), rfl, rfl, rfl⟩) (by decide +kernel) (by decide +kernel) hl3984 fun v4033 hl4034 => (?_)))))
 rw [List.drop_zero] at hl4034
 refine wl_s (o_lit (E := Enc.u8) (xs := [.const (vB (9 : UInt8))]) Try.underlying28 s_5 z_5 (by decide) [vB (9 : UInt8)] [[vB (9 : UInt8)]] [(9 : UInt8)] rfl rfl rfl (Parts.cons rfl rfl (Parts.nil _ _ _)) (of_decide_eq_true rfl) s4017 fun v4039 w4035 s4036 m4037 k4038 hl4040 => (?_))
 have hl3964 := hl3964.mv m4037
 have hl3984 := hl3984.mv m4037
 have hl3994 := hl3994.mv m4037
 have hl4022 := hl4022.mv m4037
 have hl4034 := hl4034.mv m4037
 have := hl4040.len_le
 refine wl_s (o_callK (vs := [v4033, v4039]) enter_37 (c_explain (O := [] ++ O) v4033 (((splitM ([(5 : UInt8)]) (0 : Int) (2 : Int) (3 : Int) ([(3 : UInt8)])).1).take 1) v4039 ([(9 : UInt8)]) w4035 hl4034 hl4040 s4036.lt) rfl s4036 fun v4041 w4042 s4043 m4044 k4045 r4046 => (?_))
 obtain ⟨x4047, rfl, hl4048⟩ := r4046
 have := hl4048.len_le
 have hl3964 := hl3964.mv m4044
 have hl3984 := hl3984.mv m4044
 have hl3994 := hl3994.mv m4044
 have hl4022 := hl4022.mv m4044
 refine wl_s (o_move (Value.tuple #[x4047, vI ((explainM (((splitM ([(5 : UInt8)]) (0 : Int) (2 : Int) (3 : Int) ([(3 : UInt8)])).1).take 1) ([(9 : UInt8)])).2)]) rfl (wl_s (o_extract (x4047) rfl rfl (wl_s (o_extract (vI ((explainM (((splitM ([(5 : UInt8)]) (0 : Int) (2 : Int) (3 : Int) ([(3 : UInt8)])).1).take 1) ([(9 : UInt8)])).2)) rfl rfl (wl_s (o_assign (x4047) rfl (wl_s (o_assign (vI ((explainM (((splitM ([(5 : UInt8)]) (0 : Int) (2 : Int) (3 : Int) ([(3 : UInt8)])).1).take 1) ([(9 : UInt8)])).2)) rfl (wl_nil (thenQ_n (?_))))))))))))
 refine cw_seq (?_)
 refine cw_draw' 12 _ _ [fun (vT : Value) (wT : World) => RdL Enc.share wT ([] ++ O) vT ((splitM ([(5 : UInt8)]) (0 : Int) (2 : Int) (3 : Int) ([(3 : UInt8)])).1), fun (vT : Value) (wT : World) => ∃ aT, vT = .pointer (some aT) ∧ PT Enc.share wT ([] ++ O) (.pointer (some aT)) (((splitM ([(5 : UInt8)]) (0 : Int) (2 : Int) (3 : Int) ([(3 : UInt8)])).1)[0]!), fun (vT : Value) (wT : World) => ∃ csT : List Value, vT = .agg csT.toArray ∧ Enc.share.rd wT ([] ++ O) csT (((splitM ([(5 : UInt8)]) (0 : Int) (2 : Int) (3 : Int) ([(3 : UInt8)])).1)[0]!), fun (vT : Value) (wT : World) => RdL Enc.share wT ([] ++ O) vT ((refreshM ((splitM ([(5 : UInt8)]) (0 : Int) (2 : Int) (3 : Int) ([(3 : UInt8)])).1) ([(0 : UInt8)])).1), fun (vT : Value) (wT : World) => ∃ aT, vT = .pointer (some aT) ∧ PT Enc.share wT ([] ++ O) (.pointer (some aT)) (((refreshM ((splitM ([(5 : UInt8)]) (0 : Int) (2 : Int) (3 : Int) ([(3 : UInt8)])).1) ([(0 : UInt8)])).1)[1]!), fun (vT : Value) (wT : World) => ∃ csT : List Value, vT = .agg csT.toArray ∧ Enc.share.rd wT ([] ++ O) csT (((refreshM ((splitM ([(5 : UInt8)]) (0 : Int) (2 : Int) (3 : Int) ([(3 : UInt8)])).1) ([(0 : UInt8)])).1)[1]!), fun (vT : Value) (wT : World) => RdL Enc.share wT ([] ++ O) vT ([((splitM ([(5 : UInt8)]) (0 : Int) (2 : Int) (3 : Int) ([(3 : UInt8)])).1)[0]!, ((refreshM ((splitM ([(5 : UInt8)]) (0 : Int) (2 : Int) (3 : Int) ([(3 : UInt8)])).1) ([(0 : UInt8)])).1)[1]!]), fun (vT : Value) (wT : World) => ∃ (xT0 : Value), vT = .tuple #[xT0, vI ((joinM ([((splitM ([(5 : UInt8)]) (0 : Int) (2 : Int) (3 : Int) ([(3 : UInt8)])).1)[0]!, ((refreshM ((splitM ([(5 : UInt8)]) (0 : Int) (2 : Int) (3 : Int) ([(3 : UInt8)])).1) ([(0 : UInt8)])).1)[1]!])).2)] ∧ RdL Enc.u8 wT ([] ++ O) xT0 ((joinM ([((splitM ([(5 : UInt8)]) (0 : Int) (2 : Int) (3 : Int) ([(3 : UInt8)])).1)[0]!, ((refreshM ((splitM ([(5 : UInt8)]) (0 : Int) (2 : Int) (3 : Int) ([(3 : UInt8)])).1) ([(0 : UInt8)])).1)[1]!])).1), fun (vT : Value) (wT : World) => ∃ (xT0 : Value), vT = .tuple #[xT0, vI ((joinM ([((splitM ([(5 : UInt8)]) (0 : Int) (2 : Int) (3 : Int) ([(3 : UInt8)])).1)[0]!, ((refreshM ((splitM ([(5 : UInt8)]) (0 : Int) (2 : Int) (3 : Int) ([(3 : UInt8)])).1) ([(0 : UInt8)])).1)[1]!])).2)] ∧ RdL Enc.u8 wT ([] ++ O) xT0 ((joinM ([((splitM ([(5 : UInt8)]) (0 : Int) (2 : Int) (3 : Int) ([(3 : UInt8)])).1)[0]!, ((refreshM ((splitM ([(5 : UInt8)]) (0 : Int) (2 : Int) (3 : Int) ([(3 : UInt8)])).1) ([(0 : UInt8)])).1)[1]!])).1), fun (vT : Value) (wT : World) => RdL Enc.u8 wT ([] ++ O) vT ((joinM ([((splitM ([(5 : UInt8)]) (0 : Int) (2 : Int) (3 : Int) ([(3 : UInt8)])).1)[0]!, ((refreshM ((splitM ([(5 : UInt8)]) (0 : Int) (2 : Int) (3 : Int) ([(3 : UInt8)])).1) ([(0 : UInt8)])).1)[1]!])).1), isV (vI ((joinM ([((splitM ([(5 : UInt8)]) (0 : Int) (2 : Int) (3 : Int) ([(3 : UInt8)])).1)[0]!, ((refreshM ((splitM ([(5 : UInt8)]) (0 : Int) (2 : Int) (3 : Int) ([(3 : UInt8)])).1) ([(0 : UInt8)])).1)[1]!])).2)), fun (vT : Value) (wT : World) => RdL Enc.u8 wT ([] ++ O) vT ((joinM ([((splitM ([(5 : UInt8)]) (0 : Int) (2 : Int) (3 : Int) ([(3 : UInt8)])).1)[0]!, ((refreshM ((splitM ([(5 : UInt8)]) (0 : Int) (2 : Int) (3 : Int) ([(3 : UInt8)])).1) ([(0 : UInt8)])).1)[1]!])).1)] (by kernel_rfl) (by kernel_rfl) (by kernel_rfl) (by kernel_rfl) rfl rfl ⟨fun _ _ _ h k => h.mv (Mv.of_keep k), fun _ _ _ ⟨a, e, h⟩ k => ⟨a, e, h.mv (Mv.of_keep k)⟩, fun _ _ _ ⟨a, e, h⟩ k => ⟨a, e, Enc.mv _ h (Mv.of_keep k)⟩, fun _ _ _ h k => h.mv (Mv.of_keep k), fun _ _ _ ⟨a, e, h⟩ k => ⟨a, e, h.mv (Mv.of_keep k)⟩, fun _ _ _ ⟨a, e, h⟩ k => ⟨a, e, Enc.mv _ h (Mv.of_keep k)⟩, fun _ _ _ h k => h.mv (Mv.of_keep k), fun _ _ _ ⟨y0, e, h0⟩ k => ⟨y0, e, h0.mv (Mv.of_keep k)⟩, fun _ _ _ ⟨y0, e, h0⟩ k => ⟨y0, e, h0.mv (Mv.of_keep k)⟩, fun _ _ _ h k => h.mv (Mv.of_keep k), kI, fun _ _ _ h k => h.mv (Mv.of_keep k), trivial⟩ ⟨?_, ?_, ?_, ?_, ?_, ?_, ?_, ?_, ?_, ?_, ?_, ?_, trivial⟩ ?_
 ·intro F1 w1 k1 hf hd
  have k0 := (Keep.drew [] w4042).trans k1
  have m1 : Mv ([]) w4042 ([]) w1 := Mv.of_keep k0
  have hl3984 := hl3984.mv m1
  obtain ⟨F2, rfl⟩ := lit_of (F := F1) [(7, x3983)] ⟨hf 7 (by kernel_rfl), trivial⟩
  exact sp_plain rfl ((o_move (x3983) rfl (⟨(Keep.refl _ _), hl3984⟩)))
 ·intro F1 w1 k1 hf hd
  obtain ⟨v4049, e4051, hl4050⟩ : ∃ v, F1 110 = v ∧ RdL Enc.share w1 ([] ++ O) v ((splitM ([(5 : UInt8)]) (0 : Int) (2 : Int) (3 : Int) ([(3 : UInt8)])).1) := ⟨_, rfl, hd 0 110 (by kernel_rfl)⟩
  have := hl4050.len_le
  obtain ⟨F2, rfl⟩ := lit_of (F := F1) [(110, v4049)] ⟨e4051, trivial⟩
  exact sp_plain rfl ((o_idx Try.underlying38 s_53 .i64 (0 : Int) 0 rfl rfl rfl hl4050 (by decide +kernel) fun a4052 hp4053 => (⟨(Keep.refl _ _), ⟨a4052, rfl, hp4053⟩⟩)))
 ·intro F1 w1 k1 hf hd
  obtain ⟨a4054, e4056, hp4055⟩ : ∃ a, F1 111 = .pointer (some a) ∧ PT Enc.share w1 ([] ++ O) (.pointer (some a)) (((splitM ([(5 : UInt8)]) (0 : Int) (2 : Int) (3 : Int) ([(3 : UInt8)])).1)[0]!) := hd 1 111 (by kernel_rfl)
  obtain ⟨F2, rfl⟩ := lit_of (F := F1) [(111, Value.pointer (some a4054))] ⟨e4056, trivial⟩
  exact sp_plain rfl ((o_loadS Try.underlying53 rfl s_53 rfl hp4055 fun cs4057 hs4058 => (⟨(Keep.refl _ _), ⟨cs4057, rfl, hs4058⟩⟩)))
 ·intro F1 w1 k1 hf hd
  have k0 := (Keep.drew [] w4042).trans k1
  have m1 : Mv ([]) w4042 ([]) w1 := Mv.of_keep k0
  have hl4022 := hl4022.mv m1
  obtain ⟨F2, rfl⟩ := lit_of (F := F1) [(13, x4021)] ⟨hf 13 (by kernel_rfl), trivial⟩
  exact sp_plain rfl ((o_move (x4021) rfl (⟨(Keep.refl _ _), hl4022⟩)))
 ·intro F1 w1 k1 hf hd
  obtain ⟨v4059, e4061, hl4060⟩ : ∃ v, F1 113 = v ∧ RdL Enc.share w1 ([] ++ O) v ((refreshM ((splitM ([(5 : UInt8)]) (0 : Int) (2 : Int) (3 : Int) ([(3 : UInt8)])).1) ([(0 : UInt8)])).1) := ⟨_, rfl, hd 3 113 (by kernel_rfl)⟩
  have := hl4060.len_le
  obtain ⟨F2, rfl⟩ := lit_of (F := F1) [(113, v4059)] ⟨e4061, trivial⟩
  exact sp_plain rfl ((o_idx Try.underlying38 s_53 .i64 (1 : Int) 1 rfl rfl rfl hl4060 (by decide +kernel) fun a4062 hp4063 => (⟨(Keep.refl _ _), ⟨a4062, rfl, hp4063⟩⟩)))
 ·intro F1 w1 k1 hf hd
  obtain ⟨a4064, e4066, hp4065⟩ : ∃ a, F1 114 = .pointer (some a) ∧ PT Enc.share w1 ([] ++ O) (.pointer (some a)) (((refreshM ((splitM ([(5 : UInt8)]) (0 : Int) (2 : Int) (3 : Int) ([(3 : UInt8)])).1) ([(0 : UInt8)])).1)[1]!) := hd 4 114 (by kernel_rfl)
  obtain ⟨F2, rfl⟩ := lit_of (F := F1) [(114, Value.pointer (some a4064))] ⟨e4066, trivial⟩
  exact sp_plain rfl ((o_loadS Try.underlying53 rfl s_53 rfl hp4065 fun cs4067 hs4068 => (⟨(Keep.refl _ _), ⟨cs4067, rfl, hs4068⟩⟩)))
 ·intro F1 w1 k1 hf hd
  have k0 := (Keep.drew [] w4042).trans k1
  have s1 := s4043.call k0
  obtain ⟨cs4069, e4071, hs4070⟩ : ∃ cs : List Value, F1 112 = .agg cs.toArray ∧ Enc.share.rd w1 ([] ++ O) cs (((splitM ([(5 : UInt8)]) (0 : Int) (2 : Int) (3 : Int) ([(3 : UInt8)])).1)[0]!) := hd 2 112 (by kernel_rfl)
  obtain ⟨cs4072, e4074, hs4073⟩ : ∃ cs : List Value, F1 115 = .agg cs.toArray ∧ Enc.share.rd w1 ([] ++ O) cs (((refreshM ((splitM ([(5 : UInt8)]) (0 : Int) (2 : Int) (3 : Int) ([(3 : UInt8)])).1) ([(0 : UInt8)])).1)[1]!) := hd 5 115 (by kernel_rfl)
  obtain ⟨F2, rfl⟩ := lit_of (F := F1) [(112, Value.agg cs4069.toArray), (115, Value.agg cs4072.toArray)] ⟨e4071, e4074, trivial⟩
  refine sp_plain rfl ((o_lit (E := Enc.share) (xs := [.tmp 112, .tmp 115]) Try.underlying38 s_53 z_53 (by decide) [Value.agg cs4069.toArray, Value.agg cs4072.toArray] [cs4069, cs4072] [((splitM ([(5 : UInt8)]) (0 : Int) (2 : Int) (3 : Int) ([(3 : UInt8)])).1)[0]!, ((refreshM ((splitM ([(5 : UInt8)]) (0 : Int) (2 : Int) (3 : Int) ([(3 : UInt8)])).1) ([(0 : UInt8)])).1)[1]!] rfl rfl rfl (Parts.cons rfl hs4070 (Parts.cons rfl hs4073 (Parts.nil _ _ _))) (of_decide_eq_true rfl) s1 fun v4079 w4075 s4076 m4077 k4078 hl4080 => (?_)))
  have := hl4080.len_le
  exact ⟨k4078, hl4080⟩
 ·intro F1 w1 k1 hf hd
  have k0 := (Keep.drew [] w4042).trans k1
  have s1 := s4043.call k0
  obtain ⟨v4081, e4083, hl4082⟩ : ∃ v, F1 116 = v ∧ RdL Enc.share w1 ([] ++ O) v ([((splitM ([(5 : UInt8)]) (0 : Int) (2 : Int) (3 : Int) ([(3 : UInt8)])).1)[0]!, ((refreshM ((splitM ([(5 : UInt8)]) (0 : Int) (2 : Int) (3 : Int) ([(3 : UInt8)])).1) ([(0 : UInt8)])).1)[1]!]) := ⟨_, rfl, hd 6 116 (by kernel_rfl)⟩
  have := hl4082.len_le
  obtain ⟨F2, rfl⟩ := lit_of (F := F1) [(116, v4081)] ⟨e4083, trivial⟩
  refine sp_plain rfl ((o_callK (vs := [v4081]) enter_35 (c_join (O := [] ++ O) v4081 ([((splitM ([(5 : UInt8)]) (0 : Int) (2 : Int) (3 : Int) ([(3 : UInt8)])).1)[0]!, ((refreshM ((splitM ([(5 : UInt8)]) (0 : Int) (2 : Int) (3 : Int) ([(3 : UInt8)])).1) ([(0 : UInt8)])).1)[1]!]) w1 hl4082 s1.lt) rfl s1 fun v4084 w4085 s4086 m4087 k4088 r4089 => (?_)))
  obtain ⟨x4090, rfl, hl4091⟩ := r4089
  have := hl4091.len_le
  exact ⟨k4088, ⟨x4090, rfl, hl4091⟩⟩
 ·intro F1 w1 k1 hf hd
  obtain ⟨x4092, e4094, hl4093⟩ : (fun (vT : Value) (wT : World) => ∃ (xT0 : Value), vT = .tuple #[xT0, vI ((joinM ([((splitM ([(5 : UInt8)]) (0 : Int) (2 : Int) (3 : Int) ([(3 : UInt8)])).1)[0]!, ((refreshM ((splitM ([(5 : UInt8)]) (0 : Int) (2 : Int) (3 : Int) ([(3 : UInt8)])).1) ([(0 : UInt8)])).1)[1]!])).2)] ∧ RdL Enc.u8 wT ([] ++ O) xT0 ((joinM ([((splitM ([(5 : UInt8)]) (0 : Int) (2 : Int) (3 : Int) ([(3 : UInt8)])).1)[0]!, ((refreshM ((splitM ([(5 : UInt8)]) (0 : Int) (2 : Int) (3 : Int) ([(3 : UInt8)])).1) ([(0 : UInt8)])).1)[1]!])).1)) (F1 117) w1 := hd 7 117 (by kernel_rfl)
  have := hl4093.len_le
  obtain ⟨F2, rfl⟩ := lit_of (F := F1) [(117, Value.tuple #[x4092, vI ((joinM ([((splitM ([(5 : UInt8)]) (0 : Int) (2 : Int) (3 : Int) ([(3 : UInt8)])).1)[0]!, ((refreshM ((splitM ([(5 : UInt8)]) (0 : Int) (2 : Int) (3 : Int) ([(3 : UInt8)])).1) ([(0 : UInt8)])).1)[1]!])).2)])] ⟨e4094, trivial⟩
  exact sp_plain rfl ((o_move (Value.tuple #[x4092, vI ((joinM ([((splitM ([(5 : UInt8)]) (0 : Int) (2 : Int) (3 : Int) ([(3 : UInt8)])).1)[0]!, ((refreshM ((splitM ([(5 : UInt8)]) (0 : Int) (2 : Int) (3 : Int) ([(3 : UInt8)])).1) ([(0 : UInt8)])).1)[1]!])).2)]) rfl (⟨(Keep.refl _ _), ⟨x4092, rfl, hl4093⟩⟩)))
 ·intro F1 w1 k1 hf hd
  obtain ⟨x4095, e4097, hl4096⟩ : (fun (vT : Value) (wT : World) => ∃ (xT0 : Value), vT = .tuple #[xT0, vI ((joinM ([((splitM ([(5 : UInt8)]) (0 : Int) (2 : Int) (3 : Int) ([(3 : UInt8)])).1)[0]!, ((refreshM ((splitM ([(5 : UInt8)]) (0 : Int) (2 : Int) (3 : Int) ([(3 : UInt8)])).1) ([(0 : UInt8)])).1)[1]!])).2)] ∧ RdL Enc.u8 wT ([] ++ O) xT0 ((joinM ([((splitM ([(5 : UInt8)]) (0 : Int) (2 : Int) (3 : Int) ([(3 : UInt8)])).1)[0]!, ((refreshM ((splitM ([(5 : UInt8)]) (0 : Int) (2 : Int) (3 : Int) ([(3 : UInt8)])).1) ([(0 : UInt8)])).1)[1]!])).1)) (F1 109) w1 := hd 8 109 (by kernel_rfl)
  have := hl4096.len_le
  obtain ⟨F2, rfl⟩ := lit_of (F := F1) [(109, Value.tuple #[x4095, vI ((joinM ([((splitM ([(5 : UInt8)]) (0 : Int) (2 : Int) (3 : Int) ([(3 : UInt8)])).1)[0]!, ((refreshM ((splitM ([(5 : UInt8)]) (0 : Int) (2 : Int) (3 : Int) ([(3 : UInt8)])).1) ([(0 : UInt8)])).1)[1]!])).2)])] ⟨e4097, trivial⟩
  exact sp_plain rfl ((o_extract (x4095) rfl rfl (⟨(Keep.refl _ _), hl4096⟩)))
 ·intro F1 w1 k1 hf hd
  obtain ⟨x4098, e4100, hl4099⟩ : (fun (vT : Value) (wT : World) => ∃ (xT0 : Value), vT = .tuple #[xT0, vI ((joinM ([((splitM ([(5 : UInt8)]) (0 : Int) (2 : Int) (3 : Int) ([(3 : UInt8)])).1)[0]!, ((refreshM ((splitM ([(5 : UInt8)]) (0 : Int) (2 : Int) (3 : Int) ([(3 : UInt8)])).1) ([(0 : UInt8)])).1)[1]!])).2)] ∧ RdL Enc.u8 wT ([] ++ O) xT0 ((joinM ([((splitM ([(5 : UInt8)]) (0 : Int) (2 : Int) (3 : Int) ([(3 : UInt8)])).1)[0]!, ((refreshM ((splitM ([(5 : UInt8)]) (0 : Int) (2 : Int) (3 : Int) ([(3 : UInt8)])).1) ([(0 : UInt8)])).1)[1]!])).1)) (F1 109) w1 := hd 8 109 (by kernel_rfl)
  have := hl4099.len_le
  obtain ⟨F2, rfl⟩ := lit_of (F := F1) [(109, Value.tuple #[x4098, vI ((joinM ([((splitM ([(5 : UInt8)]) (0 : Int) (2 : Int) (3 : Int) ([(3 : UInt8)])).1)[0]!, ((refreshM ((splitM ([(5 : UInt8)]) (0 : Int) (2 : Int) (3 : Int) ([(3 : UInt8)])).1) ([(0 : UInt8)])).1)[1]!])).2)])] ⟨e4100, trivial⟩
  exact sp_plain rfl ((o_extract (vI ((joinM ([((splitM ([(5 : UInt8)]) (0 : Int) (2 : Int) (3 : Int) ([(3 : UInt8)])).1)[0]!, ((refreshM ((splitM ([(5 : UInt8)]) (0 : Int) (2 : Int) (3 : Int) ([(3 : UInt8)])).1) ([(0 : UInt8)])).1)[1]!])).2)) rfl rfl (⟨(Keep.refl _ _), rfl⟩)))
 ·intro F1 w1 k1 hf hd
  obtain ⟨v4101, e4103, hl4102⟩ : ∃ v, F1 118 = v ∧ RdL Enc.u8 w1 ([] ++ O) v ((joinM ([((splitM ([(5 : UInt8)]) (0 : Int) (2 : Int) (3 : Int) ([(3 : UInt8)])).1)[0]!, ((refreshM ((splitM ([(5 : UInt8)]) (0 : Int) (2 : Int) (3 : Int) ([(3 : UInt8)])).1) ([(0 : UInt8)])).1)[1]!])).1) := ⟨_, rfl, hd 9 118 (by kernel_rfl)⟩
  have := hl4102.len_le
  obtain ⟨F2, rfl⟩ := lit_of (F := F1) [(118, v4101)] ⟨e4103, trivial⟩
  exact sp_plain rfl ((o_assign (v4101) rfl (⟨(Keep.refl _ _), hl4102⟩)))
 intro F4105 w4106 k4104 hT4107 hF4108
 have s4109 := s4043.call k4104
 have m4110 : Mv ([]) w4042 ([]) w4106 := Mv.of_keep k4104
 have hl3964 := hl3964.mv m4110
 have hl3984 := hl3984.mv m4110
 have hl3994 := hl3994.mv m4110
 have hl4022 := hl4022.mv m4110
 have hl4048 := hl4048.mv m4110
 obtain ⟨F2, rfl⟩ := lit_of (F := F4105) [(5, x3963), (7, x3983), (9, x3993), (13, x4021), (15, x4047), (16, vI ((explainM (((splitM ([(5 : UInt8)]) (0 : Int) (2 : Int) (3 : Int) ([(3 : UInt8)])).1).take 1) ([(9 : UInt8)])).2)), (197, undef), (119, vI ((joinM ([((splitM ([(5 : UInt8)]) (0 : Int) (2 : Int) (3 : Int) ([(3 : UInt8)])).1)[0]!, ((refreshM ((splitM ([(5 : UInt8)]) (0 : Int) (2 : Int) (3 : Int) ([(3 : UInt8)])).1) ([(0 : UInt8)])).1)[1]!])).2))] ⟨hF4108 5 (by kernel_rfl), hF4108 7 (by kernel_rfl), hF4108 9 (by kernel_rfl), hF4108 13 (by kernel_rfl), hF4108 15 (by kernel_rfl), hF4108 16 (by kernel_rfl), hF4108 197 (by kernel_rfl), hT4107 10 119 (by kernel_rfl) (by decide), trivial⟩
 clear hT4107 hF4108
 refine wl_s (o_assign (vI ((joinM ([((splitM ([(5 : UInt8)]) (0 : Int) (2 : Int) (3 : Int) ([(3 : UInt8)])).1)[0]!, ((refreshM ((splitM ([(5 : UInt8)]) (0 : Int) (2 : Int) (3 : Int) ([(3 : UInt8)])).1) ([(0 : UInt8)])).1)[1]!])).2)) rfl (wl_nil (thenQ_n (?_))))
 refine cw_seq (?_)
 refine cw_region (by kernel_rfl) (wl_s (o_move (x3963) rfl (wl_s (o_idx Try.underlying38 s_53 .i64 (1 : Int) 1 rfl rfl rfl hl3964 (by decide +kernel) fun a4112 hp4113 => (wl_s (o_fieldR 4 f_53_4 ((((splitM ([(7 : UInt8)]) (4 : Int) (1 : Int) (2 : Int) ([])).1)[1]!).data) rfl hp4113 (fun _ _ _ h => Enc_share_f4 h) fun a4114 hp4115 => (wl_s (o_loadL Try.underlying28 rfl rfl hp4115 fun v4116 hl4117 => (?_)))))))))
 have := hl4117.len_le
 refine wl_s (o_bytes Try.underlying28 Try.underlying5 Try.underlying9 rfl hl4117 (wl_s (o_eqlS ((((splitM ([(7 : UInt8)]) (4 : Int) (1 : Int) (2 : Int) ([])).1)[1]!).data) ([7] : List UInt8) rfl rfl (wl_s (o_move (Value.bool (((((splitM ([(7 : UInt8)]) (4 : Int) (1 : Int) (2 : Int) ([])).1)[1]!).data) == ([7] : List UInt8))) rfl (?_))))))
 have hb4118 : (((((splitM ([(7 : UInt8)]) (4 : Int) (1 : Int) (2 : Int) ([])).1)[1]!).data) == ([7] : List UInt8)) = true := (by decide +kernel)
 rw [hb4118]
 refine wl_t rfl (o_move (x3963) rfl (wl_t rfl (o_idx Try.underlying38 s_53 .i64 (1 : Int) 1 rfl rfl rfl hl3964 (by decide +kernel) fun a4119 hp4120 => (wl_t rfl (o_fieldR 1 f_53_1 ((((splitM ([(7 : UInt8)]) (4 : Int) (1 : Int) (2 : Int) ([])).1)[1]!).index) rfl hp4120 (fun _ _ _ h => Enc_share_f1 h) fun a4121 hp4122 => (wl_t rfl (o_loadI Try.underlying3 rfl rfl hp4122 (wl_t rfl (o_eql .i64 ((((splitM ([(7 : UInt8)]) (4 : Int) (1 : Int) (2 : Int) ([])).1)[1]!).index) (2 : Int) rfl rfl (wl_s (o_pickT (Value.bool (((((splitM ([(7 : UInt8)]) (4 : Int) (1 : Int) (2 : Int) ([])).1)[1]!).index) == (2 : Int))) rfl rfl (wl_s (o_move (Value.bool (((((splitM ([(7 : UInt8)]) (4 : Int) (1 : Int) (2 : Int) ([])).1)[1]!).index) == (2 : Int))) rfl (?_))))))))))))))
 have hb4123 : (((((splitM ([(7 : UInt8)]) (4 : Int) (1 : Int) (2 : Int) ([])).1)[1]!).index) == (2 : Int)) = true := (by decide +kernel)
 rw [hb4123]
 refine wl_t rfl (o_move (x3963) rfl (wl_t rfl (o_idx Try.underlying38 s_53 .i64 (1 : Int) 1 rfl rfl rfl hl3964 (by decide +kernel) fun a4124 hp4125 => (wl_t rfl (o_fieldR 0 f_53_0 ((((splitM ([(7 : UInt8)]) (4 : Int) (1 : Int) (2 : Int) ([])).1)[1]!).epoch) rfl hp4125 (fun _ _ _ h => Enc_share_f0 h) fun a4126 hp4127 => (wl_t rfl (o_loadI Try.underlying3 rfl rfl hp4127 (wl_t rfl (o_eql .i64 ((((splitM ([(7 : UInt8)]) (4 : Int) (1 : Int) (2 : Int) ([])).1)[1]!).epoch) (4 : Int) rfl rfl (wl_s (o_pickT (Value.bool (((((splitM ([(7 : UInt8)]) (4 : Int) (1 : Int) (2 : Int) ([])).1)[1]!).epoch) == (4 : Int))) rfl rfl (wl_s (o_move (Value.bool (((((splitM ([(7 : UInt8)]) (4 : Int) (1 : Int) (2 : Int) ([])).1)[1]!).epoch) == (4 : Int))) rfl (?_))))))))))))))
 have hb4128 : (((((splitM ([(7 : UInt8)]) (4 : Int) (1 : Int) (2 : Int) ([])).1)[1]!).epoch) == (4 : Int)) = true := (by decide +kernel)
 rw [hb4128]
 refine wl_t rfl (o_move (x3983) rfl (wl_t rfl (o_idx Try.underlying38 s_53 .i64 (0 : Int) 0 rfl rfl rfl hl3984 (by decide +kernel) fun a4129 hp4130 => (wl_t rfl (o_fieldR 4 f_53_4 ((((splitM ([(5 : UInt8)]) (0 : Int) (2 : Int) (3 : Int) ([(3 : UInt8)])).1)[0]!).data) rfl hp4130 (fun _ _ _ h => Enc_share_f4 h) fun a4131 hp4132 => (wl_t rfl (o_loadL Try.underlying28 rfl rfl hp4132 fun v4133 hl4134 => (?_))))))))
 have := hl4134.len_le
 refine wl_t rfl (o_bytes Try.underlying28 Try.underlying5 Try.underlying9 rfl hl4134 (wl_t rfl (o_eqlS ((((splitM ([(5 : UInt8)]) (0 : Int) (2 : Int) (3 : Int) ([(3 : UInt8)])).1)[0]!).data) ([6] : List UInt8) rfl rfl (wl_s (o_pickT (Value.bool (((((splitM ([(5 : UInt8)]) (0 : Int) (2 : Int) (3 : Int) ([(3 : UInt8)])).1)[0]!).data) == ([6] : List UInt8))) rfl rfl (wl_s (o_move (Value.bool (((((splitM ([(5 : UInt8)]) (0 : Int) (2 : Int) (3 : Int) ([(3 : UInt8)])).1)[0]!).data) == ([6] : List UInt8))) rfl (?_))))))))
 have hb4135 : (((((splitM ([(5 : UInt8)]) (0 : Int) (2 : Int) (3 : Int) ([(3 : UInt8)])).1)[0]!).data) == ([6] : List UInt8)) = true := (by decide +kernel)
 rw [hb4135]
 refine wl_t rfl (o_move (x3983) rfl (wl_t rfl (o_idx Try.underlying38 s_53 .i64 (1 : Int) 1 rfl rfl rfl hl3984 (by decide +kernel) fun a4136 hp4137 => (wl_t rfl (o_fieldR 4 f_53_4 ((((splitM ([(5 : UInt8)]) (0 : Int) (2 : Int) (3 : Int) ([(3 : UInt8)])).1)[1]!).data) rfl hp4137 (fun _ _ _ h => Enc_share_f4 h) fun a4138 hp4139 => (wl_t rfl (o_loadL Try.underlying28 rfl rfl hp4139 fun v4140 hl4141 => (?_))))))))
 have := hl4141.len_le
 refine wl_t rfl (o_bytes Try.underlying28 Try.underlying5 Try.underlying9 rfl hl4141 (wl_t rfl (o_eqlS ((((splitM ([(5 : UInt8)]) (0 : Int) (2 : Int) (3 : Int) ([(3 : UInt8)])).1)[1]!).data) ([3] : List UInt8) rfl rfl (wl_s (o_pickT (Value.bool (((((splitM ([(5 : UInt8)]) (0 : Int) (2 : Int) (3 : Int) ([(3 : UInt8)])).1)[1]!).data) == ([3] : List UInt8))) rfl rfl (wl_s (o_move (Value.bool (((((splitM ([(5 : UInt8)]) (0 : Int) (2 : Int) (3 : Int) ([(3 : UInt8)])).1)[1]!).data) == ([3] : List UInt8))) rfl (?_))))))))
 have hb4142 : (((((splitM ([(5 : UInt8)]) (0 : Int) (2 : Int) (3 : Int) ([(3 : UInt8)])).1)[1]!).data) == ([3] : List UInt8)) = true := (by decide +kernel)
 rw [hb4142]
 refine wl_t rfl (o_move (x3983) rfl (wl_t rfl (o_idx Try.underlying38 s_53 .i64 (2 : Int) 2 rfl rfl rfl hl3984 (by decide +kernel) fun a4143 hp4144 => (wl_t rfl (o_fieldR 4 f_53_4 ((((splitM ([(5 : UInt8)]) (0 : Int) (2 : Int) (3 : Int) ([(3 : UInt8)])).1)[2]!).data) rfl hp4144 (fun _ _ _ h => Enc_share_f4 h) fun a4145 hp4146 => (wl_t rfl (o_loadL Try.underlying28 rfl rfl hp4146 fun v4147 hl4148 => (?_))))))))
 have := hl4148.len_le
 refine wl_t rfl (o_bytes Try.underlying28 Try.underlying5 Try.underlying9 rfl hl4148 (wl_t rfl (o_eqlS ((((splitM ([(5 : UInt8)]) (0 : Int) (2 : Int) (3 : Int) ([(3 : UInt8)])).1)[2]!).data) ([0] : List UInt8) rfl rfl (wl_s (o_pickT (Value.bool (((((splitM ([(5 : UInt8)]) (0 : Int) (2 : Int) (3 : Int) ([(3 : UInt8)])).1)[2]!).data) == ([0] : List UInt8))) rfl rfl (wl_s (o_move (Value.bool (((((splitM ([(5 : UInt8)]) (0 : Int) (2 : Int) (3 : Int) ([(3 : UInt8)])).1)[2]!).data) == ([0] : List UInt8))) rfl (?_))))))))
 have hb4149 : (((((splitM ([(5 : UInt8)]) (0 : Int) (2 : Int) (3 : Int) ([(3 : UInt8)])).1)[2]!).data) == ([0] : List UInt8)) = true := (by decide +kernel)
 rw [hb4149]
 refine wl_t rfl (o_move (x3993) rfl (wl_t rfl (o_bytes Try.underlying28 Try.underlying5 Try.underlying9 rfl hl3994 (wl_t rfl (o_eqlS ((joinM (((splitM ([(5 : UInt8)]) (0 : Int) (2 : Int) (3 : Int) ([(3 : UInt8)])).1).drop ((if (((splitM ([(5 : UInt8)]) (0 : Int) (2 : Int) (3 : Int) ([(3 : UInt8)])).1).length : Int) < (1 : Int) then (((splitM ([(5 : UInt8)]) (0 : Int) (2 : Int) (3 : Int) ([(3 : UInt8)])).1).length : Int) else (1 : Int)).toNat))).1) ([5] : List UInt8) rfl rfl (wl_s (o_pickT (Value.bool (((joinM (((splitM ([(5 : UInt8)]) (0 : Int) (2 : Int) (3 : Int) ([(3 : UInt8)])).1).drop ((if (((splitM ([(5 : UInt8)]) (0 : Int) (2 : Int) (3 : Int) ([(3 : UInt8)])).1).length : Int) < (1 : Int) then (((splitM ([(5 : UInt8)]) (0 : Int) (2 : Int) (3 : Int) ([(3 : UInt8)])).1).length : Int) else (1 : Int)).toNat))).1) == ([5] : List UInt8))) rfl rfl (wl_s (o_move (Value.bool (((joinM (((splitM ([(5 : UInt8)]) (0 : Int) (2 : Int) (3 : Int) ([(3 : UInt8)])).1).drop ((if (((splitM ([(5 : UInt8)]) (0 : Int) (2 : Int) (3 : Int) ([(3 : UInt8)])).1).length : Int) < (1 : Int) then (((splitM ([(5 : UInt8)]) (0 : Int) (2 : Int) (3 : Int) ([(3 : UInt8)])).1).length : Int) else (1 : Int)).toNat))).1) == ([5] : List UInt8))) rfl (?_))))))))))
 have hb4150 : (((joinM (((splitM ([(5 : UInt8)]) (0 : Int) (2 : Int) (3 : Int) ([(3 : UInt8)])).1).drop ((if (((splitM ([(5 : UInt8)]) (0 : Int) (2 : Int) (3 : Int) ([(3 : UInt8)])).1).length : Int) < (1 : Int) then (((splitM ([(5 : UInt8)]) (0 : Int) (2 : Int) (3 : Int) ([(3 : UInt8)])).1).length : Int) else (1 : Int)).toNat))).1) == ([5] : List UInt8)) = true := (by decide +kernel)
 rw [hb4150]
 refine wl_t rfl (o_move (vI ((explainM (((splitM ([(5 : UInt8)]) (0 : Int) (2 : Int) (3 : Int) ([(3 : UInt8)])).1).take 1) ([(9 : UInt8)])).2)) rfl (wl_t rfl (o_eql .i64 ((explainM (((splitM ([(5 : UInt8)]) (0 : Int) (2 : Int) (3 : Int) ([(3 : UInt8)])).1).take 1) ([(9 : UInt8)])).2) (0 : Int) rfl rfl (wl_s (o_pickT (Value.bool (((explainM (((splitM ([(5 : UInt8)]) (0 : Int) (2 : Int) (3 : Int) ([(3 : UInt8)])).1).take 1) ([(9 : UInt8)])).2) == (0 : Int))) rfl rfl (wl_s (o_move (Value.bool (((explainM (((splitM ([(5 : UInt8)]) (0 : Int) (2 : Int) (3 : Int) ([(3 : UInt8)])).1).take 1) ([(9 : UInt8)])).2) == (0 : Int))) rfl (?_))))))))
 have hb4151 : (((explainM (((splitM ([(5 : UInt8)]) (0 : Int) (2 : Int) (3 : Int) ([(3 : UInt8)])).1).take 1) ([(9 : UInt8)])).2) == (0 : Int)) = true := (by decide +kernel)
 rw [hb4151]
 refine wl_t rfl (o_move (x4047) rfl (wl_t rfl (o_bytes Try.underlying28 Try.underlying5 Try.underlying9 rfl hl4048 (wl_t rfl (o_eqlS ((explainM (((splitM ([(5 : UInt8)]) (0 : Int) (2 : Int) (3 : Int) ([(3 : UInt8)])).1).take 1) ([(9 : UInt8)])).1) ([15] : List UInt8) rfl rfl (wl_s (o_pickT (Value.bool (((explainM (((splitM ([(5 : UInt8)]) (0 : Int) (2 : Int) (3 : Int) ([(3 : UInt8)])).1).take 1) ([(9 : UInt8)])).1) == ([15] : List UInt8))) rfl rfl (wl_s (o_move (Value.bool (((explainM (((splitM ([(5 : UInt8)]) (0 : Int) (2 : Int) (3 : Int) ([(3 : UInt8)])).1).take 1) ([(9 : UInt8)])).1) == ([15] : List UInt8))) rfl (?_))))))))))
 have hb4152 : (((explainM (((splitM ([(5 : UInt8)]) (0 : Int) (2 : Int) (3 : Int) ([(3 : UInt8)])).1).take 1) ([(9 : UInt8)])).1) == ([15] : List UInt8)) = true := (by decide +kernel)
 rw [hb4152]
 refine wl_t rfl (o_move (vI ((joinM ([((splitM ([(5 : UInt8)]) (0 : Int) (2 : Int) (3 : Int) ([(3 : UInt8)])).1)[0]!, ((refreshM ((splitM ([(5 : UInt8)]) (0 : Int) (2 : Int) (3 : Int) ([(3 : UInt8)])).1) ([(0 : UInt8)])).1)[1]!])).2)) rfl (wl_t rfl (o_eql .i64 ((joinM ([((splitM ([(5 : UInt8)]) (0 : Int) (2 : Int) (3 : Int) ([(3 : UInt8)])).1)[0]!, ((refreshM ((splitM ([(5 : UInt8)]) (0 : Int) (2 : Int) (3 : Int) ([(3 : UInt8)])).1) ([(0 : UInt8)])).1)[1]!])).2) (81 : Int) rfl rfl (wl_s (o_pickT (Value.bool (((joinM ([((splitM ([(5 : UInt8)]) (0 : Int) (2 : Int) (3 : Int) ([(3 : UInt8)])).1)[0]!, ((refreshM ((splitM ([(5 : UInt8)]) (0 : Int) (2 : Int) (3 : Int) ([(3 : UInt8)])).1) ([(0 : UInt8)])).1)[1]!])).2) == (81 : Int))) rfl rfl (wl_s (o_move (Value.bool (((joinM ([((splitM ([(5 : UInt8)]) (0 : Int) (2 : Int) (3 : Int) ([(3 : UInt8)])).1)[0]!, ((refreshM ((splitM ([(5 : UInt8)]) (0 : Int) (2 : Int) (3 : Int) ([(3 : UInt8)])).1) ([(0 : UInt8)])).1)[1]!])).2) == (81 : Int))) rfl (?_))))))))
 have hb4153 : (((joinM ([((splitM ([(5 : UInt8)]) (0 : Int) (2 : Int) (3 : Int) ([(3 : UInt8)])).1)[0]!, ((refreshM ((splitM ([(5 : UInt8)]) (0 : Int) (2 : Int) (3 : Int) ([(3 : UInt8)])).1) ([(0 : UInt8)])).1)[1]!])).2) == (81 : Int)) = true := (by decide +kernel)
 rw [hb4153]
 refine wl_t rfl (o_move (x4021) rfl (wl_t rfl (o_idx Try.underlying38 s_53 .i64 (2 : Int) 2 rfl rfl rfl hl4022 (by decide +kernel) fun a4154 hp4155 => (wl_t rfl (o_fieldR 0 f_53_0 ((((refreshM ((splitM ([(5 : UInt8)]) (0 : Int) (2 : Int) (3 : Int) ([(3 : UInt8)])).1) ([(0 : UInt8)])).1)[2]!).epoch) rfl hp4155 (fun _ _ _ h => Enc_share_f0 h) fun a4156 hp4157 => (wl_t rfl (o_loadI Try.underlying3 rfl rfl hp4157 (wl_t rfl (o_eql .i64 ((((refreshM ((splitM ([(5 : UInt8)]) (0 : Int) (2 : Int) (3 : Int) ([(3 : UInt8)])).1) ([(0 : UInt8)])).1)[2]!).epoch) (1 : Int) rfl rfl (wl_s (o_pickT (Value.bool (((((refreshM ((splitM ([(5 : UInt8)]) (0 : Int) (2 : Int) (3 : Int) ([(3 : UInt8)])).1) ([(0 : UInt8)])).1)[2]!).epoch) == (1 : Int))) rfl rfl (wl_s (o_move (Value.bool (((((refreshM ((splitM ([(5 : UInt8)]) (0 : Int) (2 : Int) (3 : Int) ([(3 : UInt8)])).1) ([(0 : UInt8)])).1)[2]!).epoch) == (1 : Int))) rfl (?_))))))))))))))
 have hb4158 : (((((refreshM ((splitM ([(5 : UInt8)]) (0 : Int) (2 : Int) (3 : Int) ([(3 : UInt8)])).1) ([(0 : UInt8)])).1)[2]!).epoch) == (1 : Int)) = true := (by decide +kernel)
 rw [hb4158]
 refine wl_t rfl (o_move (x4021) rfl (wl_t rfl (o_idx Try.underlying38 s_53 .i64 (2 : Int) 2 rfl rfl rfl hl4022 (by decide +kernel) fun a4159 hp4160 => (wl_t rfl (o_fieldR 4 f_53_4 ((((refreshM ((splitM ([(5 : UInt8)]) (0 : Int) (2 : Int) (3 : Int) ([(3 : UInt8)])).1) ([(0 : UInt8)])).1)[2]!).data) rfl hp4160 (fun _ _ _ h => Enc_share_f4 h) fun a4161 hp4162 => (wl_t rfl (o_loadL Try.underlying28 rfl rfl hp4162 fun v4163 hl4164 => (?_))))))))
 have := hl4164.len_le
 refine wl_t rfl (o_bytes Try.underlying28 Try.underlying5 Try.underlying9 rfl hl4164 (wl_t rfl (o_eqlS ((((refreshM ((splitM ([(5 : UInt8)]) (0 : Int) (2 : Int) (3 : Int) ([(3 : UInt8)])).1) ([(0 : UInt8)])).1)[2]!).data) ([0] : List UInt8) rfl rfl (wl_s (o_pickT (Value.bool (((((refreshM ((splitM ([(5 : UInt8)]) (0 : Int) (2 : Int) (3 : Int) ([(3 : UInt8)])).1) ([(0 : UInt8)])).1)[2]!).data) == ([0] : List UInt8))) rfl rfl (wl_s (o_assign (Value.bool (((((refreshM ((splitM ([(5 : UInt8)]) (0 : Int) (2 : Int) (3 : Int) ([(3 : UInt8)])).1) ([(0 : UInt8)])).1)[2]!).data) == ([0] : List UInt8))) rfl (wl_nil (thenQ_n (?_))))))))))
 refine cw_ret (end_r rfl (res1 rfl rfl rfl) (?_))
 have e : true = (((((refreshM ((splitM ([(5 : UInt8)]) (0 : Int) (2 : Int) (3 : Int) ([(3 : UInt8)])).1) ([(0 : UInt8)])).1)[2]!).data) == ([0] : List UInt8)) := by decide +kernel
 exact ⟨_, rfl, s4109.keep, by rw [e]; exact rfl⟩

end Go.Proofs.Yteajcgfcnbdmgaa
