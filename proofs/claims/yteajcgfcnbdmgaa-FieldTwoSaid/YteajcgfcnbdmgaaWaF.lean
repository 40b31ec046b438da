/- Walks, printed by gen.py. -/
import Derived.Test.YteajcgfcnbdmgaaWaE
import Derived.Test.YteajcgfcnbdmgaaMaB
namespace Go.Proofs.Yteajcgfcnbdmgaa
open Go.Fw Go.RowKit

set_option maxHeartbeats 4000000 in
set_option maxRecDepth 100000 in
theorem c_FieldMulSpec {O : List Nat} (a : UInt8) (b : UInt8) (w : World) (hO : ∀ b ∈ O, b < w.heap.size) : CallsK Try.prog 3 [vB a, vB b] w (fun v _ => v = .bool (true)) :=  by
  have s0 : St w O w [] := St.start hO
  refine callsK_of 38 Try.func3 rfl rfl (of_decide_eq_true rfl) (fun F0 => ?_)
  refine cw_seq (?_)
  refine cw_region (by kernel_rfl) (wl_s (o_assign (.bool false) rfl (wl_nil (thenQ_n (?_)))))
  refine cw_seq (?_)
  refine cw_seq (?_)
  refine cw_region (by kernel_rfl) (wl_s (o_callK (vs := []) enter_17 (c_sane7 (O := [] ++ O) w s0.lt) rfl s0 fun v1001 w1002 s1003 m1004 k1005 r1006 => (?_)))
  obtain rfl := r1006
  refine wl_s (o_not true rfl (wl_nil (thenQ_n (?_))))
  refine cw_cond false rfl rfl (fun h => by cases h) (fun _ => ?_)
  refine cw_skip (thenQ_n (?_))
  refine cw_seq (?_)
  refine cw_region (by kernel_rfl) (wl_s (o_move (vB a) rfl (wl_s (o_callK (vs := [vB a]) enter_18 (c_inv (O := [] ++ O) a w1002 s1003.lt) rfl s1003 fun v1007 w1008 s1009 m1010 k1011 r1012 => (?_)))))
  obtain rfl := r1012
  refine wl_s (o_move (.tuple #[vB ((inv a).1), vI ((inv a).2)]) rfl (wl_s (o_extract (vB ((inv a).1)) rfl rfl (wl_s (o_extract (vI ((inv a).2)) rfl rfl (wl_s (o_assign (vB ((inv a).1)) rfl (wl_s (o_assign (vI ((inv a).2)) rfl (wl_nil (thenQ_n (?_))))))))))))
  refine cw_seq (?_)
  refine cw_region (by kernel_rfl) (wl_s (o_move (vB a) rfl (wl_s (o_callK (vs := [vB a]) enter_19 (c_refInv (O := [] ++ O) a w1008 s1009.lt) rfl s1009 fun v1013 w1014 s1015 m1016 k1017 r1018 => (?_)))))
  obtain rfl := r1018
  refine wl_s (o_move (.tuple #[vB ((refInv a).1), vI ((refInv a).2)]) rfl (wl_s (o_extract (vB ((refInv a).1)) rfl rfl (wl_s (o_extract (vI ((refInv a).2)) rfl rfl (wl_s (o_assign (vB ((refInv a).1)) rfl (wl_s (o_assign (vI ((refInv a).2)) rfl (wl_nil (thenQ_n (?_))))))))))))
  refine cw_seq (?_)
  refine cw_region (by kernel_rfl) (wl_s (o_move (vB a) rfl (wl_s (o_move (vB b) rfl (wl_s (o_callK (vs := [vB a, vB b]) enter_20 (c_mul (O := [] ++ O) a b w1014 s1015.lt) rfl s1015 fun v1019 w1020 s1021 m1022 k1023 r1024 => (?_)))))))
  obtain rfl := r1024
  refine wl_s (o_move (vB a) rfl (wl_s (o_move (vB b) rfl (wl_s (o_callK (vs := [vB a, vB b]) enter_21 (c_refMul (O := [] ++ O) a b w1020 s1021.lt) rfl s1021 fun v1025 w1026 s1027 m1028 k1029 r1030 => (?_))))))
  obtain rfl := r1030
  refine wl_s (o_eql8 (gmul a b) (refMul a b) rfl rfl (wl_s (o_move (.bool ((gmul a b) == (refMul a b))) rfl (?_))))
  have hb1031 : ((gmul a b) == (refMul a b)) = true := (by rw [refMul_eq]; exact beq_self_eq_true _)
  rw [hb1031]
  refine wl_t rfl (o_move (vB ((inv a).1)) rfl (wl_t rfl (o_move (vB ((refInv a).1)) rfl (wl_t rfl (o_eql8 ((inv a).1) ((refInv a).1) rfl rfl (wl_s (o_pickT (.bool (((inv a).1) == ((refInv a).1))) rfl rfl (wl_s (o_move (.bool (((inv a).1) == ((refInv a).1))) rfl (?_))))))))))
  have hb1032 : (((inv a).1) == ((refInv a).1)) = true := (by rw [refInv_eq]; exact beq_self_eq_true _)
  rw [hb1032]
  refine wl_t rfl (o_move (vI ((inv a).2)) rfl (wl_t rfl (o_move (vI ((refInv a).2)) rfl (wl_t rfl (o_eql .i64 ((inv a).2) ((refInv a).2) rfl rfl (wl_s (o_pickT (.bool (((inv a).2) == ((refInv a).2))) rfl rfl (wl_s (o_assign (.bool (((inv a).2) == ((refInv a).2))) rfl (wl_nil (thenQ_n (?_))))))))))))
  refine cw_ret (end_r rfl (res1 rfl rfl rfl) (?_))
  have e : true = (((inv a).2) == ((refInv a).2)) := by rw [refInv_eq]; simp
  exact ⟨_, rfl, s1027.keep, by rw [e]; exact rfl⟩
set_option maxHeartbeats 4000000 in
set_option maxRecDepth 100000 in
theorem c_FieldAxioms {O : List Nat} (a : UInt8) (b : UInt8) (c : UInt8) (w : World) (hO : ∀ b ∈ O, b < w.heap.size) : CallsK Try.prog 5 [vB a, vB b, vB c] w (fun v _ => v = .bool (true)) :=  by
  have s0 : St w O w [] := St.start hO
  refine callsK_of 100 Try.func5 rfl rfl (of_decide_eq_true rfl) (fun F0 => ?_)
  refine cw_seq (?_)
  refine cw_region (by kernel_rfl) (wl_s (o_assign (.bool false) rfl (wl_nil (thenQ_n (?_)))))
  refine cw_seq (?_)
  refine cw_seq (?_)
  refine cw_region (by kernel_rfl) (wl_s (o_callK (vs := []) enter_17 (c_sane7 (O := [] ++ O) w s0.lt) rfl s0 fun v1033 w1034 s1035 m1036 k1037 r1038 => (?_)))
  obtain rfl := r1038
  refine wl_s (o_not true rfl (wl_nil (thenQ_n (?_))))
  refine cw_cond false rfl rfl (fun h => by cases h) (fun _ => ?_)
  refine cw_skip (thenQ_n (?_))
  refine cw_seq (?_)
  refine cw_region (by kernel_rfl) (wl_s (o_move (vB a) rfl (wl_s (o_callK (vs := [vB a]) enter_18 (c_inv (O := [] ++ O) a w1034 s1035.lt) rfl s1035 fun v1039 w1040 s1041 m1042 k1043 r1044 => (?_)))))
  obtain rfl := r1044
  refine wl_s (o_move (.tuple #[vB ((inv a).1), vI ((inv a).2)]) rfl (wl_s (o_extract (vB ((inv a).1)) rfl rfl (wl_s (o_extract (vI ((inv a).2)) rfl rfl (wl_s (o_assign (vB ((inv a).1)) rfl (wl_s (o_assign (vI ((inv a).2)) rfl (wl_nil (thenQ_n (?_))))))))))))
  refine cw_seq (?_)
  refine cw_seq (?_)
  refine cw_region (by kernel_rfl) (wl_s (o_move (vB a) rfl (wl_s (o_move (vB b) rfl (wl_s (o_callK (vs := [vB a, vB b]) enter_20 (c_mul (O := [] ++ O) a b w1040 s1041.lt) rfl s1041 fun v1045 w1046 s1047 m1048 k1049 r1050 => (?_)))))))
  obtain rfl := r1050
  refine wl_s (o_move (vB b) rfl (wl_s (o_move (vB a) rfl (wl_s (o_callK (vs := [vB b, vB a]) enter_20 (c_mul (O := [] ++ O) b a w1046 s1047.lt) rfl s1047 fun v1051 w1052 s1053 m1054 k1055 r1056 => (?_))))))
  obtain rfl := r1056
  refine wl_s (o_neq8 (gmul a b) (gmul b a) rfl rfl (wl_s (o_move (.bool ((gmul a b) != (gmul b a))) rfl (?_))))
  have hb1057 : ((gmul a b) != (gmul b a)) = false := (by rw [gmul_comm a b]; simp)
  rw [hb1057]
  refine wl_t rfl (o_move (vB a) rfl (wl_t rfl (o_move (vB b) rfl (wl_t rfl (o_move (vB c) rfl (wl_t rfl (o_callK (vs := [vB b, vB c]) enter_20 (c_mul (O := [] ++ O) b c w1052 s1053.lt) rfl s1053 fun v1058 w1059 s1060 m1061 k1062 r1063 => (?_))))))))
  obtain rfl := r1063
  refine wl_t rfl (o_callK (vs := [vB a, vB (gmul b c)]) enter_20 (c_mul (O := [] ++ O) a (gmul b c) w1059 s1060.lt) rfl s1060 fun v1064 w1065 s1066 m1067 k1068 r1069 => (?_))
  obtain rfl := r1069
  refine wl_t rfl (o_move (vB a) rfl (wl_t rfl (o_move (vB b) rfl (wl_t rfl (o_callK (vs := [vB a, vB b]) enter_20 (c_mul (O := [] ++ O) a b w1065 s1066.lt) rfl s1066 fun v1070 w1071 s1072 m1073 k1074 r1075 => (?_))))))
  obtain rfl := r1075
  refine wl_t rfl (o_move (vB c) rfl (wl_t rfl (o_callK (vs := [vB (gmul a b), vB c]) enter_20 (c_mul (O := [] ++ O) (gmul a b) c w1071 s1072.lt) rfl s1072 fun v1076 w1077 s1078 m1079 k1080 r1081 => (?_))))
  obtain rfl := r1081
  refine wl_t rfl (o_neq8 (gmul a (gmul b c)) (gmul (gmul a b) c) rfl rfl (wl_s (o_pickF (.bool ((gmul a (gmul b c)) != (gmul (gmul a b) c))) rfl rfl (wl_s (o_move (.bool ((gmul a (gmul b c)) != (gmul (gmul a b) c))) rfl (?_))))))
  have hb1082 : ((gmul a (gmul b c)) != (gmul (gmul a b) c)) = false := (by rw [gmul_assoc]; simp)
  rw [hb1082]
  refine wl_t rfl (o_move (vB a) rfl (wl_t rfl (o_move (vB b) rfl (wl_t rfl (o_move (vB c) rfl (wl_t rfl (o_xor8 b c rfl rfl (wl_t rfl (o_callK (vs := [vB a, vB (b ^^^ c)]) enter_20 (c_mul (O := [] ++ O) a (b ^^^ c) w1077 s1078.lt) rfl s1078 fun v1083 w1084 s1085 m1086 k1087 r1088 => (?_))))))))))
  obtain rfl := r1088
  refine wl_t rfl (o_move (vB a) rfl (wl_t rfl (o_move (vB b) rfl (wl_t rfl (o_callK (vs := [vB a, vB b]) enter_20 (c_mul (O := [] ++ O) a b w1084 s1085.lt) rfl s1085 fun v1089 w1090 s1091 m1092 k1093 r1094 => (?_))))))
  obtain rfl := r1094
  refine wl_t rfl (o_move (vB a) rfl (wl_t rfl (o_move (vB c) rfl (wl_t rfl (o_callK (vs := [vB a, vB c]) enter_20 (c_mul (O := [] ++ O) a c w1090 s1091.lt) rfl s1091 fun v1095 w1096 s1097 m1098 k1099 r1100 => (?_))))))
  obtain rfl := r1100
  refine wl_t rfl (o_xor8 (gmul a b) (gmul a c) rfl rfl (wl_t rfl (o_neq8 (gmul a (b ^^^ c)) ((gmul a b) ^^^ (gmul a c)) rfl rfl (wl_s (o_pickF (.bool ((gmul a (b ^^^ c)) != ((gmul a b) ^^^ (gmul a c)))) rfl rfl (wl_s (o_move (.bool ((gmul a (b ^^^ c)) != ((gmul a b) ^^^ (gmul a c)))) rfl (?_))))))))
  have hb1101 : ((gmul a (b ^^^ c)) != ((gmul a b) ^^^ (gmul a c))) = false := (by rw [gmul_add]; simp)
  rw [hb1101]
  refine wl_t rfl (o_move (vB a) rfl (wl_t rfl (o_callK (vs := [vB a, vB (1 : UInt8)]) enter_20 (c_mul (O := [] ++ O) a (1 : UInt8) w1096 s1097.lt) rfl s1097 fun v1102 w1103 s1104 m1105 k1106 r1107 => (?_))))
  obtain rfl := r1107
  refine wl_t rfl (o_move (vB a) rfl (wl_t rfl (o_neq8 (gmul a (1 : UInt8)) a rfl rfl (wl_s (o_pickF (.bool ((gmul a (1 : UInt8)) != a)) rfl rfl (wl_nil (thenQ_n (?_))))))))
  refine cw_cond false rfl (congrArg Value.bool (show ((gmul a (1 : UInt8)) != a) = false from (by rw [gmul_one]; simp))) (fun h => by cases h) (fun _ => ?_)
  refine cw_skip (thenQ_n (?_))
  refine cw_seq (?_)
  refine cw_seq (?_)
  refine cw_region (by kernel_rfl) (wl_s (o_move (vB a) rfl (wl_s (o_move (vB b) rfl (wl_s (o_callK (vs := [vB a, vB b]) enter_20 (c_mul (O := [] ++ O) a b w1103 s1104.lt) rfl s1104 fun v1108 w1109 s1110 m1111 k1112 r1113 => (?_)))))))
  obtain rfl := r1113
  refine wl_s (o_eql8 (gmul a b) (0 : UInt8) rfl rfl (wl_s (o_move (vB a) rfl (wl_s (o_eql8 a (0 : UInt8) rfl rfl (wl_s (o_move (.bool (a == (0 : UInt8))) rfl (?_))))))))
  cases hb1114 : (a == (0 : UInt8))
  · have hp1115 : a ≠ (0 : UInt8) := by first | simpa using hb1114 | (have e := hb1114; simp at e; omega)
    refine wl_t rfl (o_move (vB b) rfl (wl_t rfl (o_eql8 b (0 : UInt8) rfl rfl (wl_s (o_pickF (.bool (b == (0 : UInt8))) rfl rfl (wl_s (o_neqB ((gmul a b) == (0 : UInt8)) (b == (0 : UInt8)) Try.underlying4 rfl rfl (wl_nil (thenQ_n (?_))))))))))
    refine cw_cond false rfl (congrArg Value.bool (show (((gmul a b) == (0 : UInt8)) != (b == (0 : UInt8))) = false from (by rw [zero_iff (by assumption)]; simp))) (fun h => by cases h) (fun _ => ?_)
    refine cw_skip (thenQ_n (?_))
    refine cw_seq (?_)
    refine cw_seq (?_)
    refine cw_region (by kernel_rfl) (wl_s (o_move (vB a) rfl (wl_s (o_eql8 a (0 : UInt8) rfl rfl (wl_nil (thenQ_n (?_)))))))
    refine cw_cond false rfl (congrArg Value.bool (show (a == (0 : UInt8)) = false from hb1114)) (fun h => by cases h) (fun _ => ?_)
    refine cw_skip (thenQ_n (?_))
    refine cw_seq (?_)
    refine cw_region (by kernel_rfl) (wl_s (o_move (vB ((inv a).1)) rfl (wl_s (o_callK (vs := [vB ((inv a).1)]) enter_18 (c_inv (O := [] ++ O) ((inv a).1) w1109 s1110.lt) rfl s1110 fun v1116 w1117 s1118 m1119 k1120 r1121 => (?_)))))
    obtain rfl := r1121
    refine wl_s (o_move (.tuple #[vB ((inv ((inv a).1)).1), vI ((inv ((inv a).1)).2)]) rfl (wl_s (o_extract (vB ((inv ((inv a).1)).1)) rfl rfl (wl_s (o_extract (vI ((inv ((inv a).1)).2)) rfl rfl (wl_s (o_assign (vB ((inv ((inv a).1)).1)) rfl (wl_s (o_assign (vI ((inv ((inv a).1)).2)) rfl (wl_nil (thenQ_n (?_))))))))))))
    refine cw_seq (?_)
    refine cw_region (by kernel_rfl) (wl_s (o_move (vI ((inv a).2)) rfl (wl_s (o_eql .i64 ((inv a).2) (0 : Int) rfl rfl (wl_s (o_move (.bool (((inv a).2) == (0 : Int))) rfl (?_)))))))
    have hb1122 : (((inv a).2) == (0 : Int)) = true := (by simp_all [gmul_eq_zero, inv_ok, inv_bad, gmul_ginv, ginv_ne, ginv_ginv])
    rw [hb1122]
    refine wl_t rfl (o_move (vB a) rfl (wl_t rfl (o_move (vB ((inv a).1)) rfl (wl_t rfl (o_callK (vs := [vB a, vB ((inv a).1)]) enter_20 (c_mul (O := [] ++ O) a ((inv a).1) w1117 s1118.lt) rfl s1118 fun v1123 w1124 s1125 m1126 k1127 r1128 => (?_))))))
    obtain rfl := r1128
    refine wl_t rfl (o_eql8 (gmul a ((inv a).1)) (1 : UInt8) rfl rfl (wl_s (o_pickT (.bool ((gmul a ((inv a).1)) == (1 : UInt8))) rfl rfl (wl_s (o_move (.bool ((gmul a ((inv a).1)) == (1 : UInt8))) rfl (?_))))))
    have hb1129 : ((gmul a ((inv a).1)) == (1 : UInt8)) = true := (by simp_all [gmul_eq_zero, inv_ok, inv_bad, gmul_ginv, ginv_ne, ginv_ginv])
    rw [hb1129]
    refine wl_t rfl (o_move (vI ((inv ((inv a).1)).2)) rfl (wl_t rfl (o_eql .i64 ((inv ((inv a).1)).2) (0 : Int) rfl rfl (wl_s (o_pickT (.bool (((inv ((inv a).1)).2) == (0 : Int))) rfl rfl (wl_s (o_move (.bool (((inv ((inv a).1)).2) == (0 : Int))) rfl (?_))))))))
    have hb1130 : (((inv ((inv a).1)).2) == (0 : Int)) = true := (by simp_all [gmul_eq_zero, inv_ok, inv_bad, gmul_ginv, ginv_ne, ginv_ginv])
    rw [hb1130]
    refine wl_t rfl (o_move (vB ((inv ((inv a).1)).1)) rfl (wl_t rfl (o_move (vB a) rfl (wl_t rfl (o_eql8 ((inv ((inv a).1)).1) a rfl rfl (wl_s (o_pickT (.bool (((inv ((inv a).1)).1) == a)) rfl rfl (wl_s (o_assign (.bool (((inv ((inv a).1)).1) == a)) rfl (wl_nil (thenQ_n (?_))))))))))))
    refine cw_ret (end_r rfl (res1 rfl rfl rfl) (?_))
    have e : true = (((inv ((inv a).1)).1) == a) := by simp_all [gmul_eq_zero, inv_ok, inv_bad, gmul_ginv, ginv_ne, ginv_ginv]
    exact ⟨_, rfl, s1125.keep, by rw [e]; exact rfl⟩
  · have hp1131 : a = (0 : UInt8) := by first | simpa using hb1114 | (have e := hb1114; simp at e; omega)
    refine wl_k rfl (wl_k rfl (wl_s (o_pickT (.bool true) rfl rfl (wl_s (o_neqB ((gmul a b) == (0 : UInt8)) true Try.underlying4 rfl rfl (wl_nil (thenQ_n (?_))))))))
    refine cw_cond false rfl (congrArg Value.bool (show (((gmul a b) == (0 : UInt8)) != true) = false from (by simp_all [gmul_eq_zero, inv_ok, inv_bad, gmul_ginv, ginv_ne, ginv_ginv]))) (fun h => by cases h) (fun _ => ?_)
    refine cw_skip (thenQ_n (?_))
    refine cw_seq (?_)
    refine cw_seq (?_)
    refine cw_region (by kernel_rfl) (wl_s (o_move (vB a) rfl (wl_s (o_eql8 a (0 : UInt8) rfl rfl (wl_nil (thenQ_n (?_)))))))
    refine cw_cond true rfl (congrArg Value.bool (show (a == (0 : UInt8)) = true from hb1114)) (fun _ => ?_) (fun h => by cases h)
    refine cw_seq (?_)
    refine cw_region (by kernel_rfl) (wl_s (o_move (vI ((inv a).2)) rfl (wl_s (o_eql .i64 ((inv a).2) (1 : Int) rfl rfl (wl_s (o_move (.bool (((inv a).2) == (1 : Int))) rfl (?_)))))))
    have hb1132 : (((inv a).2) == (1 : Int)) = true := (by simp_all [gmul_eq_zero, inv_ok, inv_bad, gmul_ginv, ginv_ne, ginv_ginv])
    rw [hb1132]
    refine wl_t rfl (o_move (vB ((inv a).1)) rfl (wl_t rfl (o_eql8 ((inv a).1) (0 : UInt8) rfl rfl (wl_s (o_pickT (.bool (((inv a).1) == (0 : UInt8))) rfl rfl (wl_s (o_assign (.bool (((inv a).1) == (0 : UInt8))) rfl (wl_nil (thenQ_n (?_))))))))))
    refine cw_ret (thenQ_r (end_r rfl (res1 rfl rfl rfl) (?_)))
    have e : true = (((inv a).1) == (0 : UInt8)) := by simp_all [gmul_eq_zero, inv_ok, inv_bad, gmul_ginv, ginv_ne, ginv_ginv]
    exact ⟨_, rfl, s1110.keep, by rw [e]; exact rfl⟩
set_option maxHeartbeats 4000000 in
set_option maxRecDepth 100000 in
theorem c_FieldTwo {O : List Nat} (a : UInt8) (b : UInt8) (w : World) (hO : ∀ b ∈ O, b < w.heap.size) : CallsK Try.prog 6 [vB a, vB b] w (fun v _ => v = .bool (true)) :=  by
  have s0 : St w O w [] := St.start hO
  refine callsK_of 43 Try.func6 rfl rfl (of_decide_eq_true rfl) (fun F0 => ?_)
  refine cw_seq (?_)
  refine cw_region (by kernel_rfl) (wl_s (o_assign (.bool false) rfl (wl_nil (thenQ_n (?_)))))
  refine cw_seq (?_)
  refine cw_seq (?_)
  refine cw_region (by kernel_rfl) (wl_s (o_callK (vs := []) enter_17 (c_sane7 (O := [] ++ O) w s0.lt) rfl s0 fun v1133 w1134 s1135 m1136 k1137 r1138 => (?_)))
  obtain rfl := r1138
  refine wl_s (o_not true rfl (wl_nil (thenQ_n (?_))))
  refine cw_cond false rfl rfl (fun h => by cases h) (fun _ => ?_)
  refine cw_skip (thenQ_n (?_))
  refine cw_seq (?_)
  refine cw_region (by kernel_rfl) (wl_s (o_move (vB a) rfl (wl_s (o_shl8 .u64 a 1 (by omega) rfl rfl (wl_s (o_assign (vB (a <<< UInt8.ofNat 1)) rfl (wl_nil (thenQ_n (?_)))))))))
  refine cw_seq (?_)
  refine cw_seq (?_)
  refine cw_region (by kernel_rfl) (wl_s (o_move (vB a) rfl (wl_s (o_geq .u8 (a.toNat : Int) ((128 : UInt8).toNat : Int) rfl rfl (wl_nil (thenQ_n (?_)))))))
  refine cw_cond (decide (((128 : UInt8).toNat : Int) ≤ (a.toNat : Int))) rfl rfl (fun hc1139 => ?_) (fun hc1139 => ?_)
  · have hp1140 : ((128 : UInt8).toNat : Int) ≤ (a.toNat : Int) := by first | simpa using hc1139 | (have e := hc1139; simp at e; omega)
    refine cw_region (by kernel_rfl) (wl_s (o_move (vB (a <<< UInt8.ofNat 1)) rfl (wl_s (o_xor8 (a <<< UInt8.ofNat 1) (27 : UInt8) rfl rfl (wl_s (o_assign (vB ((a <<< UInt8.ofNat 1) ^^^ (27 : UInt8))) rfl (wl_nil (thenQ_n (?_)))))))))
    refine cw_seq (?_)
    refine cw_region (by kernel_rfl) (wl_s (o_assign (vB (0 : UInt8)) rfl (wl_nil (thenQ_n (?_)))))
    refine cw_seq (?_)
    refine cw_region (by kernel_rfl) (wl_s (o_move (vB a) rfl (wl_s (o_assign (vB a) rfl (wl_nil (thenQ_n (?_)))))))
    refine cw_seq (?_)
    refine cw_seq (?_)
    refine cw_region (by kernel_rfl) (wl_s (o_assign (vI (0 : Int)) rfl (wl_nil (thenQ_n (?_)))))
    refine cw_block (?_)
    refine cw_loop (fun mI FI wI => ∃ (i : Nat) (B : List Nat), i ≤ 8 ∧ mI = 8 - i ∧ (∃ F1, FI = upds F1 [(0, vB a), (1, vB b), (5, vB ((a <<< UInt8.ofNat 1) ^^^ (27 : UInt8))), (6, vB (gm a b i)), (7, vB (xtn a i)), (8, vI ((i : Nat) : Int)), (43, undef)]) ∧ St w O wI B) (8 - (0)) ?_ ?_
    · exact ⟨(0), [], (by first | omega | (simp; done) | (simp; omega) | simp_all), rfl, ⟨_, upds_self _ ⟨rfl, rfl, rfl, (congrArg vB (by first | rfl | (rfl))), (congrArg vB (by first | rfl | (rfl))), (by first | rfl | exact congrArg (Value.int _) (by first | omega | (simp))), rfl, trivial⟩⟩, s1135⟩
    · intro ml0 F wl0 hI
      obtain ⟨i, Bl0, hr0_0, hm0, ⟨Fl0, rfl⟩, sl0⟩ := hI
      refine cw_seq (?_)
      refine cw_seq (?_)
      refine cw_region (by kernel_rfl) (wl_s (o_move (vI ((i : Nat) : Int)) rfl (wl_s (o_lss .i64 ((i : Nat) : Int) (8 : Int) rfl rfl (wl_nil (thenQ_n (?_)))))))
      refine cw_cond (decide (((i : Nat) : Int) < (8 : Int))) rfl rfl (fun hc1141 => ?_) (fun hc1141 => ?_)
      · have hp1142 : ((i : Nat) : Int) < (8 : Int) := by first | simpa using hc1141 | (have e := hc1141; simp at e; omega)
        refine cw_skip (thenQ_n (?_))
        refine cw_seq (?_)
        refine cw_block (?_)
        refine cw_seq (?_)
        refine cw_seq (?_)
        refine cw_region (by kernel_rfl) (wl_s (o_move (vB b) rfl (wl_s (o_move (vI ((i : Nat) : Int)) rfl (wl_s (o_shr8 .i64 b i (by omega) rfl rfl (wl_s (o_and8 (b >>> UInt8.ofNat i) (1 : UInt8) rfl rfl (wl_s (o_eql8 ((b >>> UInt8.ofNat i) &&& (1 : UInt8)) (1 : UInt8) rfl rfl (wl_nil (thenQ_n (?_)))))))))))))
        refine cw_cond (((b >>> UInt8.ofNat i) &&& (1 : UInt8)) == (1 : UInt8)) rfl rfl (fun hc1143 => ?_) (fun hc1143 => ?_)
        · have hp1144 : (b >>> UInt8.ofNat i) &&& (1 : UInt8) = (1 : UInt8) := by first | simpa using hc1143 | (have e := hc1143; simp at e; omega)
          refine cw_region (by kernel_rfl) (wl_s (o_move (vB (gm a b i)) rfl (wl_s (o_move (vB (xtn a i)) rfl (wl_s (o_xor8 (gm a b i) (xtn a i) rfl rfl (wl_s (o_assign (vB ((gm a b i) ^^^ (xtn a i))) rfl (wl_nil (thenQ_n (?_)))))))))))
          refine cw_region (by kernel_rfl) (wl_s (o_move (vB (xtn a i)) rfl (wl_s (o_callK (vs := [vB (xtn a i), vB (2 : UInt8)]) enter_20 (c_mul (O := Bl0 ++ O) (xtn a i) (2 : UInt8) wl0 sl0.lt) rfl sl0 fun v1145 w1146 s1147 m1148 k1149 r1150 => (?_)))))
          obtain rfl := r1150
          refine wl_s (o_assign (vB (gmul (xtn a i) (2 : UInt8))) rfl (wl_nil (blockQ_n (thenQ_n (?_)))))
          refine cw_region (by kernel_rfl) (wl_s (o_move (vI ((i : Nat) : Int)) rfl (wl_s (o_add .i64 ((i : Nat) : Int) (1 : Int) (((i + 1 : Nat) : Int)) rfl rfl (w64 (by omega) (by omega)) (wl_s (o_assign (vI ((i + 1 : Nat) : Int)) rfl (wl_nil (thenQ_n (?_)))))))))
          exact ⟨_, (by omega), (i + 1), Bl0, (by first | omega | (simp; done) | (simp; omega) | simp_all), rfl, ⟨_, upds_self _ ⟨rfl, rfl, rfl, (congrArg vB (by first | exact (gm_yes a b i (by assumption)).symm | exact (gm_no a b i (by assumption)).symm)), (congrArg vB (by rw [gmul_two]; rfl)), (by first | rfl | exact congrArg (Value.int _) (by first | omega | (simp))), rfl, trivial⟩⟩, s1147⟩
        · have hp1151 : (b >>> UInt8.ofNat i) &&& (1 : UInt8) ≠ (1 : UInt8) := by first | simpa using hc1143 | (have e := hc1143; simp at e; omega)
          refine cw_skip (thenQ_n (?_))
          refine cw_region (by kernel_rfl) (wl_s (o_move (vB (xtn a i)) rfl (wl_s (o_callK (vs := [vB (xtn a i), vB (2 : UInt8)]) enter_20 (c_mul (O := Bl0 ++ O) (xtn a i) (2 : UInt8) wl0 sl0.lt) rfl sl0 fun v1152 w1153 s1154 m1155 k1156 r1157 => (?_)))))
          obtain rfl := r1157
          refine wl_s (o_assign (vB (gmul (xtn a i) (2 : UInt8))) rfl (wl_nil (blockQ_n (thenQ_n (?_)))))
          refine cw_region (by kernel_rfl) (wl_s (o_move (vI ((i : Nat) : Int)) rfl (wl_s (o_add .i64 ((i : Nat) : Int) (1 : Int) (((i + 1 : Nat) : Int)) rfl rfl (w64 (by omega) (by omega)) (wl_s (o_assign (vI ((i + 1 : Nat) : Int)) rfl (wl_nil (thenQ_n (?_)))))))))
          exact ⟨_, (by omega), (i + 1), Bl0, (by first | omega | (simp; done) | (simp; omega) | simp_all), rfl, ⟨_, upds_self _ ⟨rfl, rfl, rfl, (congrArg vB (by first | exact (gm_yes a b i (by assumption)).symm | exact (gm_no a b i (by assumption)).symm)), (congrArg vB (by rw [gmul_two]; rfl)), (by first | rfl | exact congrArg (Value.int _) (by first | omega | (simp))), rfl, trivial⟩⟩, s1154⟩
      · have hp1158 : (8 : Int) ≤ ((i : Nat) : Int) := by first | simpa using hc1141 | (have e := hc1141; simp at e; omega)
        obtain rfl : i = 8 := by omega
        refine cw_exit (thenQ_x (thenQ_x (blockQ_x (thenQ_n (?_)))))
        refine cw_seq (?_)
        refine cw_region (by kernel_rfl) (wl_s (o_move (vB a) rfl (wl_s (o_callK (vs := [vB a, vB (2 : UInt8)]) enter_20 (c_mul (O := Bl0 ++ O) a (2 : UInt8) wl0 sl0.lt) rfl sl0 fun v1159 w1160 s1161 m1162 k1163 r1164 => (?_)))))
        obtain rfl := r1164
        refine wl_s (o_move (vB ((a <<< UInt8.ofNat 1) ^^^ (27 : UInt8))) rfl (wl_s (o_eql8 (gmul a (2 : UInt8)) ((a <<< UInt8.ofNat 1) ^^^ (27 : UInt8)) rfl rfl (wl_s (o_move (.bool ((gmul a (2 : UInt8)) == ((a <<< UInt8.ofNat 1) ^^^ (27 : UInt8)))) rfl (?_))))))
        have hb1165 : ((gmul a (2 : UInt8)) == ((a <<< UInt8.ofNat 1) ^^^ (27 : UInt8))) = true := (by rw [gmul_two, xt, if_pos (by assumption)]; exact beq_self_eq_true _)
        rw [hb1165]
        refine wl_t rfl (o_move (vB a) rfl (wl_t rfl (o_move (vB b) rfl (wl_t rfl (o_callK (vs := [vB a, vB b]) enter_20 (c_mul (O := Bl0 ++ O) a b w1160 s1161.lt) rfl s1161 fun v1166 w1167 s1168 m1169 k1170 r1171 => (?_))))))
        obtain rfl := r1171
        refine wl_t rfl (o_move (vB (gm a b 8)) rfl (wl_t rfl (o_eql8 (gmul a b) (gm a b 8) rfl rfl (wl_s (o_pickT (.bool ((gmul a b) == (gm a b 8))) rfl rfl (wl_s (o_assign (.bool ((gmul a b) == (gm a b 8))) rfl (wl_nil (thenQ_n (?_))))))))))
        refine cw_ret (end_r rfl (res1 rfl rfl rfl) (?_))
        have e : true = ((gmul a b) == (gm a b 8)) := by simp [gmul]
        exact ⟨_, rfl, s1168.keep, by rw [e]; exact rfl⟩
  · have hp1172 : (a.toNat : Int) < ((128 : UInt8).toNat : Int) := by first | simpa using hc1139 | (have e := hc1139; simp at e; omega)
    refine cw_skip (thenQ_n (?_))
    refine cw_seq (?_)
    refine cw_region (by kernel_rfl) (wl_s (o_assign (vB (0 : UInt8)) rfl (wl_nil (thenQ_n (?_)))))
    refine cw_seq (?_)
    refine cw_region (by kernel_rfl) (wl_s (o_move (vB a) rfl (wl_s (o_assign (vB a) rfl (wl_nil (thenQ_n (?_)))))))
    refine cw_seq (?_)
    refine cw_seq (?_)
    refine cw_region (by kernel_rfl) (wl_s (o_assign (vI (0 : Int)) rfl (wl_nil (thenQ_n (?_)))))
    refine cw_block (?_)
    refine cw_loop (fun mI FI wI => ∃ (i : Nat) (B : List Nat), i ≤ 8 ∧ mI = 8 - i ∧ (∃ F1, FI = upds F1 [(0, vB a), (1, vB b), (5, vB (a <<< UInt8.ofNat 1)), (6, vB (gm a b i)), (7, vB (xtn a i)), (8, vI ((i : Nat) : Int)), (43, undef)]) ∧ St w O wI B) (8 - (0)) ?_ ?_
    · exact ⟨(0), [], (by first | omega | (simp; done) | (simp; omega) | simp_all), rfl, ⟨_, upds_self _ ⟨rfl, rfl, rfl, (congrArg vB (by first | rfl | (rfl))), (congrArg vB (by first | rfl | (rfl))), (by first | rfl | exact congrArg (Value.int _) (by first | omega | (simp))), rfl, trivial⟩⟩, s1135⟩
    · intro ml0 F wl0 hI
      obtain ⟨i, Bl0, hr0_0, hm0, ⟨Fl0, rfl⟩, sl0⟩ := hI
      refine cw_seq (?_)
      refine cw_seq (?_)
      refine cw_region (by kernel_rfl) (wl_s (o_move (vI ((i : Nat) : Int)) rfl (wl_s (o_lss .i64 ((i : Nat) : Int) (8 : Int) rfl rfl (wl_nil (thenQ_n (?_)))))))
      refine cw_cond (decide (((i : Nat) : Int) < (8 : Int))) rfl rfl (fun hc1173 => ?_) (fun hc1173 => ?_)
      · have hp1174 : ((i : Nat) : Int) < (8 : Int) := by first | simpa using hc1173 | (have e := hc1173; simp at e; omega)
        refine cw_skip (thenQ_n (?_))
        refine cw_seq (?_)
        refine cw_block (?_)
        refine cw_seq (?_)
        refine cw_seq (?_)
        refine cw_region (by kernel_rfl) (wl_s (o_move (vB b) rfl (wl_s (o_move (vI ((i : Nat) : Int)) rfl (wl_s (o_shr8 .i64 b i (by omega) rfl rfl (wl_s (o_and8 (b >>> UInt8.ofNat i) (1 : UInt8) rfl rfl (wl_s (o_eql8 ((b >>> UInt8.ofNat i) &&& (1 : UInt8)) (1 : UInt8) rfl rfl (wl_nil (thenQ_n (?_)))))))))))))
        refine cw_cond (((b >>> UInt8.ofNat i) &&& (1 : UInt8)) == (1 : UInt8)) rfl rfl (fun hc1175 => ?_) (fun hc1175 => ?_)
        · have hp1176 : (b >>> UInt8.ofNat i) &&& (1 : UInt8) = (1 : UInt8) := by first | simpa using hc1175 | (have e := hc1175; simp at e; omega)
          refine cw_region (by kernel_rfl) (wl_s (o_move (vB (gm a b i)) rfl (wl_s (o_move (vB (xtn a i)) rfl (wl_s (o_xor8 (gm a b i) (xtn a i) rfl rfl (wl_s (o_assign (vB ((gm a b i) ^^^ (xtn a i))) rfl (wl_nil (thenQ_n (?_)))))))))))
          refine cw_region (by kernel_rfl) (wl_s (o_move (vB (xtn a i)) rfl (wl_s (o_callK (vs := [vB (xtn a i), vB (2 : UInt8)]) enter_20 (c_mul (O := Bl0 ++ O) (xtn a i) (2 : UInt8) wl0 sl0.lt) rfl sl0 fun v1177 w1178 s1179 m1180 k1181 r1182 => (?_)))))
          obtain rfl := r1182
          refine wl_s (o_assign (vB (gmul (xtn a i) (2 : UInt8))) rfl (wl_nil (blockQ_n (thenQ_n (?_)))))
          refine cw_region (by kernel_rfl) (wl_s (o_move (vI ((i : Nat) : Int)) rfl (wl_s (o_add .i64 ((i : Nat) : Int) (1 : Int) (((i + 1 : Nat) : Int)) rfl rfl (w64 (by omega) (by omega)) (wl_s (o_assign (vI ((i + 1 : Nat) : Int)) rfl (wl_nil (thenQ_n (?_)))))))))
          exact ⟨_, (by omega), (i + 1), Bl0, (by first | omega | (simp; done) | (simp; omega) | simp_all), rfl, ⟨_, upds_self _ ⟨rfl, rfl, rfl, (congrArg vB (by first | exact (gm_yes a b i (by assumption)).symm | exact (gm_no a b i (by assumption)).symm)), (congrArg vB (by rw [gmul_two]; rfl)), (by first | rfl | exact congrArg (Value.int _) (by first | omega | (simp))), rfl, trivial⟩⟩, s1179⟩
        · have hp1183 : (b >>> UInt8.ofNat i) &&& (1 : UInt8) ≠ (1 : UInt8) := by first | simpa using hc1175 | (have e := hc1175; simp at e; omega)
          refine cw_skip (thenQ_n (?_))
          refine cw_region (by kernel_rfl) (wl_s (o_move (vB (xtn a i)) rfl (wl_s (o_callK (vs := [vB (xtn a i), vB (2 : UInt8)]) enter_20 (c_mul (O := Bl0 ++ O) (xtn a i) (2 : UInt8) wl0 sl0.lt) rfl sl0 fun v1184 w1185 s1186 m1187 k1188 r1189 => (?_)))))
          obtain rfl := r1189
          refine wl_s (o_assign (vB (gmul (xtn a i) (2 : UInt8))) rfl (wl_nil (blockQ_n (thenQ_n (?_)))))
          refine cw_region (by kernel_rfl) (wl_s (o_move (vI ((i : Nat) : Int)) rfl (wl_s (o_add .i64 ((i : Nat) : Int) (1 : Int) (((i + 1 : Nat) : Int)) rfl rfl (w64 (by omega) (by omega)) (wl_s (o_assign (vI ((i + 1 : Nat) : Int)) rfl (wl_nil (thenQ_n (?_)))))))))
          exact ⟨_, (by omega), (i + 1), Bl0, (by first | omega | (simp; done) | (simp; omega) | simp_all), rfl, ⟨_, upds_self _ ⟨rfl, rfl, rfl, (congrArg vB (by first | exact (gm_yes a b i (by assumption)).symm | exact (gm_no a b i (by assumption)).symm)), (congrArg vB (by rw [gmul_two]; rfl)), (by first | rfl | exact congrArg (Value.int _) (by first | omega | (simp))), rfl, trivial⟩⟩, s1186⟩
      · have hp1190 : (8 : Int) ≤ ((i : Nat) : Int) := by first | simpa using hc1173 | (have e := hc1173; simp at e; omega)
        obtain rfl : i = 8 := by omega
        refine cw_exit (thenQ_x (thenQ_x (blockQ_x (thenQ_n (?_)))))
        refine cw_seq (?_)
        refine cw_region (by kernel_rfl) (wl_s (o_move (vB a) rfl (wl_s (o_callK (vs := [vB a, vB (2 : UInt8)]) enter_20 (c_mul (O := Bl0 ++ O) a (2 : UInt8) wl0 sl0.lt) rfl sl0 fun v1191 w1192 s1193 m1194 k1195 r1196 => (?_)))))
        obtain rfl := r1196
        refine wl_s (o_move (vB (a <<< UInt8.ofNat 1)) rfl (wl_s (o_eql8 (gmul a (2 : UInt8)) (a <<< UInt8.ofNat 1) rfl rfl (wl_s (o_move (.bool ((gmul a (2 : UInt8)) == (a <<< UInt8.ofNat 1))) rfl (?_))))))
        have hb1197 : ((gmul a (2 : UInt8)) == (a <<< UInt8.ofNat 1)) = true := (by rw [gmul_two, xt, if_neg (Int.not_le.2 (by assumption))]; exact beq_self_eq_true _)
        rw [hb1197]
        refine wl_t rfl (o_move (vB a) rfl (wl_t rfl (o_move (vB b) rfl (wl_t rfl (o_callK (vs := [vB a, vB b]) enter_20 (c_mul (O := Bl0 ++ O) a b w1192 s1193.lt) rfl s1193 fun v1198 w1199 s1200 m1201 k1202 r1203 => (?_))))))
        obtain rfl := r1203
        refine wl_t rfl (o_move (vB (gm a b 8)) rfl (wl_t rfl (o_eql8 (gmul a b) (gm a b 8) rfl rfl (wl_s (o_pickT (.bool ((gmul a b) == (gm a b 8))) rfl rfl (wl_s (o_assign (.bool ((gmul a b) == (gm a b 8))) rfl (wl_nil (thenQ_n (?_))))))))))
        refine cw_ret (end_r rfl (res1 rfl rfl rfl) (?_))
        have e : true = ((gmul a b) == (gm a b 8)) := by simp [gmul]
        exact ⟨_, rfl, s1200.keep, by rw [e]; exact rfl⟩

end Go.Proofs.Yteajcgfcnbdmgaa
