/- Walks, printed by gen.py. -/
import Derived.Test.YteajcgfcnbdmgaaWaE
import Derived.Test.YteajcgfcnbdmgaaMaB
namespace Go.Proofs.Yteajcgfcnbdmgaa
open Go.Fw Go.RowKit

set_option maxHeartbeats 4000000 in
set_option maxRecDepth 100000 in
theorem c_FieldMulSpec {O : List Nat} (a : UInt8) (b : UInt8) (w : World) (hO : ∀ b ∈ O, b < w.heap.size) : CallsK Try.prog 3 [vB a, vB b] w (fun v _ => v = .bool (true)) :=  by
  have s0 : St w O w [] := St.start hO
  refine callsK_of 38 Try.func3 rfl rfl (of_decide_eq_true rfl) (fun F0 => ?_)
  refine cw_seq (?_)
  refine cw_region (by kernel_rfl) (wl_s (o_assign (Value.bool false) rfl (wl_nil (thenQ_n (?_)))))
  refine cw_seq (?_)
  refine cw_seq (?_)
  refine cw_region (by kernel_rfl) (wl_s (o_callK (vs := []) enter_17 (c_sane7 (O := [] ++ O) w s0.lt) rfl s0 fun v1001 w1002 s1003 m1004 k1005 r1006 => (?_)))
  obtain rfl := r1006
  refine wl_s (o_not true rfl (wl_nil (thenQ_n (?_))))
  refine cw_cond false rfl rfl (fun h => by cases h) (fun _ => ?_)
  refine cw_skip (thenQ_n (?_))
  refine cw_seq (?_)
  refine cw_region (by kernel_rfl) (wl_s (o_move (vB a) rfl (wl_s (o_callK (vs := [vB a]) enter_18 (c_inv (O := [] ++ O) a w1002 s1003.lt) rfl s1003 fun v1007 w1008 s1009 m1010 k1011 r1012 => (?_)))))
  obtain rfl := r1012
  refine wl_s (o_move (Value.tuple #[vB ((inv a).1), vI ((inv a).2)]) rfl (wl_s (o_extract (vB ((inv a).1)) rfl rfl (wl_s (o_extract (vI ((inv a).2)) rfl rfl (wl_s (o_assign (vB ((inv a).1)) rfl (wl_s (o_assign (vI ((inv a).2)) rfl (wl_nil (thenQ_n (?_))))))))))))
  refine cw_seq (?_)
  refine cw_region (by kernel_rfl) (wl_s (o_move (vB a) rfl (wl_s (o_callK (vs := [vB a]) enter_19 (c_refInv (O := [] ++ O) a w1008 s1009.lt) rfl s1009 fun v1013 w1014 s1015 m1016 k1017 r1018 => (?_)))))
  obtain rfl := r1018
  refine wl_s (o_move (Value.tuple #[vB ((refInv a).1), vI ((refInv a).2)]) rfl (wl_s (o_extract (vB ((refInv a).1)) rfl rfl (wl_s (o_extract (vI ((refInv a).2)) rfl rfl (wl_s (o_assign (vB ((refInv a).1)) rfl (wl_s (o_assign (vI ((refInv a).2)) rfl (wl_nil (thenQ_n (?_))))))))))))
  refine cw_seq (?_)
  refine cw_region (by kernel_rfl) (wl_s (o_move (vB a) rfl (wl_s (o_move (vB b) rfl (wl_s (o_callK (vs := [vB a, vB b]) enter_20 (c_mul (O := [] ++ O) a b w1014 s1015.lt) rfl s1015 fun v1019 w1020 s1021 m1022 k1023 r1024 => (?_)))))))
  obtain rfl := r1024
  refine wl_s (o_move (vB a) rfl (wl_s (o_move (vB b) rfl (wl_s (o_callK (vs := [vB a, vB b]) enter_21 (c_refMul (O := [] ++ O) a b w1020 s1021.lt) rfl s1021 fun v1025 w1026 s1027 m1028 k1029 r1030 => (?_))))))
  obtain rfl := r1030
  refine wl_s (o_eql8 (gmul a b) (refMul a b) rfl rfl (wl_s (o_move (Value.bool ((gmul a b) == (refMul a b))) rfl (?_))))
  have hb1031 : ((gmul a b) == (refMul a b)) = true := (by rw [refMul_eq]; exact beq_self_eq_true _)
  rw [hb1031]
  refine wl_t rfl (o_move (vB ((inv a).1)) rfl (wl_t rfl (o_move (vB ((refInv a).1)) rfl (wl_t rfl (o_eql8 ((inv a).1) ((refInv a).1) rfl rfl (wl_s (o_pickT (Value.bool (((inv a).1) == ((refInv a).1))) rfl rfl (wl_s (o_move (Value.bool (((inv a).1) == ((refInv a).1))) rfl (?_))))))))))
  have hb1032 : (((inv a).1) == ((refInv a).1)) = true := (by rw [refInv_eq]; exact beq_self_eq_true _)
  rw [hb1032]
  refine wl_t rfl (o_move (vI ((inv a).2)) rfl (wl_t rfl (o_move (vI ((refInv a).2)) rfl (wl_t rfl (o_eql .i64 ((inv a).2) ((refInv a).2) rfl rfl (wl_s (o_pickT (Value.bool (((inv a).2) == ((refInv a).2))) rfl rfl (wl_s (o_assign (Value.bool (((inv a).2) == ((refInv a).2))) rfl (wl_nil (thenQ_n (?_))))))))))))
  refine cw_ret (end_r rfl (res1 rfl rfl rfl) (?_))
  have e : true = (((inv a).2) == ((refInv a).2)) := by rw [refInv_eq]; simp
  exact ⟨_, rfl, s1027.keep, by rw [e]; exact rfl⟩
set_option maxHeartbeats 4000000 in
set_option maxRecDepth 100000 in
theorem c_FieldAxioms {O : List Nat} (a : UInt8) (b : UInt8) (c : UInt8) (w : World) (hO : ∀ b ∈ O, b < w.heap.size) : CallsK Try.prog 5 [vB a, vB b, vB c] w (fun v _ => v = .bool (true)) :=  by
  have s0 : St w O w [] := St.start hO
  refine callsK_of 100 Try.func5 rfl rfl (of_decide_eq_true rfl) (fun F0 => ?_)
  refine cw_seq (?_)
  refine cw_region (by kernel_rfl) (wl_s (o_assign (Value.bool false) rfl (wl_nil (thenQ_n (?_)))))
  refine cw_seq (?_)
  refine cw_seq (?_)
  refine cw_region (by kernel_rfl) (wl_s (o_callK (vs := []) enter_17 (c_sane7 (O := [] ++ O) w s0.lt) rfl s0 fun v1033 w1034 s1035 m1036 k1037 r1038 => (?_)))
  obtain rfl := r1038
  refine wl_s (o_not true rfl (wl_nil (thenQ_n (?_))))
  refine cw_cond false rfl rfl (fun h => by cases h) (fun _ => ?_)
  refine cw_skip (thenQ_n (?_))
  refine cw_seq (?_)
  refine cw_region (by kernel_rfl) (wl_s (o_move (vB a) rfl (wl_s (o_callK (vs := [vB a]) enter_18 (c_inv (O := [] ++ O) a w1034 s1035.lt) rfl s1035 fun v1039 w1040 s1041 m1042 k1043 r1044 => (?_)))))
  obtain rfl := r1044
  refine wl_s (o_move (Value.tuple #[vB ((inv a).1), vI ((inv a).2)]) rfl (wl_s (o_extract (vB ((inv a).1)) rfl rfl (wl_s (o_extract (vI ((inv a).2)) rfl rfl (wl_s (o_assign (vB ((inv a).1)) rfl (wl_s (o_assign (vI ((inv a).2)) rfl (wl_nil (thenQ_n (?_))))))))))))
  refine cw_seq (?_)
  refine cw_seq (?_)
  refine cw_region (by kernel_rfl) (wl_s (o_move (vB a) rfl (wl_s (o_move (vB b) rfl (wl_s (o_callK (vs := [vB a, vB b]) enter_20 (c_mul (O := [] ++ O) a b w1040 s1041.lt) rfl s1041 fun v1045 w1046 s1047 m1048 k1049 r1050 => (?_)))))))
  obtain rfl := r1050
  refine wl_s (o_move (vB b) rfl (wl_s (o_move (vB a) rfl (wl_s (o_callK (vs := [vB b, vB a]) enter_20 (c_mul (O := [] ++ O) b a w1046 s1047.lt) rfl s1047 fun v1051 w1052 s1053 m1054 k1055 r1056 => (?_))))))
  obtain rfl := r1056
  refine wl_s (o_neq8 (gmul a b) (gmul b a) rfl rfl (wl_s (o_move (Value.bool ((gmul a b) != (gmul b a))) rfl (?_))))
  have hb1057 : ((gmul a b) != (gmul b a)) = false := (by rw [gmul_comm a b]; simp)
  rw [hb1057]
  refine wl_t rfl (o_move (vB a) rfl (wl_t rfl (o_move (vB b) rfl (wl_t rfl (o_move (vB c) rfl (wl_t rfl (o_callK (vs := [vB b, vB c]) enter_20 (c_mul (O := [] ++ O) b c w1052 s1053.lt) rfl s1053 fun v1058 w1059 s1060 m1061 k1062 r1063 => (?_))))))))
  obtain rfl := r1063
  refine wl_t rfl (o_callK (vs := [vB a, vB (gmul b c)]) enter_20 (c_mul (O := [] ++ O) a (gmul b c) w1059 s1060.lt) rfl s1060 fun v1064 w1065 s1066 m1067 k1068 r1069 => (?_))
  obtain rfl := r1069
  refine wl_t rfl (o_move (vB a) rfl (wl_t rfl (o_move (vB b) rfl (wl_t rfl (o_callK (vs := [vB a, vB b]) enter_20 (c_mul (O := [] ++ O) a b w1065 s1066.lt) rfl s1066 fun v1070 w1071 s1072 m1073 k1074 r1075 => (?_))))))
  obtain rfl := r1075
  refine wl_t rfl (o_move (vB c) rfl (wl_t rfl (o_callK (vs := [vB (gmul a b), vB c]) enter_20 (c_mul (O := [] ++ O) (gmul a b) c w1071 s1072.lt) rfl s1072 fun v1076 w1077 s1078 m1079 k1080 r1081 => (?_))))
  obtain rfl := r1081
  refine wl_t rfl (o_neq8 (gmul a (gmul b c)) (gmul (gmul a b) c) rfl rfl (wl_s (o_pickF (Value.bool ((gmul a (gmul b c)) != (gmul (gmul a b) c))) rfl rfl (wl_s (o_move (Value.bool ((gmul a (gmul b c)) != (gmul (gmul a b) c))) rfl (?_))))))
  have hb1082 : ((gmul a (gmul b c)) != (gmul (gmul a b) c)) = false := (by rw [gmul_assoc]; simp)
  rw [hb1082]
  refine wl_t rfl (o_move (vB a) rfl (wl_t rfl (o_move (vB b) rfl (wl_t rfl (o_move (vB c) rfl (wl_t rfl (o_xor8 b c rfl rfl (wl_t rfl (o_callK (vs := [vB a, vB (b ^^^ c)]) enter_20 (c_mul (O := [] ++ O) a (b ^^^ c) w1077 s1078.lt) rfl s1078 fun v1083 w1084 s1085 m1086 k1087 r1088 => (?_))))))))))
  obtain rfl := r1088
  refine wl_t rfl (o_move (vB a) rfl (wl_t rfl (o_move (vB b) rfl (wl_t rfl (o_callK (vs := [vB a, vB b]) enter_20 (c_mul (O := [] ++ O) a b w1084 s1085.lt) rfl s1085 fun v1089 w1090 s1091 m1092 k1093 r1094 => (?_))))))
  obtain rfl := r1094
  refine wl_t rfl (o_move (vB a) rfl (wl_t rfl (o_move (vB c) rfl (wl_t rfl (o_callK (vs := [vB a, vB c]) enter_20 (c_mul (O := [] ++ O) a c w1090 s1091.lt) rfl s1091 fun v1095 w1096 s1097 m1098 k1099 r1100 => (?_))))))
  obtain rfl := r1100
  refine wl_t rfl (o_xor8 (gmul a b) (gmul a c) rfl rfl (wl_t rfl (o_neq8 (gmul a (b ^^^ c)) ((gmul a b) ^^^ (gmul a c)) rfl rfl (wl_s (o_pickF (Value.bool ((gmul a (b ^^^ c)) != ((gmul a b) ^^^ (gmul a c)))) rfl rfl (wl_s (o_move (Value.bool ((gmul a (b ^^^ c)) != ((gmul a b) ^^^ (gmul a c)))) rfl (?_))))))))
  have hb1101 : ((gmul a (b ^^^ c)) != ((gmul a b) ^^^ (gmul a c))) = false := (by rw [gmul_add]; simp)
  rw [hb1101]
  refine wl_t rfl (o_move (vB a) rfl (wl_t rfl (o_callK (vs := [vB a, vB (1 : UInt8)]) enter_20 (c_mul (O := [] ++ O) a (1 : UInt8) w1096 s1097.lt) rfl s1097 fun v1102 w1103 s1104 m1105 k1106 r1107 => (?_))))
  obtain rfl := r1107
  refine wl_t rfl (o_move (vB a) rfl (wl_t rfl (o_neq8 (gmul a (1 : UInt8)) a rfl rfl (wl_s (o_pickF (Value.bool ((gmul a (1 : UInt8)) != a)) rfl rfl (wl_nil (thenQ_n (?_))))))))
  have hb1108 : ((gmul a (1 : UInt8)) != a) = false := (by rw [gmul_one]; simp)
  rw [hb1108]
  refine cw_cond false rfl rfl (fun h => by cases h) (fun _ => ?_)
  refine cw_skip (thenQ_n (?_))
  refine cw_seq (?_)
  refine cw_seq (?_)
  refine cw_region (by kernel_rfl) (wl_s (o_move (vB a) rfl (wl_s (o_move (vB b) rfl (wl_s (o_callK (vs := [vB a, vB b]) enter_20 (c_mul (O := [] ++ O) a b w1103 s1104.lt) rfl s1104 fun v1109 w1110 s1111 m1112 k1113 r1114 => (?_)))))))
  obtain rfl := r1114
  refine wl_s (o_eql8 (gmul a b) (0 : UInt8) rfl rfl (wl_s (o_move (vB a) rfl (wl_s (o_eql8 a (0 : UInt8) rfl rfl (wl_s (o_move (Value.bool (a == (0 : UInt8))) rfl (?_))))))))
  cases hb1115 : (a == (0 : UInt8))
  · have hp1116 : a ≠ (0 : UInt8) := by first | simpa using hb1115 | (have e := hb1115; simp at e; omega)
    refine wl_t rfl (o_move (vB b) rfl (wl_t rfl (o_eql8 b (0 : UInt8) rfl rfl (wl_s (o_pickF (Value.bool (b == (0 : UInt8))) rfl rfl (wl_s (o_neqB ((gmul a b) == (0 : UInt8)) (b == (0 : UInt8)) Try.underlying4 rfl rfl (wl_nil (thenQ_n (?_))))))))))
    have hb1117 : (((gmul a b) == (0 : UInt8)) != (b == (0 : UInt8))) = false := (by rw [zero_iff (by assumption)]; simp)
    rw [hb1117]
    refine cw_cond false rfl rfl (fun h => by cases h) (fun _ => ?_)
    refine cw_skip (thenQ_n (?_))
    refine cw_seq (?_)
    refine cw_seq (?_)
    refine cw_region (by kernel_rfl) (wl_s (o_move (vB a) rfl (wl_s (o_eql8 a (0 : UInt8) rfl rfl (wl_nil (thenQ_n (?_)))))))
    have hb1118 : (a == (0 : UInt8)) = false := hb1115
    rw [hb1118]
    refine cw_cond false rfl rfl (fun h => by cases h) (fun _ => ?_)
    refine cw_skip (thenQ_n (?_))
    refine cw_seq (?_)
    refine cw_region (by kernel_rfl) (wl_s (o_move (vB ((inv a).1)) rfl (wl_s (o_callK (vs := [vB ((inv a).1)]) enter_18 (c_inv (O := [] ++ O) ((inv a).1) w1110 s1111.lt) rfl s1111 fun v1119 w1120 s1121 m1122 k1123 r1124 => (?_)))))
    obtain rfl := r1124
    refine wl_s (o_move (Value.tuple #[vB ((inv ((inv a).1)).1), vI ((inv ((inv a).1)).2)]) rfl (wl_s (o_extract (vB ((inv ((inv a).1)).1)) rfl rfl (wl_s (o_extract (vI ((inv ((inv a).1)).2)) rfl rfl (wl_s (o_assign (vB ((inv ((inv a).1)).1)) rfl (wl_s (o_assign (vI ((inv ((inv a).1)).2)) rfl (wl_nil (thenQ_n (?_))))))))))))
    refine cw_seq (?_)
    refine cw_region (by kernel_rfl) (wl_s (o_move (vI ((inv a).2)) rfl (wl_s (o_eql .i64 ((inv a).2) (0 : Int) rfl rfl (wl_s (o_move (Value.bool (((inv a).2) == (0 : Int))) rfl (?_)))))))
    have hb1125 : (((inv a).2) == (0 : Int)) = true := (by simp_all [gmul_eq_zero, inv_ok, inv_bad, gmul_ginv, ginv_ne, ginv_ginv])
    rw [hb1125]
    refine wl_t rfl (o_move (vB a) rfl (wl_t rfl (o_move (vB ((inv a).1)) rfl (wl_t rfl (o_callK (vs := [vB a, vB ((inv a).1)]) enter_20 (c_mul (O := [] ++ O) a ((inv a).1) w1120 s1121.lt) rfl s1121 fun v1126 w1127 s1128 m1129 k1130 r1131 => (?_))))))
    obtain rfl := r1131
    refine wl_t rfl (o_eql8 (gmul a ((inv a).1)) (1 : UInt8) rfl rfl (wl_s (o_pickT (Value.bool ((gmul a ((inv a).1)) == (1 : UInt8))) rfl rfl (wl_s (o_move (Value.bool ((gmul a ((inv a).1)) == (1 : UInt8))) rfl (?_))))))
    have hb1132 : ((gmul a ((inv a).1)) == (1 : UInt8)) = true := (by simp_all [gmul_eq_zero, inv_ok, inv_bad, gmul_ginv, ginv_ne, ginv_ginv])
    rw [hb1132]
    refine wl_t rfl (o_move (vI ((inv ((inv a).1)).2)) rfl (wl_t rfl (o_eql .i64 ((inv ((inv a).1)).2) (0 : Int) rfl rfl (wl_s (o_pickT (Value.bool (((inv ((inv a).1)).2) == (0 : Int))) rfl rfl (wl_s (o_move (Value.bool (((inv ((inv a).1)).2) == (0 : Int))) rfl (?_))))))))
    have hb1133 : (((inv ((inv a).1)).2) == (0 : Int)) = true := (by simp_all [gmul_eq_zero, inv_ok, inv_bad, gmul_ginv, ginv_ne, ginv_ginv])
    rw [hb1133]
    refine wl_t rfl (o_move (vB ((inv ((inv a).1)).1)) rfl (wl_t rfl (o_move (vB a) rfl (wl_t rfl (o_eql8 ((inv ((inv a).1)).1) a rfl rfl (wl_s (o_pickT (Value.bool (((inv ((inv a).1)).1) == a)) rfl rfl (wl_s (o_assign (Value.bool (((inv ((inv a).1)).1) == a)) rfl (wl_nil (thenQ_n (?_))))))))))))
    refine cw_ret (end_r rfl (res1 rfl rfl rfl) (?_))
    have e : true = (((inv ((inv a).1)).1) == a) := by simp_all [gmul_eq_zero, inv_ok, inv_bad, gmul_ginv, ginv_ne, ginv_ginv]
    exact ⟨_, rfl, s1128.keep, by rw [e]; exact rfl⟩
  · have hp1134 : a = (0 : UInt8) := by first | simpa using hb1115 | (have e := hb1115; simp at e; omega)
    refine wl_k rfl (wl_k rfl (wl_s (o_pickT (Value.bool true) rfl rfl (wl_s (o_neqB ((gmul a b) == (0 : UInt8)) true Try.underlying4 rfl rfl (wl_nil (thenQ_n (?_))))))))
    have hb1135 : (((gmul a b) == (0 : UInt8)) != true) = false := (by simp_all [gmul_eq_zero, inv_ok, inv_bad, gmul_ginv, ginv_ne, ginv_ginv])
    rw [hb1135]
    refine cw_cond false rfl rfl (fun h => by cases h) (fun _ => ?_)
    refine cw_skip (thenQ_n (?_))
    refine cw_seq (?_)
    refine cw_seq (?_)
    refine cw_region (by kernel_rfl) (wl_s (o_move (vB a) rfl (wl_s (o_eql8 a (0 : UInt8) rfl rfl (wl_nil (thenQ_n (?_)))))))
    have hb1136 : (a == (0 : UInt8)) = true := hb1115
    rw [hb1136]
    refine cw_cond true rfl rfl (fun _ => ?_) (fun h => by cases h)
    refine cw_seq (?_)
    refine cw_region (by kernel_rfl) (wl_s (o_move (vI ((inv a).2)) rfl (wl_s (o_eql .i64 ((inv a).2) (1 : Int) rfl rfl (wl_s (o_move (Value.bool (((inv a).2) == (1 : Int))) rfl (?_)))))))
    have hb1137 : (((inv a).2) == (1 : Int)) = true := (by simp_all [gmul_eq_zero, inv_ok, inv_bad, gmul_ginv, ginv_ne, ginv_ginv])
    rw [hb1137]
    refine wl_t rfl (o_move (vB ((inv a).1)) rfl (wl_t rfl (o_eql8 ((inv a).1) (0 : UInt8) rfl rfl (wl_s (o_pickT (Value.bool (((inv a).1) == (0 : UInt8))) rfl rfl (wl_s (o_assign (Value.bool (((inv a).1) == (0 : UInt8))) rfl (wl_nil (thenQ_n (?_))))))))))
    refine cw_ret (thenQ_r (end_r rfl (res1 rfl rfl rfl) (?_)))
    have e : true = (((inv a).1) == (0 : UInt8)) := by simp_all [gmul_eq_zero, inv_ok, inv_bad, gmul_ginv, ginv_ne, ginv_ginv]
    exact ⟨_, rfl, s1111.keep, by rw [e]; exact rfl⟩
set_option maxHeartbeats 4000000 in
set_option maxRecDepth 100000 in
theorem c_FieldTwo {O : List Nat} (a : UInt8) (b : UInt8) (w : World) (hO : ∀ b ∈ O, b < w.heap.size) : CallsK Try.prog 6 [vB a, vB b] w (fun v _ => v = .bool (true)) :=  by
  have s0 : St w O w [] := St.start hO
  refine callsK_of 43 Try.func6 rfl rfl (of_decide_eq_true rfl) (fun F0 => ?_)
  refine cw_seq (?_)
  refine cw_region (by kernel_rfl) (wl_s (o_assign (Value.bool false) rfl (wl_nil (thenQ_n (?_)))))
  refine cw_seq (?_)
  refine cw_seq (?_)
  refine cw_region (by kernel_rfl) (wl_s (o_callK (vs := []) enter_17 (c_sane7 (O := [] ++ O) w s0.lt) rfl s0 fun v1138 w1139 s1140 m1141 k1142 r1143 => (?_)))
  obtain rfl := r1143
  refine wl_s (o_not true rfl (wl_nil (thenQ_n (?_))))
  refine cw_cond false rfl rfl (fun h => by cases h) (fun _ => ?_)
  refine cw_skip (thenQ_n (?_))
  refine cw_seq (?_)
  refine cw_region (by kernel_rfl) (wl_s (o_move (vB a) rfl (wl_s (o_shl8 .u64 a 1 (by omega) rfl rfl (wl_s (o_assign (vB (a <<< UInt8.ofNat 1)) rfl (wl_nil (thenQ_n (?_)))))))))
  refine cw_seq (?_)
  refine cw_seq (?_)
  refine cw_region (by kernel_rfl) (wl_s (o_move (vB a) rfl (wl_s (o_geq .u8 (a.toNat : Int) ((128 : UInt8).toNat : Int) rfl rfl (wl_nil (thenQ_n (?_)))))))
  refine cw_cond (decide (((128 : UInt8).toNat : Int) ≤ (a.toNat : Int))) rfl rfl (fun hc1144 => ?_) (fun hc1144 => ?_)
  · have hp1145 : ((128 : UInt8).toNat : Int) ≤ (a.toNat : Int) := by first | simpa using hc1144 | (have e := hc1144; simp at e; omega)
    refine cw_region (by kernel_rfl) (wl_s (o_move (vB (a <<< UInt8.ofNat 1)) rfl (wl_s (o_xor8 (a <<< UInt8.ofNat 1) (27 : UInt8) rfl rfl (wl_s (o_assign (vB ((a <<< UInt8.ofNat 1) ^^^ (27 : UInt8))) rfl (wl_nil (thenQ_n (?_)))))))))
    refine cw_seq (?_)
    refine cw_region (by kernel_rfl) (wl_s (o_assign (vB (0 : UInt8)) rfl (wl_nil (thenQ_n (?_)))))
    refine cw_seq (?_)
    refine cw_region (by kernel_rfl) (wl_s (o_move (vB a) rfl (wl_s (o_assign (vB a) rfl (wl_nil (thenQ_n (?_)))))))
    refine cw_seq (?_)
    refine cw_seq (?_)
    refine cw_region (by kernel_rfl) (wl_s (o_assign (vI (0 : Int)) rfl (wl_nil (thenQ_n (?_)))))
    refine cw_block (?_)
    refine cw_loop (fun mI FI wI => ∃ (i : Nat) (B : List Nat), i ≤ 8 ∧ mI = 8 - i ∧ (∃ F1, FI = upds F1 [(0, vB a), (1, vB b), (5, vB ((a <<< UInt8.ofNat 1) ^^^ (27 : UInt8))), (6, vB (gm a b i)), (7, vB (xtn a i)), (8, vI ((i : Nat) : Int)), (43, undef)]) ∧ St w O wI B) (8 - (0)) ?_ ?_
    · exact ⟨(0), [], (by first | omega | (simp; done) | (simp; omega) | simp_all), rfl, ⟨_, upds_self _ ⟨rfl, rfl, rfl, (congrArg vB (by first | rfl | (rfl))), (congrArg vB (by first | rfl | (rfl))), (by first | rfl | exact congrArg (Value.int _) (by first | omega | (simp))), rfl, trivial⟩⟩, s1140⟩
    · intro ml0 F wl0 hI
      obtain ⟨i, Bl0, hr0_0, hm0, ⟨Fl0, rfl⟩, sl0⟩ := hI
      refine cw_seq (?_)
      refine cw_seq (?_)
      refine cw_region (by kernel_rfl) (wl_s (o_move (vI ((i : Nat) : Int)) rfl (wl_s (o_lss .i64 ((i : Nat) : Int) (8 : Int) rfl rfl (wl_nil (thenQ_n (?_)))))))
      refine cw_cond (decide (((i : Nat) : Int) < (8 : Int))) rfl rfl (fun hc1146 => ?_) (fun hc1146 => ?_)
      · have hp1147 : ((i : Nat) : Int) < (8 : Int) := by first | simpa using hc1146 | (have e := hc1146; simp at e; omega)
        refine cw_skip (thenQ_n (?_))
        refine cw_seq (?_)
        refine cw_block (?_)
        refine cw_seq (?_)
        refine cw_seq (?_)
        refine cw_region (by kernel_rfl) (wl_s (o_move (vB b) rfl (wl_s (o_move (vI ((i : Nat) : Int)) rfl (wl_s (o_shr8 .i64 b i (by omega) rfl rfl (wl_s (o_and8 (b >>> UInt8.ofNat i) (1 : UInt8) rfl rfl (wl_s (o_eql8 ((b >>> UInt8.ofNat i) &&& (1 : UInt8)) (1 : UInt8) rfl rfl (wl_nil (thenQ_n (?_)))))))))))))
        refine cw_cond (((b >>> UInt8.ofNat i) &&& (1 : UInt8)) == (1 : UInt8)) rfl rfl (fun hc1148 => ?_) (fun hc1148 => ?_)
        · have hp1149 : (b >>> UInt8.ofNat i) &&& (1 : UInt8) = (1 : UInt8) := by first | simpa using hc1148 | (have e := hc1148; simp at e; omega)
          refine cw_region (by kernel_rfl) (wl_s (o_move (vB (gm a b i)) rfl (wl_s (o_move (vB (xtn a i)) rfl (wl_s (o_xor8 (gm a b i) (xtn a i) rfl rfl (wl_s (o_assign (vB ((gm a b i) ^^^ (xtn a i))) rfl (wl_nil (thenQ_n (?_)))))))))))
          refine cw_region (by kernel_rfl) (wl_s (o_move (vB (xtn a i)) rfl (wl_s (o_callK (vs := [vB (xtn a i), vB (2 : UInt8)]) enter_20 (c_mul (O := Bl0 ++ O) (xtn a i) (2 : UInt8) wl0 sl0.lt) rfl sl0 fun v1150 w1151 s1152 m1153 k1154 r1155 => (?_)))))
          obtain rfl := r1155
          refine wl_s (o_assign (vB (gmul (xtn a i) (2 : UInt8))) rfl (wl_nil (blockQ_n (thenQ_n (?_)))))
          refine cw_region (by kernel_rfl) (wl_s (o_move (vI ((i : Nat) : Int)) rfl (wl_s (o_add .i64 ((i : Nat) : Int) (1 : Int) (((i + 1 : Nat) : Int)) rfl rfl (w64 (by omega) (by omega)) (wl_s (o_assign (vI ((i + 1 : Nat) : Int)) rfl (wl_nil (thenQ_n (?_)))))))))
          exact ⟨_, (by omega), (i + 1), Bl0, (by first | omega | (simp; done) | (simp; omega) | simp_all), rfl, ⟨_, upds_self _ ⟨rfl, rfl, rfl, (congrArg vB (by first | exact (gm_yes a b i (by assumption)).symm | exact (gm_no a b i (by assumption)).symm)), (congrArg vB (by rw [gmul_two]; rfl)), (by first | rfl | exact congrArg (Value.int _) (by first | omega | (simp))), rfl, trivial⟩⟩, s1152⟩
        · have hp1156 : (b >>> UInt8.ofNat i) &&& (1 : UInt8) ≠ (1 : UInt8) := by first | simpa using hc1148 | (have e := hc1148; simp at e; omega)
          refine cw_skip (thenQ_n (?_))
          refine cw_region (by kernel_rfl) (wl_s (o_move (vB (xtn a i)) rfl (wl_s (o_callK (vs := [vB (xtn a i), vB (2 : UInt8)]) enter_20 (c_mul (O := Bl0 ++ O) (xtn a i) (2 : UInt8) wl0 sl0.lt) rfl sl0 fun v1157 w1158 s1159 m1160 k1161 r1162 => (?_)))))
          obtain rfl := r1162
          refine wl_s (o_assign (vB (gmul (xtn a i) (2 : UInt8))) rfl (wl_nil (blockQ_n (thenQ_n (?_)))))
          refine cw_region (by kernel_rfl) (wl_s (o_move (vI ((i : Nat) : Int)) rfl (wl_s (o_add .i64 ((i : Nat) : Int) (1 : Int) (((i + 1 : Nat) : Int)) rfl rfl (w64 (by omega) (by omega)) (wl_s (o_assign (vI ((i + 1 : Nat) : Int)) rfl (wl_nil (thenQ_n (?_)))))))))
          exact ⟨_, (by omega), (i + 1), Bl0, (by first | omega | (simp; done) | (simp; omega) | simp_all), rfl, ⟨_, upds_self _ ⟨rfl, rfl, rfl, (congrArg vB (by first | exact (gm_yes a b i (by assumption)).symm | exact (gm_no a b i (by assumption)).symm)), (congrArg vB (by rw [gmul_two]; rfl)), (by first | rfl | exact congrArg (Value.int _) (by first | omega | (simp))), rfl, trivial⟩⟩, s1159⟩
      · have hp1163 : (8 : Int) ≤ ((i : Nat) : Int) := by first | simpa using hc1146 | (have e := hc1146; simp at e; omega)
        obtain rfl : i = 8 := by omega
        refine cw_exit (thenQ_x (thenQ_x (blockQ_x (thenQ_n (?_)))))
        refine cw_seq (?_)
        refine cw_region (by kernel_rfl) (wl_s (o_move (vB a) rfl (wl_s (o_callK (vs := [vB a, vB (2 : UInt8)]) enter_20 (c_mul (O := Bl0 ++ O) a (2 : UInt8) wl0 sl0.lt) rfl sl0 fun v1164 w1165 s1166 m1167 k1168 r1169 => (?_)))))
        obtain rfl := r1169
        refine wl_s (o_move (vB ((a <<< UInt8.ofNat 1) ^^^ (27 : UInt8))) rfl (wl_s (o_eql8 (gmul a (2 : UInt8)) ((a <<< UInt8.ofNat 1) ^^^ (27 : UInt8)) rfl rfl (wl_s (o_move (Value.bool ((gmul a (2 : UInt8)) == ((a <<< UInt8.ofNat 1) ^^^ (27 : UInt8)))) rfl (?_))))))
        have hb1170 : ((gmul a (2 : UInt8)) == ((a <<< UInt8.ofNat 1) ^^^ (27 : UInt8))) = true := (by rw [gmul_two, xt, if_pos (by assumption)]; exact beq_self_eq_true _)
        rw [hb1170]
        refine wl_t rfl (o_move (vB a) rfl (wl_t rfl (o_move (vB b) rfl (wl_t rfl (o_callK (vs := [vB a, vB b]) enter_20 (c_mul (O := Bl0 ++ O) a b w1165 s1166.lt) rfl s1166 fun v1171 w1172 s1173 m1174 k1175 r1176 => (?_))))))
        obtain rfl := r1176
        refine wl_t rfl (o_move (vB (gm a b 8)) rfl (wl_t rfl (o_eql8 (gmul a b) (gm a b 8) rfl rfl (wl_s (o_pickT (Value.bool ((gmul a b) == (gm a b 8))) rfl rfl (wl_s (o_assign (Value.bool ((gmul a b) == (gm a b 8))) rfl (wl_nil (thenQ_n (?_))))))))))
        refine cw_ret (end_r rfl (res1 rfl rfl rfl) (?_))
        have e : true = ((gmul a b) == (gm a b 8)) := by simp [gmul]
        exact ⟨_, rfl, s1173.keep, by rw [e]; exact rfl⟩
  · have hp1177 : (a.toNat : Int) < ((128 : UInt8).toNat : Int) := by first | simpa using hc1144 | (have e := hc1144; simp at e; omega)
    refine cw_skip (thenQ_n (?_))
    refine cw_seq (?_)
    refine cw_region (by kernel_rfl) (wl_s (o_assign (vB (0 : UInt8)) rfl (wl_nil (thenQ_n (?_)))))
    refine cw_seq (?_)
    refine cw_region (by kernel_rfl) (wl_s (o_move (vB a) rfl (wl_s (o_assign (vB a) rfl (wl_nil (thenQ_n (?_)))))))
    refine cw_seq (?_)
    refine cw_seq (?_)
    refine cw_region (by kernel_rfl) (wl_s (o_assign (vI (0 : Int)) rfl (wl_nil (thenQ_n (?_)))))
    refine cw_block (?_)
    refine cw_loop (fun mI FI wI => ∃ (i : Nat) (B : List Nat), i ≤ 8 ∧ mI = 8 - i ∧ (∃ F1, FI = upds F1 [(0, vB a), (1, vB b), (5, vB (a <<< UInt8.ofNat 1)), (6, vB (gm a b i)), (7, vB (xtn a i)), (8, vI ((i : Nat) : Int)), (43, undef)]) ∧ St w O wI B) (8 - (0)) ?_ ?_
    · exact ⟨(0), [], (by first | omega | (simp; done) | (simp; omega) | simp_all), rfl, ⟨_, upds_self _ ⟨rfl, rfl, rfl, (congrArg vB (by first | rfl | (rfl))), (congrArg vB (by first | rfl | (rfl))), (by first | rfl | exact congrArg (Value.int _) (by first | omega | (simp))), rfl, trivial⟩⟩, s1140⟩
    · intro ml0 F wl0 hI
      obtain ⟨i, Bl0, hr0_0, hm0, ⟨Fl0, rfl⟩, sl0⟩ := hI
      refine cw_seq (?_)
      refine cw_seq (?_)
      refine cw_region (by kernel_rfl) (wl_s (o_move (vI ((i : Nat) : Int)) rfl (wl_s (o_lss .i64 ((i : Nat) : Int) (8 : Int) rfl rfl (wl_nil (thenQ_n (?_)))))))
      refine cw_cond (decide (((i : Nat) : Int) < (8 : Int))) rfl rfl (fun hc1178 => ?_) (fun hc1178 => ?_)
      · have hp1179 : ((i : Nat) : Int) < (8 : Int) := by first | simpa using hc1178 | (have e := hc1178; simp at e; omega)
        refine cw_skip (thenQ_n (?_))
        refine cw_seq (?_)
        refine cw_block (?_)
        refine cw_seq (?_)
        refine cw_seq (?_)
        refine cw_region (by kernel_rfl) (wl_s (o_move (vB b) rfl (wl_s (o_move (vI ((i : Nat) : Int)) rfl (wl_s (o_shr8 .i64 b i (by omega) rfl rfl (wl_s (o_and8 (b >>> UInt8.ofNat i) (1 : UInt8) rfl rfl (wl_s (o_eql8 ((b >>> UInt8.ofNat i) &&& (1 : UInt8)) (1 : UInt8) rfl rfl (wl_nil (thenQ_n (?_)))))))))))))
        refine cw_cond (((b >>> UInt8.ofNat i) &&& (1 : UInt8)) == (1 : UInt8)) rfl rfl (fun hc1180 => ?_) (fun hc1180 => ?_)
        · have hp1181 : (b >>> UInt8.ofNat i) &&& (1 : UInt8) = (1 : UInt8) := by first | simpa using hc1180 | (have e := hc1180; simp at e; omega)
          refine cw_region (by kernel_rfl) (wl_s (o_move (vB (gm a b i)) rfl (wl_s (o_move (vB (xtn a i)) rfl (wl_s (o_xor8 (gm a b i) (xtn a i) rfl rfl (wl_s (o_assign (vB ((gm a b i) ^^^ (xtn a i))) rfl (wl_nil (thenQ_n (?_)))))))))))
          refine cw_region (by kernel_rfl) (wl_s (o_move (vB (xtn a i)) rfl (wl_s (o_callK (vs := [vB (xtn a i), vB (2 : UInt8)]) enter_20 (c_mul (O := Bl0 ++ O) (xtn a i) (2 : UInt8) wl0 sl0.lt) rfl sl0 fun v1182 w1183 s1184 m1185 k1186 r1187 => (?_)))))
          obtain rfl := r1187
          refine wl_s (o_assign (vB (gmul (xtn a i) (2 : UInt8))) rfl (wl_nil (blockQ_n (thenQ_n (?_)))))
          refine cw_region (by kernel_rfl) (wl_s (o_move (vI ((i : Nat) : Int)) rfl (wl_s (o_add .i64 ((i : Nat) : Int) (1 : Int) (((i + 1 : Nat) : Int)) rfl rfl (w64 (by omega) (by omega)) (wl_s (o_assign (vI ((i + 1 : Nat) : Int)) rfl (wl_nil (thenQ_n (?_)))))))))
          exact ⟨_, (by omega), (i + 1), Bl0, (by first | omega | (simp; done) | (simp; omega) | simp_all), rfl, ⟨_, upds_self _ ⟨rfl, rfl, rfl, (congrArg vB (by first | exact (gm_yes a b i (by assumption)).symm | exact (gm_no a b i (by assumption)).symm)), (congrArg vB (by rw [gmul_two]; rfl)), (by first | rfl | exact congrArg (Value.int _) (by first | omega | (simp))), rfl, trivial⟩⟩, s1184⟩
        · have hp1188 : (b >>> UInt8.ofNat i) &&& (1 : UInt8) ≠ (1 : UInt8) := by first | simpa using hc1180 | (have e := hc1180; simp at e; omega)
          refine cw_skip (thenQ_n (?_))
          refine cw_region (by kernel_rfl) (wl_s (o_move (vB (xtn a i)) rfl (wl_s (o_callK (vs := [vB (xtn a i), vB (2 : UInt8)]) enter_20 (c_mul (O := Bl0 ++ O) (xtn a i) (2 : UInt8) wl0 sl0.lt) rfl sl0 fun v1189 w1190 s1191 m1192 k1193 r1194 => (?_)))))
          obtain rfl := r1194
          refine wl_s (o_assign (vB (gmul (xtn a i) (2 : UInt8))) rfl (wl_nil (blockQ_n (thenQ_n (?_)))))
          refine cw_region (by kernel_rfl) (wl_s (o_move (vI ((i : Nat) : Int)) rfl (wl_s (o_add .i64 ((i : Nat) : Int) (1 : Int) (((i + 1 : Nat) : Int)) rfl rfl (w64 (by omega) (by omega)) (wl_s (o_assign (vI ((i + 1 : Nat) : Int)) rfl (wl_nil (thenQ_n (?_)))))))))
          exact ⟨_, (by omega), (i + 1), Bl0, (by first | omega | (simp; done) | (simp; omega) | simp_all), rfl, ⟨_, upds_self _ ⟨rfl, rfl, rfl, (congrArg vB (by first | exact (gm_yes a b i (by assumption)).symm | exact (gm_no a b i (by assumption)).symm)), (congrArg vB (by rw [gmul_two]; rfl)), (by first | rfl | exact congrArg (Value.int _) (by first | omega | (simp))), rfl, trivial⟩⟩, s1191⟩
      · have hp1195 : (8 : Int) ≤ ((i : Nat) : Int) := by first | simpa using hc1178 | (have e := hc1178; simp at e; omega)
        obtain rfl : i = 8 := by omega
        refine cw_exit (thenQ_x (thenQ_x (blockQ_x (thenQ_n (?_)))))
        refine cw_seq (?_)
        refine cw_region (by kernel_rfl) (wl_s (o_move (vB a) rfl (wl_s (o_callK (vs := [vB a, vB (2 : UInt8)]) enter_20 (c_mul (O := Bl0 ++ O) a (2 : UInt8) wl0 sl0.lt) rfl sl0 fun v1196 w1197 s1198 m1199 k1200 r1201 => (?_)))))
        obtain rfl := r1201
        refine wl_s (o_move (vB (a <<< UInt8.ofNat 1)) rfl (wl_s (o_eql8 (gmul a (2 : UInt8)) (a <<< UInt8.ofNat 1) rfl rfl (wl_s (o_move (Value.bool ((gmul a (2 : UInt8)) == (a <<< UInt8.ofNat 1))) rfl (?_))))))
        have hb1202 : ((gmul a (2 : UInt8)) == (a <<< UInt8.ofNat 1)) = true := (by rw [gmul_two, xt, if_neg (Int.not_le.2 (by assumption))]; exact beq_self_eq_true _)
        rw [hb1202]
        refine wl_t rfl (o_move (vB a) rfl (wl_t rfl (o_move (vB b) rfl (wl_t rfl (o_callK (vs := [vB a, vB b]) enter_20 (c_mul (O := Bl0 ++ O) a b w1197 s1198.lt) rfl s1198 fun v1203 w1204 s1205 m1206 k1207 r1208 => (?_))))))
        obtain rfl := r1208
        refine wl_t rfl (o_move (vB (gm a b 8)) rfl (wl_t rfl (o_eql8 (gmul a b) (gm a b 8) rfl rfl (wl_s (o_pickT (Value.bool ((gmul a b) == (gm a b 8))) rfl rfl (wl_s (o_assign (Value.bool ((gmul a b) == (gm a b 8))) rfl (wl_nil (thenQ_n (?_))))))))))
        refine cw_ret (end_r rfl (res1 rfl rfl rfl) (?_))
        have e : true = ((gmul a b) == (gm a b 8)) := by simp [gmul]
        exact ⟨_, rfl, s1205.keep, by rw [e]; exact rfl⟩

end Go.Proofs.Yteajcgfcnbdmgaa
