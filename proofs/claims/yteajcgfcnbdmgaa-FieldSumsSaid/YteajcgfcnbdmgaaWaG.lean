/- Walks, printed by gen.py. -/
import Derived.Test.YteajcgfcnbdmgaaWaF
import Derived.Test.YteajcgfcnbdmgaaMaD
namespace Go.Proofs.Yteajcgfcnbdmgaa
open Go.Fw Go.RowKit

set_option maxHeartbeats 4000000 in
set_option maxRecDepth 100000 in
theorem c_FieldThroughSpec {O : List Nat} (l_v : Value) (l : List UInt8) (xs_v : Value) (xs : List UInt8) (ys_v : Value) (ys : List UInt8) (at_ : UInt8) (w : World) (h_l : RdL Enc.u8 w O l_v l) (h_xs : RdL Enc.u8 w O xs_v xs) (h_ys : RdL Enc.u8 w O ys_v ys) (hO : ∀ b ∈ O, b < w.heap.size) : CallsK Try.prog 4 [l_v, xs_v, ys_v, vB at_] w (fun v _ => v = .bool (true)) :=  by
  have lim_l := h_l.len_le
  have h_l : RdL Enc.u8 w ([] ++ O) l_v l := h_l
  have lim_xs := h_xs.len_le
  have h_xs : RdL Enc.u8 w ([] ++ O) xs_v xs := h_xs
  have lim_ys := h_ys.len_le
  have h_ys : RdL Enc.u8 w ([] ++ O) ys_v ys := h_ys
  have s0 : St w O w [] := St.start hO
  refine callsK_of 87 Try.func4 rfl rfl (of_decide_eq_true rfl) (fun F0 => ?_)
  refine cw_seq (?_)
  refine cw_region (by kernel_rfl) (wl_s (o_assign (Value.bool false) rfl (wl_nil (thenQ_n (?_)))))
  refine cw_seq (?_)
  refine cw_seq (?_)
  refine cw_region (by kernel_rfl) (wl_s (o_callK (vs := []) enter_17 (c_sane7 (O := [] ++ O) w s0.lt) rfl s0 fun v1209 w1210 s1211 m1212 k1213 r1214 => (?_)))
  obtain rfl := r1214
  have h_l := h_l.mv m1212
  have h_xs := h_xs.mv m1212
  have h_ys := h_ys.mv m1212
  refine wl_s (o_not true rfl (wl_nil (thenQ_n (?_))))
  refine cw_cond false rfl rfl (fun h => by cases h) (fun _ => ?_)
  refine cw_skip (thenQ_n (?_))
  refine cw_seq (?_)
  refine cw_seq (?_)
  refine cw_region (by kernel_rfl) (wl_s (o_move (l_v) rfl (wl_s (o_lenR Try.underlying28 rfl h_l (wl_s (o_gtr .i64 (l.length : Int) (40 : Int) rfl rfl (wl_s (o_move (Value.bool (decide ((40 : Int) < (l.length : Int)))) rfl (?_)))))))))
  cases hb1215 : (decide ((40 : Int) < (l.length : Int)))
  · have hp1216 : (l.length : Int) ≤ (40 : Int) := by first | simpa using hb1215 | (have e := hb1215; simp at e; omega)
    refine wl_t rfl (o_move (xs_v) rfl (wl_t rfl (o_lenR Try.underlying28 rfl h_xs (wl_t rfl (o_gtr .i64 (xs.length : Int) (12 : Int) rfl rfl (wl_s (o_pickF (Value.bool (decide ((12 : Int) < (xs.length : Int)))) rfl rfl (wl_s (o_move (Value.bool (decide ((12 : Int) < (xs.length : Int)))) rfl (?_))))))))))
    cases hb1217 : (decide ((12 : Int) < (xs.length : Int)))
    · have hp1218 : (xs.length : Int) ≤ (12 : Int) := by first | simpa using hb1217 | (have e := hb1217; simp at e; omega)
      refine wl_t rfl (o_move (ys_v) rfl (wl_t rfl (o_lenR Try.underlying28 rfl h_ys (wl_t rfl (o_gtr .i64 (ys.length : Int) (20 : Int) rfl rfl (wl_s (o_pickF (Value.bool (decide ((20 : Int) < (ys.length : Int)))) rfl rfl (wl_nil (thenQ_n (?_))))))))))
      refine cw_cond (decide ((20 : Int) < (ys.length : Int))) rfl rfl (fun hc1219 => ?_) (fun hc1219 => ?_)
      · have hp1220 : (20 : Int) < (ys.length : Int) := by first | simpa using hc1219 | (have e := hc1219; simp at e; omega)
        refine cw_seq (?_)
        refine cw_region (by kernel_rfl) (wl_s (o_assign (Value.bool true) rfl (wl_nil (thenQ_n (?_)))))
        refine cw_ret (thenQ_r (end_r rfl (res1 rfl rfl rfl) (?_)))
        exact ⟨_, rfl, s1211.keep, rfl⟩
      · have hp1221 : (ys.length : Int) ≤ (20 : Int) := by first | simpa using hc1219 | (have e := hc1219; simp at e; omega)
        refine cw_skip (thenQ_n (?_))
        refine cw_seq (?_)
        refine cw_region (by kernel_rfl) (wl_s (o_move (xs_v) rfl (wl_s (o_move (ys_v) rfl (wl_s (o_move (vB at_) rfl (wl_s (o_callK (vs := [xs_v, ys_v, vB at_]) enter_22 (c_through (O := [] ++ O) xs_v xs ys_v ys at_ w1210 h_xs h_ys (by first | omega | assumption | (simp; done)) s1211.lt) rfl s1211 fun v1222 w1223 s1224 m1225 k1226 r1227 => (?_)))))))))
        obtain rfl := r1227
        have h_l := h_l.mv m1225
        have h_xs := h_xs.mv m1225
        have h_ys := h_ys.mv m1225
        refine wl_s (o_move (Value.tuple #[vB ((through xs ys at_).1), vI ((through xs ys at_).2)]) rfl (wl_s (o_extract (vB ((through xs ys at_).1)) rfl rfl (wl_s (o_extract (vI ((through xs ys at_).2)) rfl rfl (wl_s (o_assign (vB ((through xs ys at_).1)) rfl (wl_s (o_assign (vI ((through xs ys at_).2)) rfl (wl_nil (thenQ_n (?_))))))))))))
        refine cw_seq (?_)
        refine cw_region (by kernel_rfl) (wl_s (o_move (xs_v) rfl (wl_s (o_move (ys_v) rfl (wl_s (o_move (vB at_) rfl (wl_s (o_callK (vs := [xs_v, ys_v, vB at_]) enter_23 (c_refThrough (O := [] ++ O) xs_v xs ys_v ys at_ w1223 h_xs h_ys s1224.lt) rfl s1224 fun v1228 w1229 s1230 m1231 k1232 r1233 => (?_)))))))))
        obtain rfl := r1233
        have h_l := h_l.mv m1231
        have h_xs := h_xs.mv m1231
        have h_ys := h_ys.mv m1231
        refine wl_s (o_move (Value.tuple #[vB ((refThrough xs ys at_).1), vI ((refThrough xs ys at_).2)]) rfl (wl_s (o_extract (vB ((refThrough xs ys at_).1)) rfl rfl (wl_s (o_extract (vI ((refThrough xs ys at_).2)) rfl rfl (wl_s (o_assign (vB ((refThrough xs ys at_).1)) rfl (wl_s (o_assign (vI ((refThrough xs ys at_).2)) rfl (wl_nil (thenQ_n (?_))))))))))))
        refine cw_seq (?_)
        refine cw_region (by kernel_rfl) (wl_s (o_move (xs_v) rfl (wl_s (o_move (ys_v) rfl (wl_s (o_callK (vs := [xs_v, ys_v]) enter_24 (c_coeff (O := [] ++ O) xs_v xs ys_v ys w1229 h_xs h_ys (by first | omega | assumption | (simp; done)) s1230.lt) rfl s1230 fun v1234 w1235 s1236 m1237 k1238 r1239 => (?_)))))))
        obtain ⟨x1240, rfl, hl1241⟩ := r1239
        have := hl1241.len_le
        have h_l := h_l.mv m1237
        have h_xs := h_xs.mv m1237
        have h_ys := h_ys.mv m1237
        refine wl_s (o_move (Value.tuple #[x1240, vI ((coeff xs ys).2)]) rfl (wl_s (o_extract (x1240) rfl rfl (wl_s (o_extract (vI ((coeff xs ys).2)) rfl rfl (wl_s (o_assign (x1240) rfl (wl_s (o_assign (vI ((coeff xs ys).2)) rfl (wl_nil (thenQ_n (?_))))))))))))
        refine cw_seq (?_)
        refine cw_region (by kernel_rfl) (wl_s (o_move (xs_v) rfl (wl_s (o_move (ys_v) rfl (wl_s (o_callK (vs := [xs_v, ys_v]) enter_25 (c_refCoeff (O := [] ++ O) xs_v xs ys_v ys w1235 h_xs h_ys (by first | omega | assumption | (simp; done)) s1236.lt) rfl s1236 fun v1242 w1243 s1244 m1245 k1246 r1247 => (?_)))))))
        obtain ⟨x1248, rfl, hl1249⟩ := r1247
        have := hl1249.len_le
        have h_l := h_l.mv m1245
        have h_xs := h_xs.mv m1245
        have h_ys := h_ys.mv m1245
        have hl1241 := hl1241.mv m1245
        refine wl_s (o_move (Value.tuple #[x1248, vI ((refCoeff xs ys).2)]) rfl (wl_s (o_extract (x1248) rfl rfl (wl_s (o_extract (vI ((refCoeff xs ys).2)) rfl rfl (wl_s (o_assign (x1248) rfl (wl_s (o_assign (vI ((refCoeff xs ys).2)) rfl (wl_nil (thenQ_n (?_))))))))))))
        refine cw_seq (?_)
        refine cw_region (by kernel_rfl) (wl_s (o_move (l_v) rfl (wl_s (o_move (vB at_) rfl (wl_s (o_callK (vs := [l_v, vB at_]) enter_26 (c_eval (O := [] ++ O) l_v l at_ w1243 h_l s1244.lt) rfl s1244 fun v1250 w1251 s1252 m1253 k1254 r1255 => (?_)))))))
        obtain rfl := r1255
        have h_l := h_l.mv m1253
        have h_xs := h_xs.mv m1253
        have h_ys := h_ys.mv m1253
        have hl1241 := hl1241.mv m1253
        have hl1249 := hl1249.mv m1253
        refine wl_s (o_move (l_v) rfl (wl_s (o_move (vB at_) rfl (wl_s (o_callK (vs := [l_v, vB at_]) enter_27 (c_refEval (O := [] ++ O) l_v l at_ w1251 h_l s1252.lt) rfl s1252 fun v1256 w1257 s1258 m1259 k1260 r1261 => (?_))))))
        obtain rfl := r1261
        have h_l := h_l.mv m1259
        have h_xs := h_xs.mv m1259
        have h_ys := h_ys.mv m1259
        have hl1241 := hl1241.mv m1259
        have hl1249 := hl1249.mv m1259
        refine wl_s (o_eql8 (pev l at_) (refEval l at_) rfl rfl (wl_s (o_move (Value.bool ((pev l at_) == (refEval l at_))) rfl (?_))))
        have hb1262 : ((pev l at_) == (refEval l at_)) = true := (by rw [refEval_eq]; exact beq_self_eq_true _)
        rw [hb1262]
        refine wl_t rfl (o_move (vB ((through xs ys at_).1)) rfl (wl_t rfl (o_move (vB ((refThrough xs ys at_).1)) rfl (wl_t rfl (o_eql8 ((through xs ys at_).1) ((refThrough xs ys at_).1) rfl rfl (wl_s (o_pickT (Value.bool (((through xs ys at_).1) == ((refThrough xs ys at_).1))) rfl rfl (wl_s (o_move (Value.bool (((through xs ys at_).1) == ((refThrough xs ys at_).1))) rfl (?_))))))))))
        have hb1263 : (((through xs ys at_).1) == ((refThrough xs ys at_).1)) = true := (by rw [refThrough_eq]; exact beq_self_eq_true _)
        rw [hb1263]
        refine wl_t rfl (o_move (vI ((through xs ys at_).2)) rfl (wl_t rfl (o_move (vI ((refThrough xs ys at_).2)) rfl (wl_t rfl (o_eql .i64 ((through xs ys at_).2) ((refThrough xs ys at_).2) rfl rfl (wl_s (o_pickT (Value.bool (((through xs ys at_).2) == ((refThrough xs ys at_).2))) rfl rfl (wl_s (o_move (Value.bool (((through xs ys at_).2) == ((refThrough xs ys at_).2))) rfl (?_))))))))))
        have hb1264 : (((through xs ys at_).2) == ((refThrough xs ys at_).2)) = true := (by rw [refThrough_eq]; exact beq_self_eq_true _)
        rw [hb1264]
        refine wl_t rfl (o_move (x1240) rfl (wl_t rfl (o_bytes Try.underlying28 Try.underlying5 Try.underlying9 rfl hl1241 (wl_t rfl (o_move (x1248) rfl (wl_t rfl (o_bytes Try.underlying28 Try.underlying5 Try.underlying9 rfl hl1249 (wl_t rfl (o_eqlS ((coeff xs ys).1) ((refCoeff xs ys).1) rfl rfl (wl_s (o_pickT (Value.bool (((coeff xs ys).1) == ((refCoeff xs ys).1))) rfl rfl (wl_s (o_move (Value.bool (((coeff xs ys).1) == ((refCoeff xs ys).1))) rfl (?_))))))))))))))
        have hb1265 : (((coeff xs ys).1) == ((refCoeff xs ys).1)) = true := (by rw [refCoeff_eq]; exact beq_self_eq_true _)
        rw [hb1265]
        refine wl_t rfl (o_move (vI ((coeff xs ys).2)) rfl (wl_t rfl (o_move (vI ((refCoeff xs ys).2)) rfl (wl_t rfl (o_eql .i64 ((coeff xs ys).2) ((refCoeff xs ys).2) rfl rfl (wl_s (o_pickT (Value.bool (((coeff xs ys).2) == ((refCoeff xs ys).2))) rfl rfl (wl_s (o_assign (Value.bool (((coeff xs ys).2) == ((refCoeff xs ys).2))) rfl (wl_nil (thenQ_n (?_))))))))))))
        refine cw_ret (end_r rfl (res1 rfl rfl rfl) (?_))
        have e : true = (((coeff xs ys).2) == ((refCoeff xs ys).2)) := by rw [refCoeff_eq]; simp
        exact ⟨_, rfl, s1258.keep, by rw [e]; exact rfl⟩
    · have hp1266 : (12 : Int) < (xs.length : Int) := by first | simpa using hb1217 | (have e := hb1217; simp at e; omega)
      refine wl_k rfl (wl_k rfl (wl_k rfl (wl_s (o_pickT (Value.bool true) rfl rfl (wl_nil (thenQ_n (?_)))))))
      refine cw_cond true rfl rfl (fun _ => ?_) (fun h => by cases h)
      refine cw_seq (?_)
      refine cw_region (by kernel_rfl) (wl_s (o_assign (Value.bool true) rfl (wl_nil (thenQ_n (?_)))))
      refine cw_ret (thenQ_r (end_r rfl (res1 rfl rfl rfl) (?_)))
      exact ⟨_, rfl, s1211.keep, rfl⟩
  · have hp1267 : (40 : Int) < (l.length : Int) := by first | simpa using hb1215 | (have e := hb1215; simp at e; omega)
    refine wl_k rfl (wl_k rfl (wl_k rfl (wl_s (o_pickT (Value.bool true) rfl rfl (wl_s (o_move (Value.bool true) rfl (wl_k rfl (wl_k rfl (wl_k rfl (wl_s (o_pickT (Value.bool true) rfl rfl (wl_nil (thenQ_n (?_))))))))))))))
    refine cw_cond true rfl rfl (fun _ => ?_) (fun h => by cases h)
    refine cw_seq (?_)
    refine cw_region (by kernel_rfl) (wl_s (o_assign (Value.bool true) rfl (wl_nil (thenQ_n (?_)))))
    refine cw_ret (thenQ_r (end_r rfl (res1 rfl rfl rfl) (?_)))
    exact ⟨_, rfl, s1211.keep, rfl⟩

end Go.Proofs.Yteajcgfcnbdmgaa
