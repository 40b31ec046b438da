/- Walks, printed by gen.py. -/
import Derived.Test.YtjpniibleelgiaaXb
import Derived.Test.YtjpniibleelgiaaFwZ
import Derived.Test.YtjpniibleelgiaaMdB
set_option linter.unusedSimpArgs false
set_option linter.unusedVariables false
namespace Go.Proofs.Ytjpniibleelgiaa
open Go.Fw Go.RowKit

set_option maxHeartbeats 4000000 in
set_option maxRecDepth 100000 in
theorem c_state {O : List Nat} (l_v : Value) (l : List DeviceOp) (copies : Int) (first : Int) (w : World) (h_l : RdL Enc.devop w O l_v l) (hO : ∀ b ∈ O, b < w.heap.size) : CallsK Try.prog 24 [l_v, vI copies, vI first] w (fun v w' => ∃ (x0 : Value), v = .tuple #[x0, vI ((stateM l copies first).2)] ∧ RdL Enc.holding w' (O) x0 ((stateM l copies first).1)) :=  by
 have lim_l := h_l.len_le
 have h_l : RdL Enc.devop w ([] ++ O) l_v l := h_l
 have s0 : St w O w [] := St.start hO
 refine callsK_of 62 Try.func24 rfl rfl (of_decide_eq_true rfl) (fun F0 => ?_)
 refine cw_seq (?_)
 refine cw_region (by kernel_rfl) (wl_s (o_boxR (E := Enc.int) (vI first) ([vI first]) first rfl rfl rfl s0 fun a1218 w1219 s1220 m1221 k1222 hp1223 => (?_)))
 have h_l := h_l.mv m1221
 refine wl_s (o_assign (.slice none 0 0) rfl (wl_s (o_assign (vI (0 : Int)) rfl (wl_nil (thenQ_n (?_))))))
 refine cw_seq (?_)
 refine cw_seq (?_)
 refine cw_region (by kernel_rfl) (wl_s (o_move (l_v) rfl (wl_s (o_callK (vs := [l_v]) enter_29 (c_check42 (O := [] ++ O) l_v l w1219 h_l s1220.lt) rfl s1220 fun v1224 w1225 s1226 m1227 k1228 r1229 => (?_)))))
 obtain rfl := r1229
 have h_l := h_l.mv m1227
 have hp1223 := hp1223.mv m1227
 refine wl_s (o_neq .i64 (checkM l) (0 : Int) rfl rfl (wl_nil (thenQ_n (?_))))
 refine cw_cond ((checkM l) != (0 : Int)) rfl rfl (fun hc1230 => ?_) (fun hc1230 => ?_)
 ·have hp1231 : checkM l ≠ (0 : Int) := by first | simpa using hc1230 | (have e := hc1230; simp at e; omega)
  refine cw_seq (?_)
  refine cw_region (by kernel_rfl) (wl_s (o_assign (.slice none 0 0) rfl (wl_s (o_assign (vI (420 : Int)) rfl (wl_nil (thenQ_n (?_)))))))
  refine cw_ret (thenQ_r (end_r rfl (res2 rfl rfl rfl rfl) (?_)))
  have e1232 : ((stateM l copies first).1) = ([]) := by first | exact congrArg (fun p => p.1) (show stateM l copies first = _ from state_1 (by assumption)) | exact congrArg (fun p => p.1) (show stateM l copies first = _ from state_2 (by assumption) (by assumption)) | exact congrArg (fun p => p.1) (show stateM l copies first = _ from state_3 (by assumption) (by assumption)) | exact congrArg (fun p => p.1) (show stateM l copies first = _ from state_4 (by assumption) (by assumption)) | exact congrArg (fun p => p.1) (show stateM l copies first = _ from state_5 (by assumption) (by assumption) (by assumption) (by assumption))
  have e1233 : ((stateM l copies first).2) = (420 : Int) := by first | exact congrArg (fun p => p.2) (show stateM l copies first = _ from state_1 (by assumption)) | exact congrArg (fun p => p.2) (show stateM l copies first = _ from state_2 (by assumption) (by assumption)) | exact congrArg (fun p => p.2) (show stateM l copies first = _ from state_3 (by assumption) (by assumption)) | exact congrArg (fun p => p.2) (show stateM l copies first = _ from state_4 (by assumption) (by assumption)) | exact congrArg (fun p => p.2) (show stateM l copies first = _ from state_5 (by assumption) (by assumption) (by assumption) (by assumption))
  exact ⟨_, rfl, s1226.keep, by rw [e1232, e1233]; exact ⟨.slice none 0 0, rfl, RdL.nil _ _ _⟩⟩
 ·have hp1234 : checkM l = (0 : Int) := by first | simpa using hc1230 | (have e := hc1230; simp at e; omega)
  have hchk : checkM l = 0 := hp1234
  have hchk_1 := (check_ok hchk).1
  refine cw_skip (thenQ_n (?_))
  refine cw_seq (?_)
  refine cw_seq (?_)
  refine cw_region (by kernel_rfl) (wl_s (o_move (vI copies) rfl (wl_s (o_lss .i64 copies (0 : Int) rfl rfl (wl_s (o_move (Value.bool (decide (copies < (0 : Int)))) rfl (?_)))))))
  cases hb1235 : (decide (copies < (0 : Int)))
  ·have hp1236 : (0 : Int) ≤ copies := by first | simpa using hb1235 | (have e := hb1235; simp at e; omega)
   refine wl_t rfl (o_move (vI copies) rfl (wl_t rfl (o_gtr .i64 copies (1024 : Int) rfl rfl (wl_s (o_pickF (Value.bool (decide ((1024 : Int) < copies))) rfl rfl (wl_s (o_move (Value.bool (decide ((1024 : Int) < copies))) rfl (?_))))))))
   cases hb1237 : (decide ((1024 : Int) < copies))
   ·have hp1238 : copies ≤ (1024 : Int) := by first | simpa using hb1237 | (have e := hb1237; simp at e; omega)
    refine wl_t rfl (o_loadI Try.underlying3 rfl rfl hp1223 (wl_t rfl (o_callK (vs := [vI first]) enter_63 (c_isDevice (O := [] ++ O) first w1225 s1226.lt) rfl s1226 fun v1239 w1240 s1241 m1242 k1243 r1244 => (?_))))
    obtain rfl := r1244
    have h_l := h_l.mv m1242
    have hp1223 := hp1223.mv m1242
    refine wl_t rfl (o_not (isDevM first) rfl (wl_s (o_pickF (Value.bool (!(isDevM first))) rfl rfl (wl_nil (thenQ_n (?_))))))
    refine cw_cond (!(isDevM first)) rfl rfl (fun hc1245 => ?_) (fun hc1245 => ?_)
    ·have hp1246 : (isDevM first) = false := by first | simpa using hc1245 | (have e := hc1245; rw [Bool.not_eq_true'] at e; exact e) | (have e := hc1245; rw [Bool.not_eq_false'] at e; exact e) | (have e := hc1245; simp at e; omega)
     refine cw_seq (?_)
     refine cw_region (by kernel_rfl) (wl_s (o_assign (.slice none 0 0) rfl (wl_s (o_assign (vI (1 : Int)) rfl (wl_nil (thenQ_n (?_)))))))
     refine cw_ret (thenQ_r (end_r rfl (res2 rfl rfl rfl rfl) (?_)))
     have e1247 : ((stateM l copies first).1) = ([]) := by first | exact congrArg (fun p => p.1) (show stateM l copies first = _ from state_1 (by assumption)) | exact congrArg (fun p => p.1) (show stateM l copies first = _ from state_2 (by assumption) (by assumption)) | exact congrArg (fun p => p.1) (show stateM l copies first = _ from state_3 (by assumption) (by assumption)) | exact congrArg (fun p => p.1) (show stateM l copies first = _ from state_4 (by assumption) (by assumption)) | exact congrArg (fun p => p.1) (show stateM l copies first = _ from state_5 (by assumption) (by assumption) (by assumption) (by assumption))
     have e1248 : ((stateM l copies first).2) = (1 : Int) := by first | exact congrArg (fun p => p.2) (show stateM l copies first = _ from state_1 (by assumption)) | exact congrArg (fun p => p.2) (show stateM l copies first = _ from state_2 (by assumption) (by assumption)) | exact congrArg (fun p => p.2) (show stateM l copies first = _ from state_3 (by assumption) (by assumption)) | exact congrArg (fun p => p.2) (show stateM l copies first = _ from state_4 (by assumption) (by assumption)) | exact congrArg (fun p => p.2) (show stateM l copies first = _ from state_5 (by assumption) (by assumption) (by assumption) (by assumption))
     exact ⟨_, rfl, s1241.keep, by rw [e1247, e1248]; exact ⟨.slice none 0 0, rfl, RdL.nil _ _ _⟩⟩
    ·have hp1249 : (isDevM first) = true := by first | simpa using hc1245 | (have e := hc1245; rw [Bool.not_eq_true'] at e; exact e) | (have e := hc1245; rw [Bool.not_eq_false'] at e; exact e) | (have e := hc1245; simp at e; omega)
     refine cw_skip (thenQ_n (?_))
     refine cw_seq (?_)
     refine cw_region (by kernel_rfl) (wl_s (o_makeMapV vI encv_holding s1241 fun b1250 w1251 e1256 s1252 m1253 k1254 bx1255 => (?_)))
     clear e1256
     have h_l := h_l.mv m1253
     have hp1223 := hp1223.mv m1253
     refine wl_s (o_alloc [.map none] z_97 rfl s1252 fun b1257 w1258 e1263 s1259 m1260 k1261 bx1262 => (?_))
     have ne1264 : NeB b1250 b1257 := by show b1250 ≠ b1257; have := bx1255.lt; omega
     clear e1263
     have h_l := h_l.mv m1260
     have hp1223 := hp1223.mv m1260
     have bx1255 := bx1255.keep k1261 (by simp)
     refine wl_n (o_store1 (Value.map (some b1250)) rfl rfl rfl s_97 (by repeat (first | assumption | constructor)) bx1262 (of_decide_eq_true rfl) s1259 fun w1265 s1266 m1267 k1268 bx1269 => (?_))
     have h_l := h_l.mv m1267
     have hp1223 := hp1223.mv m1267
     have bx1255 := bx1255.keep k1268 (nin1 ne1264)
     refine wl_nil (thenQ_n (?_))
     refine cw_seq (?_)
     refine cw_region (by kernel_rfl) (wl_s (o_makeFunc (first := []) (captured := [.tmp 8, .tmp 5]) [] [Value.pointer (some ⟨b1257, 0, none⟩), Value.pointer (some a1218)] rfl rfl (wl_s (o_assign (Value.func (.func 64) #[] #[Value.pointer (some ⟨b1257, 0, none⟩), Value.pointer (some a1218)]) rfl (wl_nil (thenQ_n (?_)))))))
     refine cw_seq (?_)
     refine cw_seq (?_)
     refine cw_region (by kernel_rfl) (wl_s (o_move (l_v) rfl (wl_s (o_lenR Try.underlying26 rfl h_l (wl_s (o_move (vI (0 : Int)) rfl (wl_nil (thenQ_n (?_)))))))))
     refine cw_block (?_)
     refine cw_loop (fun mI FI wI => ∃ (k : Nat) (B : List Nat), k ≤ l.length ∧ mI = l.length - k ∧ (∃ F1, FI = upds F1 [(1, vI copies), (5, Value.pointer (some a1218)), (6, Value.slice none 0 0), (8, Value.pointer (some ⟨b1257, 0, none⟩)), (9, Value.func (.func 64) #[] #[Value.pointer (some ⟨b1257, 0, none⟩), Value.pointer (some a1218)]), (31, l_v), (32, vI (l.length : Int)), (33, vI ((k : Nat) : Int)), (62, undef)]) ∧ St w O wI B ∧ PT Enc.int wI (B ++ O) (.pointer (some a1218)) (first) ∧ RdL Enc.devop wI (B ++ O) (l_v) (l) ∧ MapV vI encv_holding wI b1250 (mapM l first k) ∧ b1250 ∈ B ∧ Box wI b1257 97 [Value.map (some b1250)] ∧ b1257 ∈ B) (l.length - (0)) ?_ ?_
     ·exact ⟨(0), (b1257 :: (b1250 :: [])), (by first | omega | (simp; done) | (simp; omega) | simp_all), rfl, ⟨_, upds_self _ ⟨rfl, rfl, rfl, rfl, rfl, rfl, rfl, (by first | rfl | exact congrArg (Value.int _) (by first | omega | (simp))), rfl, trivial⟩⟩, s1266, hp1223, h_l, (by rw [show mapM l first (0) = noM from rfl]; exact bx1255), (by first | assumption | (repeat (first | exact List.mem_cons_self | assumption | apply List.mem_cons_of_mem)) | (apply_assumption; assumption)), bx1269, (by first | assumption | (repeat (first | exact List.mem_cons_self | assumption | apply List.mem_cons_of_mem)) | (apply_assumption; assumption))⟩
     ·intro ml0 F wl0 hI
      clear hp1223 h_l bx1269
      obtain ⟨k, Bl0, hr0_0, hm0, ⟨Fl0, rfl⟩, sl0, hp1223, h_l, hbx_0_b1250, hin_b1250, bx1269, hin_b1257⟩ := hI
      refine cw_seq (?_)
      refine cw_region (by kernel_rfl) (wl_s (o_lss .i64 ((k : Nat) : Int) (l.length : Int) rfl rfl (wl_nil (thenQ_n (?_)))))
      refine cw_seq (?_)
      refine cw_cond (decide (((k : Nat) : Int) < (l.length : Int))) rfl rfl (fun hc1270 => ?_) (fun hc1270 => ?_)
      ·have hp1271 : ((k : Nat) : Int) < (l.length : Int) := by first | simpa using hc1270 | (have e := hc1270; simp at e; omega)
       refine cw_skip (thenQ_n (?_))
       refine cw_seq (?_)
       refine cw_block (?_)
       refine cw_seq (?_)
       refine cw_region (by kernel_rfl) (wl_s (o_idx Try.underlying26 s_40 .i64 ((k : Nat) : Int) k rfl rfl rfl h_l (by omega) fun a1272 hp1273 => (wl_s (o_loadS Try.underlying40 rfl s_40 rfl hp1273 fun cs1274 hs1275 => (?_)))))
       obtain rfl := hs1275
       refine wl_s (o_alloc [vI (0 : Int), vI (0 : Int), vI (0 : Int), vI (0 : Int), vI (0 : Int), vI (0 : Int)] z_40 rfl sl0 fun b1276 w1277 e1282 s1278 m1279 k1280 bx1281 => (?_))
       have ne1283 : NeB b1250 b1276 := by show b1250 ≠ b1276; have := hbx_0_b1250.lt; omega
       have ne1284 : NeB b1257 b1276 := by show b1257 ≠ b1276; have := bx1269.lt; omega
       clear e1282
       have hp1223 := hp1223.mv m1279
       have h_l := h_l.mv m1279
       have hp1273 := hp1273.mv m1279
       have hbx_0_b1250 := hbx_0_b1250.keep k1280 (by simp)
       have bx1269 := bx1269.keep k1280 (by simp)
       refine wl_n (o_store (vs := [vI ((l[k]!).device), vI ((l[k]!).no), vI ((l[k]!).kind), vI ((l[k]!).copy), vI ((l[k]!).to), vI ((l[k]!).token)]) (.agg #[vI ((l[k]!).device), vI ((l[k]!).no), vI ((l[k]!).kind), vI ((l[k]!).copy), vI ((l[k]!).to), vI ((l[k]!).token)]) rfl rfl rfl s_40 (fun u hu => by simp only [List.mem_cons, List.not_mem_nil, or_false] at hu; rcases hu with rfl | rfl | rfl | rfl | rfl | rfl <;> first | rfl) (by repeat (first | assumption | constructor)) bx1281 (of_decide_eq_true rfl) s1278 fun w1285 s1286 m1287 k1288 bx1289 => (?_))
       have hp1223 := hp1223.mv m1287
       have h_l := h_l.mv m1287
       have hp1273 := hp1273.mv m1287
       have hbx_0_b1250 := hbx_0_b1250.keep k1288 (nin1 ne1283)
       have bx1269 := bx1269.keep k1288 (nin1 ne1284)
       refine wl_nil (thenQ_n (?_))
       refine cw_region (by kernel_rfl) (wl_s (o_move (Value.func (.func 64) #[] #[Value.pointer (some ⟨b1257, 0, none⟩), Value.pointer (some a1218)]) rfl (wl_s (o_loadBxA (vs := [vI ((l[k]!).device), vI ((l[k]!).no), vI ((l[k]!).kind), vI ((l[k]!).copy), vI ((l[k]!).to), vI ((l[k]!).token)]) Try.underlying40 rfl s_40 rfl bx1289 rfl (wl_s (o_callv [] [Value.pointer (some ⟨b1257, 0, none⟩), Value.pointer (some a1218)] [Value.agg #[vI ((l[k]!).device), vI ((l[k]!).no), vI ((l[k]!).kind), vI ((l[k]!).copy), vI ((l[k]!).to), vI ((l[k]!).token)]] _ enter_64 rfl rfl (calls_of_cw 50 Try.func64 rfl rfl (of_decide_eq_true rfl) (fun F1290 => ?_)) (fun _ _ h => h)))))))
       refine cw_seq (?_)
       refine cw_region (by kernel_rfl) (wl_s (o_boxR (E := Enc.devop) (Value.agg #[vI ((l[k]!).device), vI ((l[k]!).no), vI ((l[k]!).kind), vI ((l[k]!).copy), vI ((l[k]!).to), vI ((l[k]!).token)]) ([vI ((l[k]!).device), vI ((l[k]!).no), vI ((l[k]!).kind), vI ((l[k]!).copy), vI ((l[k]!).to), vI ((l[k]!).token)]) (l[k]!) rfl rfl rfl s1286 fun a1291 w1292 s1293 m1294 k1295 hp1296 => (?_)))
       have hp1223 := hp1223.mv m1294
       have h_l := h_l.mv m1294
       have hp1273 := hp1273.mv m1294
       have hbx_0_b1250 := hbx_0_b1250.keep k1295 (by simp)
       have bx1269 := bx1269.keep k1295 (by simp)
       have bx1289 := bx1289.keep k1295 (by simp)
       refine wl_nil (thenQ_n (?_))
       refine cw_seq (?_)
       refine cw_region (by kernel_rfl) (wl_s (o_loadBx Try.underlying97 rfl (Value.map (some b1250)) rfl bx1269 rfl (wl_s (o_fieldR 3 f_40_3 ((l[k]!).copy) rfl hp1296 (fun _ _ _ h => Enc_devop_f3 h) fun a1297 hp1298 => (wl_s (o_loadI Try.underlying3 rfl rfl hp1298 (wl_s (o_lookV2 (enc := vI) (venc := encv_holding) (k := ((l[k]!).copy)) (z0 := (⟨(0 : Int), (0 : Int), (0 : Int), false⟩ : Holding)) Try.underlying97 (key_int Try.underlying3) (by kernel_rfl) rfl rfl hbx_0_b1250 (wl_s (o_move (Value.tuple #[Value.agg #[vI ((((mapM l first k) ((l[k]!).copy)).getD (⟨(0 : Int), (0 : Int), (0 : Int), false⟩ : Holding)).copy), vI ((((mapM l first k) ((l[k]!).copy)).getD (⟨(0 : Int), (0 : Int), (0 : Int), false⟩ : Holding)).device), vI ((((mapM l first k) ((l[k]!).copy)).getD (⟨(0 : Int), (0 : Int), (0 : Int), false⟩ : Holding)).token), Value.bool ((((mapM l first k) ((l[k]!).copy)).getD (⟨(0 : Int), (0 : Int), (0 : Int), false⟩ : Holding)).shown)], Value.bool (((mapM l first k) ((l[k]!).copy)).isSome)]) rfl (wl_s (o_extract (Value.agg #[vI ((((mapM l first k) ((l[k]!).copy)).getD (⟨(0 : Int), (0 : Int), (0 : Int), false⟩ : Holding)).copy), vI ((((mapM l first k) ((l[k]!).copy)).getD (⟨(0 : Int), (0 : Int), (0 : Int), false⟩ : Holding)).device), vI ((((mapM l first k) ((l[k]!).copy)).getD (⟨(0 : Int), (0 : Int), (0 : Int), false⟩ : Holding)).token), Value.bool ((((mapM l first k) ((l[k]!).copy)).getD (⟨(0 : Int), (0 : Int), (0 : Int), false⟩ : Holding)).shown)]) rfl rfl (wl_s (o_extract (Value.bool (((mapM l first k) ((l[k]!).copy)).isSome)) rfl rfl (wl_s (o_alloc [vI (0 : Int), vI (0 : Int), vI (0 : Int), Value.bool false] z_47 rfl s1293 fun b1299 w1300 e1305 s1301 m1302 k1303 bx1304 => (?_)))))))))))))))))
       have ne1306 : NeB b1250 b1299 := by show b1250 ≠ b1299; have := hbx_0_b1250.lt; omega
       have ne1307 : NeB b1257 b1299 := by show b1257 ≠ b1299; have := bx1269.lt; omega
       have ne1308 : NeB b1276 b1299 := by show b1276 ≠ b1299; have := bx1289.lt; omega
       clear e1305
       have hp1223 := hp1223.mv m1302
       have hp1296 := hp1296.mv m1302
       have h_l := h_l.mv m1302
       have hp1273 := hp1273.mv m1302
       have hbx_0_b1250 := hbx_0_b1250.keep k1303 (by simp)
       have bx1269 := bx1269.keep k1303 (by simp)
       have bx1289 := bx1289.keep k1303 (by simp)
       refine wl_n (o_store (vs := [vI ((((mapM l first k) ((l[k]!).copy)).getD (⟨(0 : Int), (0 : Int), (0 : Int), false⟩ : Holding)).copy), vI ((((mapM l first k) ((l[k]!).copy)).getD (⟨(0 : Int), (0 : Int), (0 : Int), false⟩ : Holding)).device), vI ((((mapM l first k) ((l[k]!).copy)).getD (⟨(0 : Int), (0 : Int), (0 : Int), false⟩ : Holding)).token), Value.bool ((((mapM l first k) ((l[k]!).copy)).getD (⟨(0 : Int), (0 : Int), (0 : Int), false⟩ : Holding)).shown)]) (.agg #[vI ((((mapM l first k) ((l[k]!).copy)).getD (⟨(0 : Int), (0 : Int), (0 : Int), false⟩ : Holding)).copy), vI ((((mapM l first k) ((l[k]!).copy)).getD (⟨(0 : Int), (0 : Int), (0 : Int), false⟩ : Holding)).device), vI ((((mapM l first k) ((l[k]!).copy)).getD (⟨(0 : Int), (0 : Int), (0 : Int), false⟩ : Holding)).token), Value.bool ((((mapM l first k) ((l[k]!).copy)).getD (⟨(0 : Int), (0 : Int), (0 : Int), false⟩ : Holding)).shown)]) rfl rfl rfl s_47 (fun u hu => by simp only [List.mem_cons, List.not_mem_nil, or_false] at hu; rcases hu with rfl | rfl | rfl | rfl <;> first | rfl) (by repeat (first | assumption | constructor)) bx1304 (of_decide_eq_true rfl) s1301 fun w1309 s1310 m1311 k1312 bx1313 => (?_))
       have hp1223 := hp1223.mv m1311
       have hp1296 := hp1296.mv m1311
       have h_l := h_l.mv m1311
       have hp1273 := hp1273.mv m1311
       have hbx_0_b1250 := hbx_0_b1250.keep k1312 (nin1 ne1306)
       have bx1269 := bx1269.keep k1312 (nin1 ne1307)
       have bx1289 := bx1289.keep k1312 (nin1 ne1308)
       refine wl_s (o_assign (Value.bool (((mapM l first k) ((l[k]!).copy)).isSome)) rfl (wl_nil (thenQ_n (?_))))
       refine cw_cut (fun FI wI => ∃ (h : Holding) (B : List Nat), h = ((mapM l first k l[k]!.copy).getD (hold0 l[k]!.copy first)) ∧ 0 ≤ h.token ∧ h.token ≤ 65536 ∧ True ∧ (∃ F1, FI = upds F1 [(1, Value.pointer (some ⟨b1257, 0, none⟩)), (3, Value.pointer (some a1291)), (4, Value.pointer (some ⟨b1299, 0, none⟩)), (50, undef)]) ∧ St w O wI B ∧ PT Enc.devop wI (B ++ O) (.pointer (some a1291)) ((l[k]!)) ∧ PT Enc.int wI (B ++ O) (.pointer (some a1218)) (first) ∧ RdL Enc.devop wI (B ++ O) (l_v) (l) ∧ PT Enc.devop wI (B ++ O) (.pointer (some a1272)) (l[k]!) ∧ MapV vI encv_holding wI b1250 (mapM l first k) ∧ b1250 ∈ B ∧ Box wI b1257 97 [Value.map (some b1250)] ∧ b1257 ∈ B ∧ Box wI b1276 40 [vI ((l[k]!).device), vI ((l[k]!).no), vI ((l[k]!).kind), vI ((l[k]!).copy), vI ((l[k]!).to), vI ((l[k]!).token)] ∧ b1276 ∈ B ∧ Box wI b1299 47 [vI h.copy, vI h.device, vI h.token, Value.bool h.shown] ∧ b1299 ∈ B) ?_ ?_
       ·refine cw_seq (?_)
        refine cw_region (by kernel_rfl) (wl_s (o_move (Value.bool (((mapM l first k) ((l[k]!).copy)).isSome)) rfl (wl_s (o_not (((mapM l first k) ((l[k]!).copy)).isSome) rfl (wl_nil (thenQ_n (?_)))))))
        refine cw_cond (!(((mapM l first k) ((l[k]!).copy)).isSome)) rfl rfl (fun hc1314 => ?_) (fun hc1314 => ?_)
        ·have hp1315 : (((mapM l first k) ((l[k]!).copy)).isSome) = false := by first | simpa using hc1314 | (have e := hc1314; rw [Bool.not_eq_true'] at e; exact e) | (have e := hc1314; rw [Bool.not_eq_false'] at e; exact e) | (have e := hc1314; simp at e; omega)
         refine cw_region (by kernel_rfl) (wl_s (o_fieldR 3 f_40_3 ((l[k]!).copy) rfl hp1296 (fun _ _ _ h => Enc_devop_f3 h) fun a1316 hp1317 => (wl_s (o_loadI Try.underlying3 rfl rfl hp1317 (wl_s (o_loadI Try.underlying3 rfl rfl hp1223 (wl_s (o_build (l := [(0, .tmp 16), (1, .tmp 17)]) pl_47 z_47 rfl [(0, vI ((l[k]!).copy), [vI ((l[k]!).copy)]), (1, vI first, [vI first])] [vI ((l[k]!).copy), vI first, vI (0 : Int), Value.bool false] rfl ⟨_, rfl, rfl, (of_decide_eq_true rfl), ⟨_, rfl, rfl, (of_decide_eq_true rfl), rfl⟩⟩ (wl_n (o_store (vs := [vI ((l[k]!).copy), vI first, vI (0 : Int), Value.bool false]) (.agg #[vI ((l[k]!).copy), vI first, vI (0 : Int), Value.bool false]) rfl rfl rfl s_47 (fun u hu => by simp only [List.mem_cons, List.not_mem_nil, or_false] at hu; rcases hu with rfl | rfl | rfl | rfl <;> first | rfl) (by repeat (first | assumption | constructor)) bx1313 (of_decide_eq_true rfl) s1310 fun w1318 s1319 m1320 k1321 bx1322 => (?_)))))))))))
         have hp1223 := hp1223.mv m1320
         have hp1296 := hp1296.mv m1320
         have h_l := h_l.mv m1320
         have hp1273 := hp1273.mv m1320
         have hbx_0_b1250 := hbx_0_b1250.keep k1321 (nin1 ne1306)
         have bx1269 := bx1269.keep k1321 (nin1 ne1307)
         have bx1289 := bx1289.keep k1321 (nin1 ne1308)
         refine wl_nil (thenQ_n (?_))
         exact ⟨(((mapM l first k l[k]!.copy).getD (hold0 l[k]!.copy first))), (b1299 :: (b1276 :: Bl0)), rfl, (map_tok ((check_iff l).1 hchk) (by omega) rfl).1, (map_tok ((check_iff l).1 hchk) (by omega) rfl).2, trivial, ⟨_, upds_self _ ⟨rfl, rfl, rfl, rfl, trivial⟩⟩, s1319, hp1296, hp1223, h_l, hp1273, hbx_0_b1250, (by first | assumption | (repeat (first | exact List.mem_cons_self | assumption | apply List.mem_cons_of_mem)) | (apply_assumption; assumption)), bx1269, (by first | assumption | (repeat (first | exact List.mem_cons_self | assumption | apply List.mem_cons_of_mem)) | (apply_assumption; assumption)), bx1289, (by first | assumption | (repeat (first | exact List.mem_cons_self | assumption | apply List.mem_cons_of_mem)) | (apply_assumption; assumption)), (by rw [show ([vI ((((mapM l first k l[k]!.copy).getD (hold0 l[k]!.copy first))).copy), vI ((((mapM l first k l[k]!.copy).getD (hold0 l[k]!.copy first))).device), vI ((((mapM l first k l[k]!.copy).getD (hold0 l[k]!.copy first))).token), Value.bool ((((mapM l first k l[k]!.copy).getD (hold0 l[k]!.copy first))).shown)] : List Value) = [vI ((l[k]!).copy), vI first, vI (0 : Int), Value.bool false] from by first | (rw [hold_some (z := (⟨0, 0, 0, false⟩ : Holding)) (d := hold0 l[k]!.copy first) (by assumption)]) | (rw [← hold_none (by assumption)]; rfl)]; exact bx1322), (by first | assumption | (repeat (first | exact List.mem_cons_self | assumption | apply List.mem_cons_of_mem)) | (apply_assumption; assumption))⟩
        ·have hp1323 : (((mapM l first k) ((l[k]!).copy)).isSome) = true := by first | simpa using hc1314 | (have e := hc1314; rw [Bool.not_eq_true'] at e; exact e) | (have e := hc1314; rw [Bool.not_eq_false'] at e; exact e) | (have e := hc1314; simp at e; omega)
         refine cw_skip (thenQ_n (?_))
         exact ⟨(((mapM l first k l[k]!.copy).getD (hold0 l[k]!.copy first))), (b1299 :: (b1276 :: Bl0)), rfl, (map_tok ((check_iff l).1 hchk) (by omega) rfl).1, (map_tok ((check_iff l).1 hchk) (by omega) rfl).2, trivial, ⟨_, upds_self _ ⟨rfl, rfl, rfl, rfl, trivial⟩⟩, s1310, hp1296, hp1223, h_l, hp1273, hbx_0_b1250, (by first | assumption | (repeat (first | exact List.mem_cons_self | assumption | apply List.mem_cons_of_mem)) | (apply_assumption; assumption)), bx1269, (by first | assumption | (repeat (first | exact List.mem_cons_self | assumption | apply List.mem_cons_of_mem)) | (apply_assumption; assumption)), bx1289, (by first | assumption | (repeat (first | exact List.mem_cons_self | assumption | apply List.mem_cons_of_mem)) | (apply_assumption; assumption)), (by rw [show ([vI ((((mapM l first k l[k]!.copy).getD (hold0 l[k]!.copy first))).copy), vI ((((mapM l first k l[k]!.copy).getD (hold0 l[k]!.copy first))).device), vI ((((mapM l first k l[k]!.copy).getD (hold0 l[k]!.copy first))).token), Value.bool ((((mapM l first k l[k]!.copy).getD (hold0 l[k]!.copy first))).shown)] : List Value) = [vI ((((mapM l first k) ((l[k]!).copy)).getD (⟨(0 : Int), (0 : Int), (0 : Int), false⟩ : Holding)).copy), vI ((((mapM l first k) ((l[k]!).copy)).getD (⟨(0 : Int), (0 : Int), (0 : Int), false⟩ : Holding)).device), vI ((((mapM l first k) ((l[k]!).copy)).getD (⟨(0 : Int), (0 : Int), (0 : Int), false⟩ : Holding)).token), Value.bool ((((mapM l first k) ((l[k]!).copy)).getD (⟨(0 : Int), (0 : Int), (0 : Int), false⟩ : Holding)).shown)] from by first | (rw [hold_some (z := (⟨0, 0, 0, false⟩ : Holding)) (d := hold0 l[k]!.copy first) (by assumption)]) | (rw [← hold_none (by assumption)]; rfl)]; exact bx1313), (by first | assumption | (repeat (first | exact List.mem_cons_self | assumption | apply List.mem_cons_of_mem)) | (apply_assumption; assumption))⟩
       ·intro F wlcs19 hI
        clear hp1296 hp1223 h_l hp1273 hbx_0_b1250 bx1269 bx1289
        obtain ⟨h, Blcs19, hrcs19_0, hrcs19_1, hrcs19_2, hmcs19, ⟨Flcs19, rfl⟩, slcs19, hp1296, hp1223, h_l, hp1273, hbx_0_b1250, hin_b1250, bx1269, hin_b1257, bx1289, hin_b1276, hbs_cs19_b1299, hin_b1299⟩ := hI
        refine cw_seq (?_)
        refine cw_seq (?_)
        refine cw_region (by kernel_rfl) (wl_s (o_fieldR 5 f_40_5 ((l[k]!).token) rfl hp1296 (fun _ _ _ h => Enc_devop_f5 h) fun a1324 hp1325 => (wl_s (o_loadI Try.underlying3 rfl rfl hp1325 (wl_s (o_fieldL 2 f_47_2 rfl (wl_s (o_loadBx Try.underlying3 rfl (vI h.token) rfl hbs_cs19_b1299 rfl (wl_s (o_add .i64 h.token (1 : Int) (h.token + 1) rfl rfl (w64 (by omega) (by omega)) (wl_s (o_neq .i64 ((l[k]!).token) (h.token + 1) rfl rfl (wl_s (o_move (Value.bool (((l[k]!).token) != (h.token + 1))) rfl (?_)))))))))))))))
        cases hb1326 : (((l[k]!).token) != (h.token + 1))
        ·have hp1327 : (l[k]!).token = h.token + 1 := by first | simpa using hb1326 | (have e := hb1326; simp at e; omega)
         refine wl_t rfl (o_fieldR 0 f_40_0 ((l[k]!).device) rfl hp1296 (fun _ _ _ h => Enc_devop_f0 h) fun a1328 hp1329 => (wl_t rfl (o_loadI Try.underlying3 rfl rfl hp1329 (wl_t rfl (o_fieldL 1 f_47_1 rfl (wl_t rfl (o_loadBx Try.underlying3 rfl (vI h.device) rfl hbs_cs19_b1299 rfl (wl_t rfl (o_neq .i64 ((l[k]!).device) h.device rfl rfl (wl_s (o_pickF (Value.bool (((l[k]!).device) != h.device)) rfl rfl (wl_s (o_move (Value.bool (((l[k]!).device) != h.device)) rfl (?_))))))))))))))
         cases hb1330 : (((l[k]!).device) != h.device)
         ·have hp1331 : (l[k]!).device = h.device := by first | simpa using hb1330 | (have e := hb1330; simp at e; omega)
          refine wl_t rfl (o_fieldL 3 f_47_3 rfl (wl_t rfl (o_loadBx Try.underlying4 rfl (Value.bool h.shown) rfl hbs_cs19_b1299 rfl (wl_s (o_pickF (Value.bool h.shown) rfl rfl (wl_nil (thenQ_n (?_))))))))
          refine cw_cond (h.shown) rfl rfl (fun hc1332 => ?_) (fun hc1332 => ?_)
          ·have hp1333 : h.shown = true := by first | simpa using hc1332 | (have e := hc1332; simp at e; omega)
           refine cw_ret (thenQ_r (end_r rfl (res0 rfl) (Exists.intro _ (And.intro rfl (?_)))))
           refine wl_nil (blockQ_n (thenQ_n (?_)))
           refine cw_region (by kernel_rfl) (wl_s (o_add .i64 ((k : Nat) : Int) (1 : Int) (((k + 1 : Nat) : Int)) rfl rfl (w64 (by omega) (by omega)) (wl_s (o_move (vI ((k + 1 : Nat) : Int)) rfl (wl_nil (thenQ_n (?_)))))))
           exact ⟨_, (by omega), (k + 1), Blcs19, (by first | omega | (simp; done) | (simp; omega) | simp_all), rfl, ⟨_, upds_self _ ⟨rfl, rfl, rfl, rfl, rfl, rfl, rfl, (by first | rfl | exact congrArg (Value.int _) (by first | omega | (simp))), rfl, trivial⟩⟩, slcs19, hp1223, h_l, (by rw [show mapM l first (k + 1) = mapM l first k from by first | exact map_skip hrcs19_0 (by first | exact .inl (by assumption) | exact .inr (.inl (by assumption)) | exact .inr (.inr (by assumption))) | exact map_show hrcs19_0 (by assumption) (by assumption) (by assumption) (by assumption) | exact map_give hrcs19_0 (by assumption) (by assumption) (by assumption) (by assumption)]; exact hbx_0_b1250), (by first | assumption | (repeat (first | exact List.mem_cons_self | assumption | apply List.mem_cons_of_mem)) | (apply_assumption; assumption)), bx1269, (by first | assumption | (repeat (first | exact List.mem_cons_self | assumption | apply List.mem_cons_of_mem)) | (apply_assumption; assumption))⟩
          ·have hp1334 : h.shown = false := by first | simpa using hc1332 | (have e := hc1332; simp at e; omega)
           refine cw_skip (thenQ_n (?_))
           refine cw_seq (?_)
           refine cw_region (by kernel_rfl) (wl_s (o_fieldR 5 f_40_5 ((l[k]!).token) rfl hp1296 (fun _ _ _ h => Enc_devop_f5 h) fun a1335 hp1336 => (wl_s (o_loadI Try.underlying3 rfl rfl hp1336 (wl_s (o_fieldL 2 f_47_2 rfl (wl_n (o_store1 (vI ((l[k]!).token)) rfl rfl rfl s_3 (by repeat (first | assumption | constructor)) hbs_cs19_b1299 (of_decide_eq_true rfl) slcs19 fun w1337 s1338 m1339 k1340 bx1341 => (?_)))))))))
           have hp1296 := hp1296.mv m1339
           have hp1223 := hp1223.mv m1339
           have h_l := h_l.mv m1339
           have hbx_0_b1250 := hbx_0_b1250.keep k1340 (nin1 ne1306)
           have bx1269 := bx1269.keep k1340 (nin1 ne1307)
           refine wl_nil (thenQ_n (?_))
           refine cw_seq (?_)
           refine cw_seq (?_)
           refine cw_region (by kernel_rfl) (wl_s (o_fieldR 2 f_40_2 ((l[k]!).kind) rfl hp1296 (fun _ _ _ h => Enc_devop_f2 h) fun a1342 hp1343 => (wl_s (o_loadI Try.underlying3 rfl rfl hp1343 (wl_s (o_eql .i64 ((l[k]!).kind) (2 : Int) rfl rfl (wl_nil (thenQ_n (?_)))))))))
           refine cw_cond (((l[k]!).kind) == (2 : Int)) rfl rfl (fun hc1344 => ?_) (fun hc1344 => ?_)
           ·have hp1345 : (l[k]!).kind = (2 : Int) := by first | simpa using hc1344 | (have e := hc1344; simp at e; omega)
            refine cw_region (by kernel_rfl) (wl_s (o_fieldL 3 f_47_3 rfl (wl_n (o_store1 (Value.bool true) rfl rfl rfl s_4 (by repeat (first | assumption | constructor)) bx1341 (of_decide_eq_true rfl) s1338 fun w1346 s1347 m1348 k1349 bx1350 => (?_)))))
            have hp1296 := hp1296.mv m1348
            have hp1223 := hp1223.mv m1348
            have h_l := h_l.mv m1348
            have hbx_0_b1250 := hbx_0_b1250.keep k1349 (nin1 ne1306)
            have bx1269 := bx1269.keep k1349 (nin1 ne1307)
            refine wl_nil (thenQ_n (?_))
            refine cw_region (by kernel_rfl) (wl_s (o_loadBx Try.underlying97 rfl (Value.map (some b1250)) rfl bx1269 rfl (wl_s (o_fieldR 3 f_40_3 ((l[k]!).copy) rfl hp1296 (fun _ _ _ h => Enc_devop_f3 h) fun a1351 hp1352 => (wl_s (o_loadI Try.underlying3 rfl rfl hp1352 (wl_s (o_loadBxA (vs := [vI h.copy, vI h.device, vI ((l[k]!).token), Value.bool true]) Try.underlying47 rfl s_47 rfl bx1350 rfl (wl_n (o_updV (enc := vI) (venc := encv_holding) (k := ((l[k]!).copy)) (a := (⟨h.copy, h.device, (l[k]!).token, true⟩ : Holding)) Try.underlying97 (key_int Try.underlying3) rfl rfl rfl hbx_0_b1250 (by repeat (first | assumption | constructor)) s1347 fun w1353 s1354 m1355 k1356 bx1357 => (?_)))))))))))
            have hp1223 := hp1223.mv m1355
            have h_l := h_l.mv m1355
            have bx1269 := bx1269.keep k1356 (nin1 (Ne.symm ne1264))
            refine wl_nil (end_n rfl (res0 rfl) (Exists.intro _ (And.intro rfl (?_))))
            refine wl_nil (blockQ_n (thenQ_n (?_)))
            refine cw_region (by kernel_rfl) (wl_s (o_add .i64 ((k : Nat) : Int) (1 : Int) (((k + 1 : Nat) : Int)) rfl rfl (w64 (by omega) (by omega)) (wl_s (o_move (vI ((k + 1 : Nat) : Int)) rfl (wl_nil (thenQ_n (?_)))))))
            exact ⟨_, (by omega), (k + 1), Blcs19, (by first | omega | (simp; done) | (simp; omega) | simp_all), rfl, ⟨_, upds_self _ ⟨rfl, rfl, rfl, rfl, rfl, rfl, rfl, (by first | rfl | exact congrArg (Value.int _) (by first | omega | (simp))), rfl, trivial⟩⟩, s1354, hp1223, h_l, (by rw [show mapM l first (k + 1) = upM (mapM l first k) ((l[k]!).copy) (⟨h.copy, h.device, (l[k]!).token, true⟩ : Holding) from by first | exact map_skip hrcs19_0 (by first | exact .inl (by assumption) | exact .inr (.inl (by assumption)) | exact .inr (.inr (by assumption))) | exact map_show hrcs19_0 (by assumption) (by assumption) (by assumption) (by assumption) | exact map_give hrcs19_0 (by assumption) (by assumption) (by assumption) (by assumption)]; exact bx1357), (by first | assumption | (repeat (first | exact List.mem_cons_self | assumption | apply List.mem_cons_of_mem)) | (apply_assumption; assumption)), bx1269, (by first | assumption | (repeat (first | exact List.mem_cons_self | assumption | apply List.mem_cons_of_mem)) | (apply_assumption; assumption))⟩
           ·have hp1358 : (l[k]!).kind ≠ (2 : Int) := by first | simpa using hc1344 | (have e := hc1344; simp at e; omega)
            refine cw_region (by kernel_rfl) (wl_s (o_fieldR 4 f_40_4 ((l[k]!).to) rfl hp1296 (fun _ _ _ h => Enc_devop_f4 h) fun a1359 hp1360 => (wl_s (o_loadI Try.underlying3 rfl rfl hp1360 (wl_s (o_fieldL 1 f_47_1 rfl (wl_n (o_store1 (vI ((l[k]!).to)) rfl rfl rfl s_3 (by repeat (first | assumption | constructor)) bx1341 (of_decide_eq_true rfl) s1338 fun w1361 s1362 m1363 k1364 bx1365 => (?_)))))))))
            have hp1296 := hp1296.mv m1363
            have hp1223 := hp1223.mv m1363
            have h_l := h_l.mv m1363
            have hbx_0_b1250 := hbx_0_b1250.keep k1364 (nin1 ne1306)
            have bx1269 := bx1269.keep k1364 (nin1 ne1307)
            refine wl_nil (thenQ_n (?_))
            refine cw_region (by kernel_rfl) (wl_s (o_loadBx Try.underlying97 rfl (Value.map (some b1250)) rfl bx1269 rfl (wl_s (o_fieldR 3 f_40_3 ((l[k]!).copy) rfl hp1296 (fun _ _ _ h => Enc_devop_f3 h) fun a1366 hp1367 => (wl_s (o_loadI Try.underlying3 rfl rfl hp1367 (wl_s (o_loadBxA (vs := [vI h.copy, vI ((l[k]!).to), vI ((l[k]!).token), Value.bool h.shown]) Try.underlying47 rfl s_47 rfl bx1365 rfl (wl_n (o_updV (enc := vI) (venc := encv_holding) (k := ((l[k]!).copy)) (a := (⟨h.copy, (l[k]!).to, (l[k]!).token, h.shown⟩ : Holding)) Try.underlying97 (key_int Try.underlying3) rfl rfl rfl hbx_0_b1250 (by repeat (first | assumption | constructor)) s1362 fun w1368 s1369 m1370 k1371 bx1372 => (?_)))))))))))
            have hp1223 := hp1223.mv m1370
            have h_l := h_l.mv m1370
            have bx1269 := bx1269.keep k1371 (nin1 (Ne.symm ne1264))
            refine wl_nil (end_n rfl (res0 rfl) (Exists.intro _ (And.intro rfl (?_))))
            refine wl_nil (blockQ_n (thenQ_n (?_)))
            refine cw_region (by kernel_rfl) (wl_s (o_add .i64 ((k : Nat) : Int) (1 : Int) (((k + 1 : Nat) : Int)) rfl rfl (w64 (by omega) (by omega)) (wl_s (o_move (vI ((k + 1 : Nat) : Int)) rfl (wl_nil (thenQ_n (?_)))))))
            exact ⟨_, (by omega), (k + 1), Blcs19, (by first | omega | (simp; done) | (simp; omega) | simp_all), rfl, ⟨_, upds_self _ ⟨rfl, rfl, rfl, rfl, rfl, rfl, rfl, (by first | rfl | exact congrArg (Value.int _) (by first | omega | (simp))), rfl, trivial⟩⟩, s1369, hp1223, h_l, (by rw [show mapM l first (k + 1) = upM (mapM l first k) ((l[k]!).copy) (⟨h.copy, (l[k]!).to, (l[k]!).token, h.shown⟩ : Holding) from by first | exact map_skip hrcs19_0 (by first | exact .inl (by assumption) | exact .inr (.inl (by assumption)) | exact .inr (.inr (by assumption))) | exact map_show hrcs19_0 (by assumption) (by assumption) (by assumption) (by assumption) | exact map_give hrcs19_0 (by assumption) (by assumption) (by assumption) (by assumption)]; exact bx1372), (by first | assumption | (repeat (first | exact List.mem_cons_self | assumption | apply List.mem_cons_of_mem)) | (apply_assumption; assumption)), bx1269, (by first | assumption | (repeat (first | exact List.mem_cons_self | assumption | apply List.mem_cons_of_mem)) | (apply_assumption; assumption))⟩
         ·have hp1373 : (l[k]!).device ≠ h.device := by first | simpa using hb1330 | (have e := hb1330; simp at e; omega)
          refine wl_k rfl (wl_k rfl (wl_s (o_pickT (Value.bool true) rfl rfl (wl_nil (thenQ_n (?_))))))
          refine cw_cond true rfl rfl (fun _ => ?_) (fun h => by cases h)
          refine cw_ret (thenQ_r (end_r rfl (res0 rfl) (Exists.intro _ (And.intro rfl (?_)))))
          refine wl_nil (blockQ_n (thenQ_n (?_)))
          refine cw_region (by kernel_rfl) (wl_s (o_add .i64 ((k : Nat) : Int) (1 : Int) (((k + 1 : Nat) : Int)) rfl rfl (w64 (by omega) (by omega)) (wl_s (o_move (vI ((k + 1 : Nat) : Int)) rfl (wl_nil (thenQ_n (?_)))))))
          exact ⟨_, (by omega), (k + 1), Blcs19, (by first | omega | (simp; done) | (simp; omega) | simp_all), rfl, ⟨_, upds_self _ ⟨rfl, rfl, rfl, rfl, rfl, rfl, rfl, (by first | rfl | exact congrArg (Value.int _) (by first | omega | (simp))), rfl, trivial⟩⟩, slcs19, hp1223, h_l, (by rw [show mapM l first (k + 1) = mapM l first k from by first | exact map_skip hrcs19_0 (by first | exact .inl (by assumption) | exact .inr (.inl (by assumption)) | exact .inr (.inr (by assumption))) | exact map_show hrcs19_0 (by assumption) (by assumption) (by assumption) (by assumption) | exact map_give hrcs19_0 (by assumption) (by assumption) (by assumption) (by assumption)]; exact hbx_0_b1250), (by first | assumption | (repeat (first | exact List.mem_cons_self | assumption | apply List.mem_cons_of_mem)) | (apply_assumption; assumption)), bx1269, (by first | assumption | (repeat (first | exact List.mem_cons_self | assumption | apply List.mem_cons_of_mem)) | (apply_assumption; assumption))⟩
        ·have hp1374 : (l[k]!).token ≠ h.token + 1 := by first | simpa using hb1326 | (have e := hb1326; simp at e; omega)
         refine wl_k rfl (wl_k rfl (wl_k rfl (wl_k rfl (wl_k rfl (wl_s (o_pickT (Value.bool true) rfl rfl (wl_s (o_move (Value.bool true) rfl (wl_k rfl (wl_k rfl (wl_s (o_pickT (Value.bool true) rfl rfl (wl_nil (thenQ_n (?_)))))))))))))))
         refine cw_cond true rfl rfl (fun _ => ?_) (fun h => by cases h)
         refine cw_ret (thenQ_r (end_r rfl (res0 rfl) (Exists.intro _ (And.intro rfl (?_)))))
         refine wl_nil (blockQ_n (thenQ_n (?_)))
         refine cw_region (by kernel_rfl) (wl_s (o_add .i64 ((k : Nat) : Int) (1 : Int) (((k + 1 : Nat) : Int)) rfl rfl (w64 (by omega) (by omega)) (wl_s (o_move (vI ((k + 1 : Nat) : Int)) rfl (wl_nil (thenQ_n (?_)))))))
         exact ⟨_, (by omega), (k + 1), Blcs19, (by first | omega | (simp; done) | (simp; omega) | simp_all), rfl, ⟨_, upds_self _ ⟨rfl, rfl, rfl, rfl, rfl, rfl, rfl, (by first | rfl | exact congrArg (Value.int _) (by first | omega | (simp))), rfl, trivial⟩⟩, slcs19, hp1223, h_l, (by rw [show mapM l first (k + 1) = mapM l first k from by first | exact map_skip hrcs19_0 (by first | exact .inl (by assumption) | exact .inr (.inl (by assumption)) | exact .inr (.inr (by assumption))) | exact map_show hrcs19_0 (by assumption) (by assumption) (by assumption) (by assumption) | exact map_give hrcs19_0 (by assumption) (by assumption) (by assumption) (by assumption)]; exact hbx_0_b1250), (by first | assumption | (repeat (first | exact List.mem_cons_self | assumption | apply List.mem_cons_of_mem)) | (apply_assumption; assumption)), bx1269, (by first | assumption | (repeat (first | exact List.mem_cons_self | assumption | apply List.mem_cons_of_mem)) | (apply_assumption; assumption))⟩
      ·have hp1375 : (l.length : Int) ≤ ((k : Nat) : Int) := by first | simpa using hc1270 | (have e := hc1270; simp at e; omega)
       obtain rfl : k = l.length := by omega
       refine cw_exit (thenQ_x (thenQ_x (blockQ_x (thenQ_n (?_)))))
       refine cw_seq (?_)
       refine cw_seq (?_)
       refine cw_region (by kernel_rfl) (wl_s (o_move (vI copies) rfl (wl_s (o_move (vI (0 : Int)) rfl (wl_nil (thenQ_n (?_)))))))
       refine cw_block (?_)
       refine cw_loop (fun mI FI wI => ∃ (k : Nat) (vo1_6 : Value) (B : List Nat), (k : Int) ≤ copies ∧ mI = copies.toNat - k ∧ (∃ F1, FI = upds F1 [(5, Value.pointer (some a1218)), (6, vo1_6), (8, Value.pointer (some ⟨b1257, 0, none⟩)), (41, vI copies), (42, vI ((k : Nat) : Int)), (62, undef)]) ∧ St w O wI B ∧ Own Enc.holding 47 w.heap.size (B ++ O) wI vo1_6 (holdsM l first k) ∧ (∀ b, vo1_6.ownBlock = some b → b ∈ B) ∧ PT Enc.int wI (B ++ O) (.pointer (some a1218)) (first) ∧ MapV vI encv_holding wI b1250 (mapM l first l.length) ∧ b1250 ∈ B ∧ Box wI b1257 97 [Value.map (some b1250)] ∧ b1257 ∈ B ∧ (∀ b, vo1_6.ownBlock = some b → b ≠ b1250) ∧ (∀ b, vo1_6.ownBlock = some b → b ≠ b1257)) (copies.toNat - (0)) ?_ ?_
       ·exact ⟨(0), (.slice none 0 0), Bl0, (by omega), rfl, ⟨_, upds_self _ ⟨rfl, rfl, rfl, rfl, (by first | rfl | exact congrArg (Value.int _) (by first | omega | (simp))), rfl, trivial⟩⟩, sl0, (by rw [show holdsM l first (0) = [] from rfl]; exact (Own.nil Enc.holding 47 _ _ _)), (by intro b hb; simp [Value.ownBlock] at hb), hp1223, hbx_0_b1250, (by first | assumption | (repeat (first | exact List.mem_cons_self | assumption | apply List.mem_cons_of_mem)) | (apply_assumption; assumption)), bx1269, (by first | assumption | (repeat (first | exact List.mem_cons_self | assumption | apply List.mem_cons_of_mem)) | (apply_assumption; assumption)), (fun b hb => by first | (simp [Value.ownBlock] at hb; done) | (intro e; simp_all; done)), (fun b hb => by first | (simp [Value.ownBlock] at hb; done) | (intro e; simp_all; done))⟩
       ·intro ml1 F wl1 hI
        clear hp1223 hbx_0_b1250 bx1269
        obtain ⟨k, vo1_6, Bl1, hr1_0, hm1, ⟨Fl1, rfl⟩, sl1, ho1_6, hB1_6, hp1223, hbx_0_b1250, hin_b1250, bx1269, hin_b1257, nb1_6_b1250, nb1_6_b1257⟩ := hI
        refine cw_seq (?_)
        refine cw_region (by kernel_rfl) (wl_s (o_lss .i64 ((k : Nat) : Int) copies rfl rfl (wl_nil (thenQ_n (?_)))))
        refine cw_seq (?_)
        refine cw_cond (decide (((k : Nat) : Int) < copies)) rfl rfl (fun hc1376 => ?_) (fun hc1376 => ?_)
        ·have hp1377 : ((k : Nat) : Int) < copies := by first | simpa using hc1376 | (have e := hc1376; simp at e; omega)
         refine cw_skip (thenQ_n (?_))
         refine cw_seq (?_)
         refine cw_block (?_)
         refine cw_seq (?_)
         refine cw_region (by kernel_rfl) (wl_s (o_move (vI ((k : Nat) : Int)) rfl (wl_s (o_assign (vI ((k : Nat) : Int)) rfl (wl_nil (thenQ_n (?_)))))))
         refine cw_seq (?_)
         refine cw_region (by kernel_rfl) (wl_s (o_loadBx Try.underlying97 rfl (Value.map (some b1250)) rfl bx1269 rfl (wl_s (o_move (vI ((k : Nat) : Int)) rfl (wl_s (o_lookV2 (enc := vI) (venc := encv_holding) (k := ((k : Nat) : Int)) (z0 := (⟨(0 : Int), (0 : Int), (0 : Int), false⟩ : Holding)) Try.underlying97 (key_int Try.underlying3) (by kernel_rfl) rfl rfl hbx_0_b1250 (wl_s (o_move (Value.tuple #[Value.agg #[vI ((((mapM l first l.length) ((k : Nat) : Int)).getD (⟨(0 : Int), (0 : Int), (0 : Int), false⟩ : Holding)).copy), vI ((((mapM l first l.length) ((k : Nat) : Int)).getD (⟨(0 : Int), (0 : Int), (0 : Int), false⟩ : Holding)).device), vI ((((mapM l first l.length) ((k : Nat) : Int)).getD (⟨(0 : Int), (0 : Int), (0 : Int), false⟩ : Holding)).token), Value.bool ((((mapM l first l.length) ((k : Nat) : Int)).getD (⟨(0 : Int), (0 : Int), (0 : Int), false⟩ : Holding)).shown)], Value.bool (((mapM l first l.length) ((k : Nat) : Int)).isSome)]) rfl (wl_s (o_extract (Value.agg #[vI ((((mapM l first l.length) ((k : Nat) : Int)).getD (⟨(0 : Int), (0 : Int), (0 : Int), false⟩ : Holding)).copy), vI ((((mapM l first l.length) ((k : Nat) : Int)).getD (⟨(0 : Int), (0 : Int), (0 : Int), false⟩ : Holding)).device), vI ((((mapM l first l.length) ((k : Nat) : Int)).getD (⟨(0 : Int), (0 : Int), (0 : Int), false⟩ : Holding)).token), Value.bool ((((mapM l first l.length) ((k : Nat) : Int)).getD (⟨(0 : Int), (0 : Int), (0 : Int), false⟩ : Holding)).shown)]) rfl rfl (wl_s (o_extract (Value.bool (((mapM l first l.length) ((k : Nat) : Int)).isSome)) rfl rfl (wl_s (o_alloc [vI (0 : Int), vI (0 : Int), vI (0 : Int), Value.bool false] z_47 rfl sl1 fun b1378 w1379 e1384 s1380 m1381 k1382 bx1383 => (?_)))))))))))))))
         have ne1385 : NeB b1250 b1378 := by show b1250 ≠ b1378; have := hbx_0_b1250.lt; omega
         have ne1386 : NeB b1257 b1378 := by show b1257 ≠ b1378; have := bx1269.lt; omega
         have ne1387 : ∀ b, vo1_6.ownBlock = some b → b ≠ b1378 := fun b hb => by have := (ho1_6.lt b hb).2; omega
         have hB1_6 : ∀ b, vo1_6.ownBlock = some b → b ∈ (b1378 :: Bl1) := fun b hb => List.mem_cons_of_mem _ (hB1_6 b hb)
         clear e1384
         have hp1223 := hp1223.mv m1381
         have ho1_6 := ho1_6.mv m1381 k1382 (by simp)
         have hbx_0_b1250 := hbx_0_b1250.keep k1382 (by simp)
         have bx1269 := bx1269.keep k1382 (by simp)
         refine wl_n (o_store (vs := [vI ((((mapM l first l.length) ((k : Nat) : Int)).getD (⟨(0 : Int), (0 : Int), (0 : Int), false⟩ : Holding)).copy), vI ((((mapM l first l.length) ((k : Nat) : Int)).getD (⟨(0 : Int), (0 : Int), (0 : Int), false⟩ : Holding)).device), vI ((((mapM l first l.length) ((k : Nat) : Int)).getD (⟨(0 : Int), (0 : Int), (0 : Int), false⟩ : Holding)).token), Value.bool ((((mapM l first l.length) ((k : Nat) : Int)).getD (⟨(0 : Int), (0 : Int), (0 : Int), false⟩ : Holding)).shown)]) (.agg #[vI ((((mapM l first l.length) ((k : Nat) : Int)).getD (⟨(0 : Int), (0 : Int), (0 : Int), false⟩ : Holding)).copy), vI ((((mapM l first l.length) ((k : Nat) : Int)).getD (⟨(0 : Int), (0 : Int), (0 : Int), false⟩ : Holding)).device), vI ((((mapM l first l.length) ((k : Nat) : Int)).getD (⟨(0 : Int), (0 : Int), (0 : Int), false⟩ : Holding)).token), Value.bool ((((mapM l first l.length) ((k : Nat) : Int)).getD (⟨(0 : Int), (0 : Int), (0 : Int), false⟩ : Holding)).shown)]) rfl rfl rfl s_47 (fun u hu => by simp only [List.mem_cons, List.not_mem_nil, or_false] at hu; rcases hu with rfl | rfl | rfl | rfl <;> first | rfl) (by repeat (first | assumption | constructor)) bx1383 (of_decide_eq_true rfl) s1380 fun w1388 s1389 m1390 k1391 bx1392 => (?_))
         have hp1223 := hp1223.mv m1390
         have ho1_6 := ho1_6.mv m1390 k1391 (fun b hb => nin1 (ne1387 b hb))
         have hbx_0_b1250 := hbx_0_b1250.keep k1391 (nin1 ne1385)
         have bx1269 := bx1269.keep k1391 (nin1 ne1386)
         refine wl_s (o_assign (Value.bool (((mapM l first l.length) ((k : Nat) : Int)).isSome)) rfl (wl_nil (thenQ_n (?_))))
         refine cw_cut (fun FI wI => ∃ (B : List Nat), True ∧ (∃ F1, FI = upds F1 [(5, Value.pointer (some a1218)), (6, vo1_6), (8, Value.pointer (some ⟨b1257, 0, none⟩)), (13, Value.pointer (some ⟨b1378, 0, none⟩)), (41, vI copies), (42, vI ((k : Nat) : Int)), (62, undef)]) ∧ St w O wI B ∧ PT Enc.int wI (B ++ O) (.pointer (some a1218)) (first) ∧ Own Enc.holding 47 w.heap.size (B ++ O) wI vo1_6 (holdsM l first k) ∧ (∀ b, vo1_6.ownBlock = some b → b ∈ B) ∧ MapV vI encv_holding wI b1250 (mapM l first l.length) ∧ b1250 ∈ B ∧ Box wI b1257 97 [Value.map (some b1250)] ∧ b1257 ∈ B ∧ Box wI b1378 47 [vI ((holdM l first ((k : Nat) : Int)).copy), vI ((holdM l first ((k : Nat) : Int)).device), vI ((holdM l first ((k : Nat) : Int)).token), Value.bool ((holdM l first ((k : Nat) : Int)).shown)] ∧ b1378 ∈ B) ?_ ?_
         ·refine cw_seq (?_)
          refine cw_region (by kernel_rfl) (wl_s (o_move (Value.bool (((mapM l first l.length) ((k : Nat) : Int)).isSome)) rfl (wl_s (o_not (((mapM l first l.length) ((k : Nat) : Int)).isSome) rfl (wl_nil (thenQ_n (?_)))))))
          refine cw_cond (!(((mapM l first l.length) ((k : Nat) : Int)).isSome)) rfl rfl (fun hc1393 => ?_) (fun hc1393 => ?_)
          ·have hp1394 : (((mapM l first l.length) ((k : Nat) : Int)).isSome) = false := by first | simpa using hc1393 | (have e := hc1393; rw [Bool.not_eq_true'] at e; exact e) | (have e := hc1393; rw [Bool.not_eq_false'] at e; exact e) | (have e := hc1393; simp at e; omega)
           refine cw_region (by kernel_rfl) (wl_s (o_move (vI ((k : Nat) : Int)) rfl (wl_s (o_loadI Try.underlying3 rfl rfl hp1223 (wl_s (o_build (l := [(0, .tmp 53), (1, .tmp 54)]) pl_47 z_47 rfl [(0, vI ((k : Nat) : Int), [vI ((k : Nat) : Int)]), (1, vI first, [vI first])] [vI ((k : Nat) : Int), vI first, vI (0 : Int), Value.bool false] rfl ⟨_, rfl, rfl, (of_decide_eq_true rfl), ⟨_, rfl, rfl, (of_decide_eq_true rfl), rfl⟩⟩ (wl_n (o_store (vs := [vI ((k : Nat) : Int), vI first, vI (0 : Int), Value.bool false]) (.agg #[vI ((k : Nat) : Int), vI first, vI (0 : Int), Value.bool false]) rfl rfl rfl s_47 (fun u hu => by simp only [List.mem_cons, List.not_mem_nil, or_false] at hu; rcases hu with rfl | rfl | rfl | rfl <;> first | rfl) (by repeat (first | assumption | constructor)) bx1392 (of_decide_eq_true rfl) s1389 fun w1395 s1396 m1397 k1398 bx1399 => (?_)))))))))
           have hp1223 := hp1223.mv m1397
           have ho1_6 := ho1_6.mv m1397 k1398 (fun b hb => nin1 (ne1387 b hb))
           have hbx_0_b1250 := hbx_0_b1250.keep k1398 (nin1 ne1385)
           have bx1269 := bx1269.keep k1398 (nin1 ne1386)
           refine wl_nil (thenQ_n (?_))
           exact ⟨(b1378 :: Bl1), trivial, ⟨_, upds_self _ ⟨rfl, rfl, rfl, rfl, rfl, rfl, rfl, trivial⟩⟩, s1396, hp1223, ho1_6, hB1_6, hbx_0_b1250, (by first | assumption | (repeat (first | exact List.mem_cons_self | assumption | apply List.mem_cons_of_mem)) | (apply_assumption; assumption)), bx1269, (by first | assumption | (repeat (first | exact List.mem_cons_self | assumption | apply List.mem_cons_of_mem)) | (apply_assumption; assumption)), (by rw [show ([vI ((holdM l first ((k : Nat) : Int)).copy), vI ((holdM l first ((k : Nat) : Int)).device), vI ((holdM l first ((k : Nat) : Int)).token), Value.bool ((holdM l first ((k : Nat) : Int)).shown)] : List Value) = [vI ((k : Nat) : Int), vI first, vI (0 : Int), Value.bool false] from by first | (rw [hold_some (z := (⟨0, 0, 0, false⟩ : Holding)) (d := hold0 ((k : Nat) : Int) first) (by assumption)]; rfl) | (show _ = _; unfold holdM; rw [← hold_none (by assumption)]; rfl)]; exact bx1399), (by first | assumption | (repeat (first | exact List.mem_cons_self | assumption | apply List.mem_cons_of_mem)) | (apply_assumption; assumption))⟩
          ·have hp1400 : (((mapM l first l.length) ((k : Nat) : Int)).isSome) = true := by first | simpa using hc1393 | (have e := hc1393; rw [Bool.not_eq_true'] at e; exact e) | (have e := hc1393; rw [Bool.not_eq_false'] at e; exact e) | (have e := hc1393; simp at e; omega)
           refine cw_skip (thenQ_n (?_))
           exact ⟨(b1378 :: Bl1), trivial, ⟨_, upds_self _ ⟨rfl, rfl, rfl, rfl, rfl, rfl, rfl, trivial⟩⟩, s1389, hp1223, ho1_6, hB1_6, hbx_0_b1250, (by first | assumption | (repeat (first | exact List.mem_cons_self | assumption | apply List.mem_cons_of_mem)) | (apply_assumption; assumption)), bx1269, (by first | assumption | (repeat (first | exact List.mem_cons_self | assumption | apply List.mem_cons_of_mem)) | (apply_assumption; assumption)), (by rw [show ([vI ((holdM l first ((k : Nat) : Int)).copy), vI ((holdM l first ((k : Nat) : Int)).device), vI ((holdM l first ((k : Nat) : Int)).token), Value.bool ((holdM l first ((k : Nat) : Int)).shown)] : List Value) = [vI ((((mapM l first l.length) ((k : Nat) : Int)).getD (⟨(0 : Int), (0 : Int), (0 : Int), false⟩ : Holding)).copy), vI ((((mapM l first l.length) ((k : Nat) : Int)).getD (⟨(0 : Int), (0 : Int), (0 : Int), false⟩ : Holding)).device), vI ((((mapM l first l.length) ((k : Nat) : Int)).getD (⟨(0 : Int), (0 : Int), (0 : Int), false⟩ : Holding)).token), Value.bool ((((mapM l first l.length) ((k : Nat) : Int)).getD (⟨(0 : Int), (0 : Int), (0 : Int), false⟩ : Holding)).shown)] from by first | (rw [hold_some (z := (⟨0, 0, 0, false⟩ : Holding)) (d := hold0 ((k : Nat) : Int) first) (by assumption)]; rfl) | (show _ = _; unfold holdM; rw [← hold_none (by assumption)]; rfl)]; exact bx1392), (by first | assumption | (repeat (first | exact List.mem_cons_self | assumption | apply List.mem_cons_of_mem)) | (apply_assumption; assumption))⟩
         ·intro F wlc56 hI
          clear hp1223 ho1_6 hB1_6 hbx_0_b1250 bx1269
          obtain ⟨Blc56, hmc56, ⟨Flc56, rfl⟩, slc56, hp1223, ho1_6, hB1_6, hbx_0_b1250, hin_b1250, bx1269, hin_b1257, hbs_c56_b1378, hin_b1378⟩ := hI
          refine cw_region (by kernel_rfl) (wl_s (o_move (vo1_6) rfl (wl_s (o_loadBxA (vs := [vI ((holdM l first ((k : Nat) : Int)).copy), vI ((holdM l first ((k : Nat) : Int)).device), vI ((holdM l first ((k : Nat) : Int)).token), Value.bool ((holdM l first ((k : Nat) : Int)).shown)]) Try.underlying47 rfl s_47 rfl hbs_c56_b1378 rfl (wl_s (o_lit (E := Enc.holding) (xs := [.tmp 57]) Try.underlying43 s_47 z_47 (by decide) [.agg #[vI ((holdM l first ((k : Nat) : Int)).copy), vI ((holdM l first ((k : Nat) : Int)).device), vI ((holdM l first ((k : Nat) : Int)).token), Value.bool ((holdM l first ((k : Nat) : Int)).shown)]] [[vI ((holdM l first ((k : Nat) : Int)).copy), vI ((holdM l first ((k : Nat) : Int)).device), vI ((holdM l first ((k : Nat) : Int)).token), Value.bool ((holdM l first ((k : Nat) : Int)).shown)]] [(holdM l first ((k : Nat) : Int))] rfl rfl rfl (Parts.cons rfl rfl (Parts.nil _ _ _)) (of_decide_eq_true rfl) slc56 fun v1405 w1401 s1402 m1403 k1404 hl1406 => (?_)))))))
          have hp1223 := hp1223.mv m1403
          have ho1_6 := ho1_6.mv m1403 k1404 (by simp)
          have hbx_0_b1250 := hbx_0_b1250.keep k1404 (by simp)
          have bx1269 := bx1269.keep k1404 (by simp)
          have hbs_c56_b1378 := hbs_c56_b1378.keep k1404 (by simp)
          have := hl1406.len_le
          refine wl_s (o_append (E := Enc.holding) (l := holdsM l first k) (m := [(holdM l first ((k : Nat) : Int))]) Try.underlying43 i_47 rfl (by decide) rfl rfl ho1_6 hl1406 (fun _ hb => .inl hb) hB1_6 (by rw [holdsM_len]; simp; omega) (by rw [holdsM_len]; simp [maxLen]; omega) s1402 fun v1411 w1407 B1413 hB1414 at1415 sub1416 s1408 m1409 k1410 ho1412 => (?_))
          have ne1417 : ∀ b, v1411.ownBlock = some b → b ≠ b1250 := fun b hb => by rcases at1415 with e1 | e1 <;> rw [e1] at hb <;> first | (simp [Value.ownBlock] at hb; done) | (cases hb; have := hbx_0_b1250.lt; omega) | (exact nb1_6_b1250 b hb)
          have ne1418 : ∀ b, v1411.ownBlock = some b → b ≠ b1257 := fun b hb => by rcases at1415 with e1 | e1 <;> rw [e1] at hb <;> first | (simp [Value.ownBlock] at hb; done) | (cases hb; have := bx1269.lt; omega) | (exact nb1_6_b1257 b hb)
          have ne1419 : ∀ b, v1411.ownBlock = some b → b ≠ b1378 := fun b hb => by rcases at1415 with e1 | e1 <;> rw [e1] at hb <;> first | (simp [Value.ownBlock] at hb; done) | (cases hb; have := hbs_c56_b1378.lt; omega) | (exact ne1387 b hb)
          have hin_b1250 : b1250 ∈ B1413 := sub1416 b1250 (by repeat (first | assumption | constructor))
          have hin_b1257 : b1257 ∈ B1413 := sub1416 b1257 (by repeat (first | assumption | constructor))
          have hin_b1378 : b1378 ∈ B1413 := sub1416 b1378 (by repeat (first | assumption | constructor))
          have hp1223 := hp1223.mv m1409
          have hbx_0_b1250 := hbx_0_b1250.keep k1410 (by simp only [Option.mem_toList]; first | (simp [Value.ownBlock]; done) | exact fun e => absurd rfl (nb1_6_b1250 _ e))
          have bx1269 := bx1269.keep k1410 (by simp only [Option.mem_toList]; first | (simp [Value.ownBlock]; done) | exact fun e => absurd rfl (nb1_6_b1257 _ e))
          refine wl_s (o_assign (v1411) rfl (wl_nil (blockQ_n (thenQ_n (?_)))))
          refine cw_region (by kernel_rfl) (wl_s (o_add .i64 ((k : Nat) : Int) (1 : Int) (((k + 1 : Nat) : Int)) rfl rfl (w64 (by omega) (by omega)) (wl_s (o_move (vI ((k + 1 : Nat) : Int)) rfl (wl_nil (thenQ_n (?_)))))))
          exact ⟨_, (by omega), (k + 1), v1411, B1413, (by omega), rfl, ⟨_, upds_self _ ⟨rfl, rfl, rfl, rfl, (by first | rfl | exact congrArg (Value.int _) (by first | omega | (simp))), rfl, trivial⟩⟩, s1408, (by rw [show holdsM l first (k + 1) = (holdsM l first k) ++ ([(holdM l first ((k : Nat) : Int))]) from holdsM_succ l first k]; exact ho1412), hB1414, hp1223, hbx_0_b1250, (by first | assumption | (repeat (first | exact List.mem_cons_self | assumption | apply List.mem_cons_of_mem)) | (apply_assumption; assumption)), bx1269, (by first | assumption | (repeat (first | exact List.mem_cons_self | assumption | apply List.mem_cons_of_mem)) | (apply_assumption; assumption)), ne1417, ne1418⟩
        ·have hp1420 : copies ≤ ((k : Nat) : Int) := by first | simpa using hc1376 | (have e := hc1376; simp at e; omega)
         obtain rfl : k = copies.toNat := by omega
         refine cw_exit (thenQ_x (thenQ_x (blockQ_x (thenQ_n (?_)))))
         refine cw_seq (?_)
         refine cw_region (by kernel_rfl) (wl_s (o_move (vo1_6) rfl (wl_s (o_assign (vo1_6) rfl (wl_s (o_assign (vI (0 : Int)) rfl (wl_nil (thenQ_n (?_)))))))))
         refine cw_ret (end_r rfl (res2 rfl rfl rfl rfl) (?_))
         have e1421 : ((stateM l copies first).1) = (holdsM l first copies.toNat) := by first | exact congrArg (fun p => p.1) (show stateM l copies first = _ from state_1 (by assumption)) | exact congrArg (fun p => p.1) (show stateM l copies first = _ from state_2 (by assumption) (by assumption)) | exact congrArg (fun p => p.1) (show stateM l copies first = _ from state_3 (by assumption) (by assumption)) | exact congrArg (fun p => p.1) (show stateM l copies first = _ from state_4 (by assumption) (by assumption)) | exact congrArg (fun p => p.1) (show stateM l copies first = _ from state_5 (by assumption) (by assumption) (by assumption) (by assumption))
         have e1422 : ((stateM l copies first).2) = (0 : Int) := by first | exact congrArg (fun p => p.2) (show stateM l copies first = _ from state_1 (by assumption)) | exact congrArg (fun p => p.2) (show stateM l copies first = _ from state_2 (by assumption) (by assumption)) | exact congrArg (fun p => p.2) (show stateM l copies first = _ from state_3 (by assumption) (by assumption)) | exact congrArg (fun p => p.2) (show stateM l copies first = _ from state_4 (by assumption) (by assumption)) | exact congrArg (fun p => p.2) (show stateM l copies first = _ from state_5 (by assumption) (by assumption) (by assumption) (by assumption))
         exact ⟨_, rfl, sl1.keep, by rw [e1421, e1422]; exact ⟨vo1_6, rfl, ho1_6.pub sl1⟩⟩
   ·have hp1423 : (1024 : Int) < copies := by first | simpa using hb1237 | (have e := hb1237; simp at e; omega)
    refine wl_k rfl (wl_k rfl (wl_k rfl (wl_s (o_pickT (Value.bool true) rfl rfl (wl_nil (thenQ_n (?_)))))))
    refine cw_cond true rfl rfl (fun _ => ?_) (fun h => by cases h)
    refine cw_seq (?_)
    refine cw_region (by kernel_rfl) (wl_s (o_assign (.slice none 0 0) rfl (wl_s (o_assign (vI (1 : Int)) rfl (wl_nil (thenQ_n (?_)))))))
    refine cw_ret (thenQ_r (end_r rfl (res2 rfl rfl rfl rfl) (?_)))
    have e1424 : ((stateM l copies first).1) = ([]) := by first | exact congrArg (fun p => p.1) (show stateM l copies first = _ from state_1 (by assumption)) | exact congrArg (fun p => p.1) (show stateM l copies first = _ from state_2 (by assumption) (by assumption)) | exact congrArg (fun p => p.1) (show stateM l copies first = _ from state_3 (by assumption) (by assumption)) | exact congrArg (fun p => p.1) (show stateM l copies first = _ from state_4 (by assumption) (by assumption)) | exact congrArg (fun p => p.1) (show stateM l copies first = _ from state_5 (by assumption) (by assumption) (by assumption) (by assumption))
    have e1425 : ((stateM l copies first).2) = (1 : Int) := by first | exact congrArg (fun p => p.2) (show stateM l copies first = _ from state_1 (by assumption)) | exact congrArg (fun p => p.2) (show stateM l copies first = _ from state_2 (by assumption) (by assumption)) | exact congrArg (fun p => p.2) (show stateM l copies first = _ from state_3 (by assumption) (by assumption)) | exact congrArg (fun p => p.2) (show stateM l copies first = _ from state_4 (by assumption) (by assumption)) | exact congrArg (fun p => p.2) (show stateM l copies first = _ from state_5 (by assumption) (by assumption) (by assumption) (by assumption))
    exact ⟨_, rfl, s1226.keep, by rw [e1424, e1425]; exact ⟨.slice none 0 0, rfl, RdL.nil _ _ _⟩⟩
  ·have hp1426 : copies < (0 : Int) := by first | simpa using hb1235 | (have e := hb1235; simp at e; omega)
   refine wl_k rfl (wl_k rfl (wl_s (o_pickT (Value.bool true) rfl rfl (wl_s (o_move (Value.bool true) rfl (wl_k rfl (wl_k rfl (wl_k rfl (wl_s (o_pickT (Value.bool true) rfl rfl (wl_nil (thenQ_n (?_)))))))))))))
   refine cw_cond true rfl rfl (fun _ => ?_) (fun h => by cases h)
   refine cw_seq (?_)
   refine cw_region (by kernel_rfl) (wl_s (o_assign (.slice none 0 0) rfl (wl_s (o_assign (vI (1 : Int)) rfl (wl_nil (thenQ_n (?_)))))))
   refine cw_ret (thenQ_r (end_r rfl (res2 rfl rfl rfl rfl) (?_)))
   have e1427 : ((stateM l copies first).1) = ([]) := by first | exact congrArg (fun p => p.1) (show stateM l copies first = _ from state_1 (by assumption)) | exact congrArg (fun p => p.1) (show stateM l copies first = _ from state_2 (by assumption) (by assumption)) | exact congrArg (fun p => p.1) (show stateM l copies first = _ from state_3 (by assumption) (by assumption)) | exact congrArg (fun p => p.1) (show stateM l copies first = _ from state_4 (by assumption) (by assumption)) | exact congrArg (fun p => p.1) (show stateM l copies first = _ from state_5 (by assumption) (by assumption) (by assumption) (by assumption))
   have e1428 : ((stateM l copies first).2) = (1 : Int) := by first | exact congrArg (fun p => p.2) (show stateM l copies first = _ from state_1 (by assumption)) | exact congrArg (fun p => p.2) (show stateM l copies first = _ from state_2 (by assumption) (by assumption)) | exact congrArg (fun p => p.2) (show stateM l copies first = _ from state_3 (by assumption) (by assumption)) | exact congrArg (fun p => p.2) (show stateM l copies first = _ from state_4 (by assumption) (by assumption)) | exact congrArg (fun p => p.2) (show stateM l copies first = _ from state_5 (by assumption) (by assumption) (by assumption) (by assumption))
   exact ⟨_, rfl, s1226.keep, by rw [e1427, e1428]; exact ⟨.slice none 0 0, rfl, RdL.nil _ _ _⟩⟩

end Go.Proofs.Ytjpniibleelgiaa
