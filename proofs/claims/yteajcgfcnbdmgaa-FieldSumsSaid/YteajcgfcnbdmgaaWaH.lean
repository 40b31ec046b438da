/- Walks, printed by gen.py. -/
import Derived.Test.YteajcgfcnbdmgaaWaG
import Derived.Test.YteajcgfcnbdmgaaMaE
namespace Go.Proofs.Yteajcgfcnbdmgaa
open Go.Fw Go.RowKit

set_option maxHeartbeats 4000000 in
set_option maxRecDepth 100000 in
theorem c_FieldSums {O : List Nat} (l_v : Value) (l : List UInt8) (m_v : Value) (m : List UInt8) (a : UInt8) (at_ : UInt8) (w : World) (h_l : RdL Enc.u8 w O l_v l) (h_m : RdL Enc.u8 w O m_v m) (hO : ∀ b ∈ O, b < w.heap.size) : CallsK Try.prog 9 [l_v, m_v, vB a, vB at_] w (fun v _ => v = .bool (true)) :=  by
  have lim_l := h_l.len_le
  have h_l : RdL Enc.u8 w ([] ++ O) l_v l := h_l
  have lim_m := h_m.len_le
  have h_m : RdL Enc.u8 w ([] ++ O) m_v m := h_m
  have s0 : St w O w [] := St.start hO
  refine callsK_of 95 Try.func9 rfl rfl (of_decide_eq_true rfl) (fun F0 => ?_)
  refine cw_seq (?_)
  refine cw_region (by kernel_rfl) (wl_s (o_assign (Value.bool false) rfl (wl_nil (thenQ_n (?_)))))
  refine cw_seq (?_)
  refine cw_seq (?_)
  refine cw_region (by kernel_rfl) (wl_s (o_callK (vs := []) enter_17 (c_sane7 (O := [] ++ O) w s0.lt) rfl s0 fun v1268 w1269 s1270 m1271 k1272 r1273 => (?_)))
  obtain rfl := r1273
  have h_l := h_l.mv m1271
  have h_m := h_m.mv m1271
  refine wl_s (o_not true rfl (wl_nil (thenQ_n (?_))))
  refine cw_cond false rfl rfl (fun h => by cases h) (fun _ => ?_)
  refine cw_skip (thenQ_n (?_))
  refine cw_seq (?_)
  refine cw_seq (?_)
  refine cw_region (by kernel_rfl) (wl_s (o_move (l_v) rfl (wl_s (o_lenR Try.underlying28 rfl h_l (wl_s (o_gtr .i64 (l.length : Int) (40 : Int) rfl rfl (wl_s (o_move (Value.bool (decide ((40 : Int) < (l.length : Int)))) rfl (?_)))))))))
  cases hb1274 : (decide ((40 : Int) < (l.length : Int)))
  · have hp1275 : (l.length : Int) ≤ (40 : Int) := by first | simpa using hb1274 | (have e := hb1274; simp at e; omega)
    refine wl_t rfl (o_move (m_v) rfl (wl_t rfl (o_lenR Try.underlying28 rfl h_m (wl_t rfl (o_gtr .i64 (m.length : Int) (40 : Int) rfl rfl (wl_s (o_pickF (Value.bool (decide ((40 : Int) < (m.length : Int)))) rfl rfl (wl_nil (thenQ_n (?_))))))))))
    refine cw_cond (decide ((40 : Int) < (m.length : Int))) rfl rfl (fun hc1276 => ?_) (fun hc1276 => ?_)
    · have hp1277 : (40 : Int) < (m.length : Int) := by first | simpa using hc1276 | (have e := hc1276; simp at e; omega)
      refine cw_seq (?_)
      refine cw_region (by kernel_rfl) (wl_s (o_assign (Value.bool true) rfl (wl_nil (thenQ_n (?_)))))
      refine cw_ret (thenQ_r (end_r rfl (res1 rfl rfl rfl) (?_)))
      exact ⟨_, rfl, s1270.keep, rfl⟩
    · have hp1278 : (m.length : Int) ≤ (40 : Int) := by first | simpa using hc1276 | (have e := hc1276; simp at e; omega)
      refine cw_skip (thenQ_n (?_))
      refine cw_seq (?_)
      refine cw_region (by kernel_rfl) (wl_s (o_move (l_v) rfl (wl_s (o_lenR Try.underlying28 rfl h_l (wl_s (o_move (m_v) rfl (wl_s (o_lenR Try.underlying28 rfl h_m (wl_s (o_min .i64 (l.length : Int) (m.length : Int) rfl rfl (?_)))))))))))
      rw [show (if (m.length : Int) < (l.length : Int) then (m.length : Int) else (l.length : Int)) = ((min l.length m.length : Nat) : Int) from (by split <;> omega)]
      refine wl_s (o_assign (vI ((min l.length m.length : Nat) : Int)) rfl (wl_nil (thenQ_n (?_))))
      refine cw_seq (?_)
      refine cw_region (by kernel_rfl) (wl_s (o_litO (E := Enc.u8) (xs := []) Try.underlying28 s_5 z_5 (by decide) [] [] [] rfl rfl rfl (Parts.nil _ _ _) (of_decide_eq_true rfl) s1270 fun v1283 b1285 w1279 e1286 hb1287 s1280 m1281 k1282 hl1284 => (?_)))
      have hB1288 : ∀ b, v1283.ownBlock = some b → b ∈ (b1285 :: []) := fun b hb => by rw [hb1287] at hb; cases hb; simp
      clear e1286 hb1287
      have h_l := h_l.mv m1281
      have h_m := h_m.mv m1281
      refine wl_s (o_litO (E := Enc.u8) (xs := []) Try.underlying28 s_5 z_5 (by decide) [] [] [] rfl rfl rfl (Parts.nil _ _ _) (of_decide_eq_true rfl) s1280 fun v1293 b1295 w1289 e1296 hb1297 s1290 m1291 k1292 hl1294 => (?_))
      have ne1298 : ∀ b, v1283.ownBlock = some b → v1293.ownBlock ≠ some b := fun b hb => by have := (hl1284.lt b hb).2; rw [hb1297]; intro e; cases e; omega
      have ne1298' : ∀ b, v1293.ownBlock = some b → v1283.ownBlock ≠ some b := fun b hb e => ne1298 b e hb
      have hB1299 : ∀ b, v1293.ownBlock = some b → b ∈ (b1295 :: (b1285 :: [])) := fun b hb => by rw [hb1297] at hb; cases hb; simp
      clear e1296 hb1297
      have hB1288 : ∀ b, v1283.ownBlock = some b → b ∈ (b1295 :: (b1285 :: [])) := fun b hb => List.mem_cons_of_mem _ (hB1288 b hb)
      have h_l := h_l.mv m1291
      have h_m := h_m.mv m1291
      have hl1284 := hl1284.mv m1291 k1292 (by simp)
      refine wl_s (o_assign (v1283) rfl (wl_s (o_assign (v1293) rfl (wl_nil (thenQ_n (?_))))))
      refine cw_seq (?_)
      refine cw_seq (?_)
      refine cw_region (by kernel_rfl) (wl_s (o_assign (vI (0 : Int)) rfl (wl_nil (thenQ_n (?_)))))
      refine cw_block (?_)
      refine cw_loop (fun mI FI wI => ∃ (i : Nat) (vo0_10 : Value) (vo0_11 : Value) (B : List Nat), i ≤ min l.length m.length ∧ mI = min l.length m.length - i ∧ (∃ F1, FI = upds F1 [(0, l_v), (1, m_v), (2, vB a), (3, vB at_), (9, vI ((min l.length m.length : Nat) : Int)), (10, vo0_10), (11, vo0_11), (12, vI ((i : Nat) : Int)), (95, undef)]) ∧ St w O wI B ∧ Own Enc.u8 5 w.heap.size (B ++ O) wI vo0_10 ((tab i fun q => l[q]! ^^^ m[q]!)) ∧ (∀ b, vo0_10.ownBlock = some b → b ∈ B) ∧ Own Enc.u8 5 w.heap.size (B ++ O) wI vo0_11 ((tab i fun q => gmul a l[q]!)) ∧ (∀ b, vo0_11.ownBlock = some b → b ∈ B) ∧ RdL Enc.u8 wI (B ++ O) (l_v) (l) ∧ RdL Enc.u8 wI (B ++ O) (m_v) (m) ∧ (∀ b, vo0_10.ownBlock = some b → vo0_11.ownBlock ≠ some b) ∧ (∀ b, vo0_11.ownBlock = some b → vo0_10.ownBlock ≠ some b)) (min l.length m.length - (0)) ?_ ?_
      · exact ⟨(0), v1283, v1293, (b1295 :: (b1285 :: [])), (by first | omega | (simp; done) | (simp; omega) | simp_all), rfl, ⟨_, upds_self _ ⟨rfl, rfl, rfl, rfl, rfl, rfl, rfl, (by first | rfl | exact congrArg (Value.int _) (by first | omega | (simp))), rfl, trivial⟩⟩, s1290, (by rw [show (tab (0) fun q => l[q]! ^^^ m[q]!) = [] from rfl]; exact hl1284), hB1288, (by rw [show (tab (0) fun q => gmul a l[q]!) = [] from rfl]; exact hl1294), hB1299, h_l, h_m, ne1298, (fun b hb e => ne1298 b e hb)⟩
      · intro ml0 F wl0 hI
        clear h_l h_m
        obtain ⟨i, vo0_10, vo0_11, Bl0, hr0_0, hm0, ⟨Fl0, rfl⟩, sl0, ho0_10, hB0_10, ho0_11, hB0_11, h_l, h_m, nn0_10_11, nn0_11_10⟩ := hI
        refine cw_seq (?_)
        refine cw_seq (?_)
        refine cw_region (by kernel_rfl) (wl_s (o_move (vI ((i : Nat) : Int)) rfl (wl_s (o_move (vI ((min l.length m.length : Nat) : Int)) rfl (wl_s (o_lss .i64 ((i : Nat) : Int) ((min l.length m.length : Nat) : Int) rfl rfl (wl_nil (thenQ_n (?_)))))))))
        refine cw_cond (decide (((i : Nat) : Int) < ((min l.length m.length : Nat) : Int))) rfl rfl (fun hc1300 => ?_) (fun hc1300 => ?_)
        · have hp1301 : ((i : Nat) : Int) < ((min l.length m.length : Nat) : Int) := by first | simpa using hc1300 | (have e := hc1300; simp at e; omega)
          refine cw_skip (thenQ_n (?_))
          refine cw_seq (?_)
          refine cw_block (?_)
          refine cw_seq (?_)
          refine cw_draw' 11 _ _ [fun v _ => v = vo0_10, fun v w => RdL Enc.u8 w (Bl0 ++ O) v (l), fun v _ => v = vI ((i : Nat) : Int), fun v w => ∃ a, v = .pointer (some a) ∧ PT Enc.u8 w (Bl0 ++ O) (.pointer (some a)) (l[i]!), fun v _ => v = vB (l[i]!), fun v w => RdL Enc.u8 w (Bl0 ++ O) v (m), fun v _ => v = vI ((i : Nat) : Int), fun v w => ∃ a, v = .pointer (some a) ∧ PT Enc.u8 w (Bl0 ++ O) (.pointer (some a)) (m[i]!), fun v _ => v = vB (m[i]!), fun v _ => v = vB ((l[i]!) ^^^ (m[i]!)), fun v w => RdL Enc.u8 w (Bl0 ++ O) v ([(l[i]!) ^^^ (m[i]!)])] (by kernel_rfl) (by kernel_rfl) (by kernel_rfl) (by kernel_rfl) rfl rfl ⟨fun _ _ _ h _ => h, fun _ _ _ h k => h.mv (Mv.of_keep k), fun _ _ _ h _ => h, fun _ _ _ ⟨a, e, h⟩ k => ⟨a, e, h.mv (Mv.of_keep k)⟩, fun _ _ _ h _ => h, fun _ _ _ h k => h.mv (Mv.of_keep k), fun _ _ _ h _ => h, fun _ _ _ ⟨a, e, h⟩ k => ⟨a, e, h.mv (Mv.of_keep k)⟩, fun _ _ _ h _ => h, fun _ _ _ h _ => h, fun _ _ _ h k => h.mv (Mv.of_keep k), trivial⟩ ⟨?_, ?_, ?_, ?_, ?_, ?_, ?_, ?_, ?_, ?_, ?_, trivial⟩ ?_
          · intro F1 w1 k1 hf hd
            have k0 := (Keep.drew [] wl0).trans k1
            have s1 := sl0.call k0
            have m1 : Mv Bl0 wl0 Bl0 w1 := Mv.of_keep k0
            have ho0_10 := ho0_10.mv m1 k0 (by simp)
            obtain ⟨F2, rfl⟩ := lit_of (F := F1) [(10, vo0_10)] ⟨hf 10 (by kernel_rfl), trivial⟩
            exact sp_plain rfl ((o_move (vo0_10) rfl (⟨(Keep.refl _ _), rfl⟩)))
          · intro F1 w1 k1 hf hd
            have k0 := (Keep.drew [] wl0).trans k1
            have s1 := sl0.call k0
            have m1 : Mv Bl0 wl0 Bl0 w1 := Mv.of_keep k0
            have h_l := h_l.mv m1
            obtain ⟨F2, rfl⟩ := lit_of (F := F1) [(0, l_v)] ⟨hf 0 (by kernel_rfl), trivial⟩
            exact sp_plain rfl ((o_move (l_v) rfl (⟨(Keep.refl _ _), h_l⟩)))
          · intro F1 w1 k1 hf hd
            have k0 := (Keep.drew [] wl0).trans k1
            have s1 := sl0.call k0
            have m1 : Mv Bl0 wl0 Bl0 w1 := Mv.of_keep k0
            obtain ⟨F2, rfl⟩ := lit_of (F := F1) [(12, vI ((i : Nat) : Int))] ⟨hf 12 (by kernel_rfl), trivial⟩
            exact sp_plain rfl ((o_move (vI ((i : Nat) : Int)) rfl (⟨(Keep.refl _ _), rfl⟩)))
          · intro F1 w1 k1 hf hd
            have k0 := (Keep.drew [] wl0).trans k1
            have s1 := sl0.call k0
            have m1 : Mv Bl0 wl0 Bl0 w1 := Mv.of_keep k0
            obtain ⟨v1302, e1304, hl1303⟩ : ∃ v, F1 38 = v ∧ RdL Enc.u8 w1 (Bl0 ++ O) v (l) := ⟨_, rfl, hd 1 38 (by kernel_rfl)⟩
            have := hl1303.len_le
            obtain ⟨F2, rfl⟩ := lit_of (F := F1) [(38, v1302), (39, vI ((i : Nat) : Int))] ⟨e1304, hd 2 39 (by kernel_rfl), trivial⟩
            exact sp_plain rfl ((o_idx Try.underlying28 s_5 .i64 ((i : Nat) : Int) i rfl rfl rfl hl1303 (by omega) fun a1305 hp1306 => (⟨(Keep.refl _ _), ⟨a1305, rfl, hp1306⟩⟩)))
          · intro F1 w1 k1 hf hd
            have k0 := (Keep.drew [] wl0).trans k1
            have s1 := sl0.call k0
            have m1 : Mv Bl0 wl0 Bl0 w1 := Mv.of_keep k0
            obtain ⟨a1307, e1309, hp1308⟩ : ∃ a, F1 40 = .pointer (some a) ∧ PT Enc.u8 w1 (Bl0 ++ O) (.pointer (some a)) (l[i]!) := hd 3 40 (by kernel_rfl)
            obtain ⟨F2, rfl⟩ := lit_of (F := F1) [(40, Value.pointer (some a1307))] ⟨e1309, trivial⟩
            exact sp_plain rfl ((o_loadB Try.underlying5 rfl rfl hp1308 (⟨(Keep.refl _ _), rfl⟩)))
          · intro F1 w1 k1 hf hd
            have k0 := (Keep.drew [] wl0).trans k1
            have s1 := sl0.call k0
            have m1 : Mv Bl0 wl0 Bl0 w1 := Mv.of_keep k0
            have h_m := h_m.mv m1
            obtain ⟨F2, rfl⟩ := lit_of (F := F1) [(1, m_v)] ⟨hf 1 (by kernel_rfl), trivial⟩
            exact sp_plain rfl ((o_move (m_v) rfl (⟨(Keep.refl _ _), h_m⟩)))
          · intro F1 w1 k1 hf hd
            have k0 := (Keep.drew [] wl0).trans k1
            have s1 := sl0.call k0
            have m1 : Mv Bl0 wl0 Bl0 w1 := Mv.of_keep k0
            obtain ⟨F2, rfl⟩ := lit_of (F := F1) [(12, vI ((i : Nat) : Int))] ⟨hf 12 (by kernel_rfl), trivial⟩
            exact sp_plain rfl ((o_move (vI ((i : Nat) : Int)) rfl (⟨(Keep.refl _ _), rfl⟩)))
          · intro F1 w1 k1 hf hd
            have k0 := (Keep.drew [] wl0).trans k1
            have s1 := sl0.call k0
            have m1 : Mv Bl0 wl0 Bl0 w1 := Mv.of_keep k0
            obtain ⟨v1310, e1312, hl1311⟩ : ∃ v, F1 42 = v ∧ RdL Enc.u8 w1 (Bl0 ++ O) v (m) := ⟨_, rfl, hd 5 42 (by kernel_rfl)⟩
            have := hl1311.len_le
            obtain ⟨F2, rfl⟩ := lit_of (F := F1) [(42, v1310), (43, vI ((i : Nat) : Int))] ⟨e1312, hd 6 43 (by kernel_rfl), trivial⟩
            exact sp_plain rfl ((o_idx Try.underlying28 s_5 .i64 ((i : Nat) : Int) i rfl rfl rfl hl1311 (by omega) fun a1313 hp1314 => (⟨(Keep.refl _ _), ⟨a1313, rfl, hp1314⟩⟩)))
          · intro F1 w1 k1 hf hd
            have k0 := (Keep.drew [] wl0).trans k1
            have s1 := sl0.call k0
            have m1 : Mv Bl0 wl0 Bl0 w1 := Mv.of_keep k0
            obtain ⟨a1315, e1317, hp1316⟩ : ∃ a, F1 44 = .pointer (some a) ∧ PT Enc.u8 w1 (Bl0 ++ O) (.pointer (some a)) (m[i]!) := hd 7 44 (by kernel_rfl)
            obtain ⟨F2, rfl⟩ := lit_of (F := F1) [(44, Value.pointer (some a1315))] ⟨e1317, trivial⟩
            exact sp_plain rfl ((o_loadB Try.underlying5 rfl rfl hp1316 (⟨(Keep.refl _ _), rfl⟩)))
          · intro F1 w1 k1 hf hd
            have k0 := (Keep.drew [] wl0).trans k1
            have s1 := sl0.call k0
            have m1 : Mv Bl0 wl0 Bl0 w1 := Mv.of_keep k0
            obtain ⟨F2, rfl⟩ := lit_of (F := F1) [(41, vB (l[i]!)), (45, vB (m[i]!))] ⟨hd 4 41 (by kernel_rfl), hd 8 45 (by kernel_rfl), trivial⟩
            exact sp_plain rfl ((o_xor8 (l[i]!) (m[i]!) rfl rfl (⟨(Keep.refl _ _), rfl⟩)))
          · intro F1 w1 k1 hf hd
            have k0 := (Keep.drew [] wl0).trans k1
            have s1 := sl0.call k0
            have m1 : Mv Bl0 wl0 Bl0 w1 := Mv.of_keep k0
            obtain ⟨F2, rfl⟩ := lit_of (F := F1) [(46, vB ((l[i]!) ^^^ (m[i]!)))] ⟨hd 9 46 (by kernel_rfl), trivial⟩
            refine sp_plain rfl ((o_lit (E := Enc.u8) (xs := [.tmp 46]) Try.underlying28 s_5 z_5 (by decide) [vB ((l[i]!) ^^^ (m[i]!))] [[vB ((l[i]!) ^^^ (m[i]!))]] [(l[i]!) ^^^ (m[i]!)] rfl rfl rfl (Parts.cons rfl rfl (Parts.nil _ _ _)) (of_decide_eq_true rfl) s1 fun v1322 w1318 s1319 m1320 k1321 hl1323 => (?_)))
            have := hl1323.len_le
            exact ⟨k1321, hl1323⟩
          intro F1325 w1326 k1324 hT1327 hF1328
          have s1329 := sl0.call k1324
          have m1330 : Mv Bl0 wl0 Bl0 w1326 := Mv.of_keep k1324
          have h_l := h_l.mv m1330
          have h_m := h_m.mv m1330
          have ho0_10 := ho0_10.mv m1330 k1324 (by simp)
          have ho0_11 := ho0_11.mv m1330 k1324 (by simp)
          obtain ⟨v1332, e1334, hl1333⟩ : ∃ v, F1325 38 = v ∧ RdL Enc.u8 w1326 (Bl0 ++ O) v (l) := ⟨_, rfl, hT1327 1 38 (by kernel_rfl) (by decide)⟩
          have := hl1333.len_le
          obtain ⟨a1335, e1337, hp1336⟩ : ∃ a, F1325 40 = .pointer (some a) ∧ PT Enc.u8 w1326 (Bl0 ++ O) (.pointer (some a)) (l[i]!) := hT1327 3 40 (by kernel_rfl) (by decide)
          obtain ⟨v1338, e1340, hl1339⟩ : ∃ v, F1325 42 = v ∧ RdL Enc.u8 w1326 (Bl0 ++ O) v (m) := ⟨_, rfl, hT1327 5 42 (by kernel_rfl) (by decide)⟩
          have := hl1339.len_le
          obtain ⟨a1341, e1343, hp1342⟩ : ∃ a, F1325 44 = .pointer (some a) ∧ PT Enc.u8 w1326 (Bl0 ++ O) (.pointer (some a)) (m[i]!) := hT1327 7 44 (by kernel_rfl) (by decide)
          obtain ⟨v1344, e1346, hl1345⟩ : ∃ v, F1325 47 = v ∧ RdL Enc.u8 w1326 (Bl0 ++ O) v ([(l[i]!) ^^^ (m[i]!)]) := ⟨_, rfl, hT1327 10 47 (by kernel_rfl) (by decide)⟩
          have := hl1345.len_le
          obtain ⟨F2, rfl⟩ := lit_of (F := F1325) [(0, l_v), (1, m_v), (2, vB a), (3, vB at_), (9, vI ((min l.length m.length : Nat) : Int)), (10, vo0_10), (11, vo0_11), (12, vI ((i : Nat) : Int)), (32, vI ((i : Nat) : Int)), (33, vI ((min l.length m.length : Nat) : Int)), (34, Value.bool (decide (((i : Nat) : Int) < ((min l.length m.length : Nat) : Int)))), (95, undef), (37, vo0_10), (38, v1332), (39, vI ((i : Nat) : Int)), (40, Value.pointer (some a1335)), (41, vB (l[i]!)), (42, v1338), (43, vI ((i : Nat) : Int)), (44, Value.pointer (some a1341)), (45, vB (m[i]!)), (46, vB ((l[i]!) ^^^ (m[i]!))), (47, v1344)] ⟨hF1328 0 (by kernel_rfl), hF1328 1 (by kernel_rfl), hF1328 2 (by kernel_rfl), hF1328 3 (by kernel_rfl), hF1328 9 (by kernel_rfl), hF1328 10 (by kernel_rfl), hF1328 11 (by kernel_rfl), hF1328 12 (by kernel_rfl), hF1328 32 (by kernel_rfl), hF1328 33 (by kernel_rfl), hF1328 34 (by kernel_rfl), hF1328 95 (by kernel_rfl), hT1327 0 37 (by kernel_rfl) (by decide), e1334, hT1327 2 39 (by kernel_rfl) (by decide), e1337, hT1327 4 41 (by kernel_rfl) (by decide), e1340, hT1327 6 43 (by kernel_rfl) (by decide), e1343, hT1327 8 45 (by kernel_rfl) (by decide), hT1327 9 46 (by kernel_rfl) (by decide), e1346, trivial⟩
          clear hT1327 hF1328
          refine wl_s (o_append (E := Enc.u8) (l := (tab i fun q => l[q]! ^^^ m[q]!)) (m := [(l[i]!) ^^^ (m[i]!)]) Try.underlying28 i_5 rfl (by decide) rfl rfl ho0_10 hl1345 (fun _ hb => .inl hb) hB0_10 (by simp [tab_len]; omega) (by simp [tab_len, maxLen]; omega) s1329 fun v1351 w1347 B1353 hB1354 at1355 sub1356 s1348 m1349 k1350 ho1352 => (?_))
          have ne1357 : ∀ b, vo0_11.ownBlock = some b → v1351.ownBlock ≠ some b := fun b hb e => by rcases at1355 with e1 | e1 <;> rw [e1] at e <;> first | (simp [Value.ownBlock] at e; done) | (exact absurd e (nn0_11_10 b hb)) | (cases e; have := (ho0_11.lt _ hb).2; omega)
          have hB0_11 : ∀ b, vo0_11.ownBlock = some b → b ∈ B1353 := fun b hb => sub1356 b (hB0_11 b hb)
          have h_l := h_l.mv m1349
          have h_m := h_m.mv m1349
          have ho0_11 := ho0_11.mv m1349 k1350 (fun b hb => by simp only [Option.mem_toList]; first | (simp [Value.ownBlock]; done) | exact nn0_11_10 b hb)
          have hl1333 := hl1333.mv m1349
          have hp1336 := hp1336.mv m1349
          have hl1339 := hl1339.mv m1349
          have hp1342 := hp1342.mv m1349
          have hl1345 := hl1345.mv m1349
          refine wl_s (o_assign (v1351) rfl (wl_nil (thenQ_n (?_))))
          refine cw_region (by kernel_rfl) (wl_s (o_move (vo0_11) rfl (wl_s (o_move (vB a) rfl (wl_s (o_move (l_v) rfl (wl_s (o_move (vI ((i : Nat) : Int)) rfl (wl_s (o_idx Try.underlying28 s_5 .i64 ((i : Nat) : Int) i rfl rfl rfl h_l (by omega) fun a1358 hp1359 => (wl_s (o_loadB Try.underlying5 rfl rfl hp1359 (wl_s (o_callK (vs := [vB a, vB (l[i]!)]) enter_20 (c_mul (O := B1353 ++ O) a (l[i]!) w1347 s1348.lt) rfl s1348 fun v1360 w1361 s1362 m1363 k1364 r1365 => (?_)))))))))))))))
          obtain rfl := r1365
          have h_l := h_l.mv m1363
          have h_m := h_m.mv m1363
          have ho1352 := ho1352.mv m1363 k1364 (by simp)
          have ho0_11 := ho0_11.mv m1363 k1364 (by simp)
          have hl1333 := hl1333.mv m1363
          have hp1336 := hp1336.mv m1363
          have hl1339 := hl1339.mv m1363
          have hp1342 := hp1342.mv m1363
          have hl1345 := hl1345.mv m1363
          have hp1359 := hp1359.mv m1363
          refine wl_s (o_lit (E := Enc.u8) (xs := [.tmp 55]) Try.underlying28 s_5 z_5 (by decide) [vB (gmul a (l[i]!))] [[vB (gmul a (l[i]!))]] [gmul a (l[i]!)] rfl rfl rfl (Parts.cons rfl rfl (Parts.nil _ _ _)) (of_decide_eq_true rfl) s1362 fun v1370 w1366 s1367 m1368 k1369 hl1371 => (?_))
          have h_l := h_l.mv m1368
          have h_m := h_m.mv m1368
          have ho1352 := ho1352.mv m1368 k1369 (by simp)
          have ho0_11 := ho0_11.mv m1368 k1369 (by simp)
          have hl1333 := hl1333.mv m1368
          have hp1336 := hp1336.mv m1368
          have hl1339 := hl1339.mv m1368
          have hp1342 := hp1342.mv m1368
          have hl1345 := hl1345.mv m1368
          have hp1359 := hp1359.mv m1368
          have := hl1371.len_le
          refine wl_s (o_append (E := Enc.u8) (l := (tab i fun q => gmul a l[q]!)) (m := [gmul a (l[i]!)]) Try.underlying28 i_5 rfl (by decide) rfl rfl ho0_11 hl1371 (fun _ hb => .inl hb) hB0_11 (by simp [tab_len]; omega) (by simp [tab_len, maxLen]; omega) s1367 fun v1376 w1372 B1378 hB1379 at1380 sub1381 s1373 m1374 k1375 ho1377 => (?_))
          have ne1382 : ∀ b, v1351.ownBlock = some b → v1376.ownBlock ≠ some b := fun b hb e => by rcases at1380 with e1 | e1 <;> rw [e1] at e <;> first | (simp [Value.ownBlock] at e; done) | (exact absurd e ((fun b hb e => ne1357 b e hb) b hb)) | (cases e; have := (ho1352.lt _ hb).2; omega)
          have hB1354 : ∀ b, v1351.ownBlock = some b → b ∈ B1378 := fun b hb => sub1381 b (hB1354 b hb)
          have h_l := h_l.mv m1374
          have h_m := h_m.mv m1374
          have ho1352 := ho1352.mv m1374 k1375 (fun b hb => by simp only [Option.mem_toList]; first | (simp [Value.ownBlock]; done) | exact (fun b hb e => ne1357 b e hb) b hb)
          have hl1333 := hl1333.mv m1374
          have hp1336 := hp1336.mv m1374
          have hl1339 := hl1339.mv m1374
          have hp1342 := hp1342.mv m1374
          have hl1345 := hl1345.mv m1374
          have hp1359 := hp1359.mv m1374
          have hl1371 := hl1371.mv m1374
          refine wl_s (o_assign (v1376) rfl (wl_nil (blockQ_n (thenQ_n (?_)))))
          refine cw_region (by kernel_rfl) (wl_s (o_move (vI ((i : Nat) : Int)) rfl (wl_s (o_add .i64 ((i : Nat) : Int) (1 : Int) (((i + 1 : Nat) : Int)) rfl rfl (w64 (by omega) (by omega)) (wl_s (o_assign (vI ((i + 1 : Nat) : Int)) rfl (wl_nil (thenQ_n (?_)))))))))
          exact ⟨_, (by omega), (i + 1), v1351, v1376, B1378, (by first | omega | (simp; done) | (simp; omega) | simp_all), rfl, ⟨_, upds_self _ ⟨rfl, rfl, rfl, rfl, rfl, rfl, rfl, (by first | rfl | exact congrArg (Value.int _) (by first | omega | (simp))), rfl, trivial⟩⟩, s1373, (by rw [show (tab (i + 1) fun q => l[q]! ^^^ m[q]!) = (tab i fun q => l[q]! ^^^ m[q]!) ++ ([(l[i]!) ^^^ (m[i]!)]) from tab_succ _ _]; exact ho1352), hB1354, (by rw [show (tab (i + 1) fun q => gmul a l[q]!) = (tab i fun q => gmul a l[q]!) ++ ([gmul a (l[i]!)]) from tab_succ _ _]; exact ho1377), hB1379, h_l, h_m, ne1382, (fun b hb e => ne1382 b e hb)⟩
        · have hp1383 : ((min l.length m.length : Nat) : Int) ≤ ((i : Nat) : Int) := by first | simpa using hc1300 | (have e := hc1300; simp at e; omega)
          obtain rfl : i = min l.length m.length := by omega
          refine cw_exit (thenQ_x (thenQ_x (blockQ_x (thenQ_n (?_)))))
          refine cw_seq (?_)
          refine cw_draw' 9 _ _ [fun v w => RdL Enc.u8 w (Bl0 ++ O) v (l), fun v _ => v = vI ((min l.length m.length : Nat) : Int), fun v w => RdL Enc.u8 w (Bl0 ++ O) v ((l.take (min l.length m.length))), fun v _ => v = vB at_, fun v _ => v = vB (pev (l.take (min l.length m.length)) at_), fun v w => RdL Enc.u8 w (Bl0 ++ O) v (m), fun v _ => v = vI ((min l.length m.length : Nat) : Int), fun v w => RdL Enc.u8 w (Bl0 ++ O) v ((m.take (min l.length m.length))), fun v _ => v = vB at_] (by kernel_rfl) (by kernel_rfl) (by kernel_rfl) (by kernel_rfl) rfl rfl ⟨fun _ _ _ h k => h.mv (Mv.of_keep k), fun _ _ _ h _ => h, fun _ _ _ h k => h.mv (Mv.of_keep k), fun _ _ _ h _ => h, fun _ _ _ h _ => h, fun _ _ _ h k => h.mv (Mv.of_keep k), fun _ _ _ h _ => h, fun _ _ _ h k => h.mv (Mv.of_keep k), fun _ _ _ h _ => h, trivial⟩ ⟨?_, ?_, ?_, ?_, ?_, ?_, ?_, ?_, ?_, trivial⟩ ?_
          · intro F1 w1 k1 hf hd
            have k0 := (Keep.drew [] wl0).trans k1
            have s1 := sl0.call k0
            have m1 : Mv Bl0 wl0 Bl0 w1 := Mv.of_keep k0
            have h_l := h_l.mv m1
            obtain ⟨F2, rfl⟩ := lit_of (F := F1) [(0, l_v)] ⟨hf 0 (by kernel_rfl), trivial⟩
            exact sp_plain rfl ((o_move (l_v) rfl (⟨(Keep.refl _ _), h_l⟩)))
          · intro F1 w1 k1 hf hd
            have k0 := (Keep.drew [] wl0).trans k1
            have s1 := sl0.call k0
            have m1 : Mv Bl0 wl0 Bl0 w1 := Mv.of_keep k0
            obtain ⟨F2, rfl⟩ := lit_of (F := F1) [(9, vI ((min l.length m.length : Nat) : Int))] ⟨hf 9 (by kernel_rfl), trivial⟩
            exact sp_plain rfl ((o_move (vI ((min l.length m.length : Nat) : Int)) rfl (⟨(Keep.refl _ _), rfl⟩)))
          · intro F1 w1 k1 hf hd
            have k0 := (Keep.drew [] wl0).trans k1
            have s1 := sl0.call k0
            have m1 : Mv Bl0 wl0 Bl0 w1 := Mv.of_keep k0
            obtain ⟨v1384, e1386, hl1385⟩ : ∃ v, F1 58 = v ∧ RdL Enc.u8 w1 (Bl0 ++ O) v (l) := ⟨_, rfl, hd 0 58 (by kernel_rfl)⟩
            have := hl1385.len_le
            obtain ⟨F2, rfl⟩ := lit_of (F := F1) [(58, v1384), (59, vI ((min l.length m.length : Nat) : Int))] ⟨e1386, hd 1 59 (by kernel_rfl), trivial⟩
            refine sp_plain rfl ((o_sliceR Try.underlying28 s_5 0 (min l.length m.length) rfl (.inl ⟨rfl, rfl⟩) (.inr ⟨.tmp 59, .i64, ((min l.length m.length : Nat) : Int), rfl, rfl, rfl⟩) (by omega) (by omega) hl1385 fun v1387 hl1388 => (?_)))
            rw [List.drop_zero] at hl1388
            exact ⟨(Keep.refl _ _), hl1388⟩
          · intro F1 w1 k1 hf hd
            have k0 := (Keep.drew [] wl0).trans k1
            have s1 := sl0.call k0
            have m1 : Mv Bl0 wl0 Bl0 w1 := Mv.of_keep k0
            obtain ⟨F2, rfl⟩ := lit_of (F := F1) [(3, vB at_)] ⟨hf 3 (by kernel_rfl), trivial⟩
            exact sp_plain rfl ((o_move (vB at_) rfl (⟨(Keep.refl _ _), rfl⟩)))
          · intro F1 w1 k1 hf hd
            have k0 := (Keep.drew [] wl0).trans k1
            have s1 := sl0.call k0
            have m1 : Mv Bl0 wl0 Bl0 w1 := Mv.of_keep k0
            obtain ⟨v1389, e1391, hl1390⟩ : ∃ v, F1 60 = v ∧ RdL Enc.u8 w1 (Bl0 ++ O) v ((l.take (min l.length m.length))) := ⟨_, rfl, hd 2 60 (by kernel_rfl)⟩
            have := hl1390.len_le
            obtain ⟨F2, rfl⟩ := lit_of (F := F1) [(60, v1389), (61, vB at_)] ⟨e1391, hd 3 61 (by kernel_rfl), trivial⟩
            refine sp_plain rfl ((o_callK (vs := [v1389, vB at_]) enter_26 (c_eval (O := Bl0 ++ O) v1389 (l.take (min l.length m.length)) at_ w1 hl1390 s1.lt) rfl s1 fun v1392 w1393 s1394 m1395 k1396 r1397 => (?_)))
            obtain rfl := r1397
            have hl1390 := hl1390.mv m1395
            exact ⟨k1396, rfl⟩
          · intro F1 w1 k1 hf hd
            have k0 := (Keep.drew [] wl0).trans k1
            have s1 := sl0.call k0
            have m1 : Mv Bl0 wl0 Bl0 w1 := Mv.of_keep k0
            have h_m := h_m.mv m1
            obtain ⟨F2, rfl⟩ := lit_of (F := F1) [(1, m_v)] ⟨hf 1 (by kernel_rfl), trivial⟩
            exact sp_plain rfl ((o_move (m_v) rfl (⟨(Keep.refl _ _), h_m⟩)))
          · intro F1 w1 k1 hf hd
            have k0 := (Keep.drew [] wl0).trans k1
            have s1 := sl0.call k0
            have m1 : Mv Bl0 wl0 Bl0 w1 := Mv.of_keep k0
            obtain ⟨F2, rfl⟩ := lit_of (F := F1) [(9, vI ((min l.length m.length : Nat) : Int))] ⟨hf 9 (by kernel_rfl), trivial⟩
            exact sp_plain rfl ((o_move (vI ((min l.length m.length : Nat) : Int)) rfl (⟨(Keep.refl _ _), rfl⟩)))
          · intro F1 w1 k1 hf hd
            have k0 := (Keep.drew [] wl0).trans k1
            have s1 := sl0.call k0
            have m1 : Mv Bl0 wl0 Bl0 w1 := Mv.of_keep k0
            obtain ⟨v1398, e1400, hl1399⟩ : ∃ v, F1 63 = v ∧ RdL Enc.u8 w1 (Bl0 ++ O) v (m) := ⟨_, rfl, hd 5 63 (by kernel_rfl)⟩
            have := hl1399.len_le
            obtain ⟨F2, rfl⟩ := lit_of (F := F1) [(63, v1398), (64, vI ((min l.length m.length : Nat) : Int))] ⟨e1400, hd 6 64 (by kernel_rfl), trivial⟩
            refine sp_plain rfl ((o_sliceR Try.underlying28 s_5 0 (min l.length m.length) rfl (.inl ⟨rfl, rfl⟩) (.inr ⟨.tmp 64, .i64, ((min l.length m.length : Nat) : Int), rfl, rfl, rfl⟩) (by omega) (by omega) hl1399 fun v1401 hl1402 => (?_)))
            rw [List.drop_zero] at hl1402
            exact ⟨(Keep.refl _ _), hl1402⟩
          · intro F1 w1 k1 hf hd
            have k0 := (Keep.drew [] wl0).trans k1
            have s1 := sl0.call k0
            have m1 : Mv Bl0 wl0 Bl0 w1 := Mv.of_keep k0
            obtain ⟨F2, rfl⟩ := lit_of (F := F1) [(3, vB at_)] ⟨hf 3 (by kernel_rfl), trivial⟩
            exact sp_plain rfl ((o_move (vB at_) rfl (⟨(Keep.refl _ _), rfl⟩)))
          intro F1404 w1405 k1403 hT1406 hF1407
          have s1408 := sl0.call k1403
          have m1409 : Mv Bl0 wl0 Bl0 w1405 := Mv.of_keep k1403
          have h_l := h_l.mv m1409
          have h_m := h_m.mv m1409
          have ho0_10 := ho0_10.mv m1409 k1403 (by simp)
          have ho0_11 := ho0_11.mv m1409 k1403 (by simp)
          obtain ⟨v1411, e1413, hl1412⟩ : ∃ v, F1404 58 = v ∧ RdL Enc.u8 w1405 (Bl0 ++ O) v (l) := ⟨_, rfl, hT1406 0 58 (by kernel_rfl) (by decide)⟩
          have := hl1412.len_le
          obtain ⟨v1414, e1416, hl1415⟩ : ∃ v, F1404 60 = v ∧ RdL Enc.u8 w1405 (Bl0 ++ O) v ((l.take (min l.length m.length))) := ⟨_, rfl, hT1406 2 60 (by kernel_rfl) (by decide)⟩
          have := hl1415.len_le
          obtain ⟨v1417, e1419, hl1418⟩ : ∃ v, F1404 63 = v ∧ RdL Enc.u8 w1405 (Bl0 ++ O) v (m) := ⟨_, rfl, hT1406 5 63 (by kernel_rfl) (by decide)⟩
          have := hl1418.len_le
          obtain ⟨v1420, e1422, hl1421⟩ : ∃ v, F1404 65 = v ∧ RdL Enc.u8 w1405 (Bl0 ++ O) v ((m.take (min l.length m.length))) := ⟨_, rfl, hT1406 7 65 (by kernel_rfl) (by decide)⟩
          have := hl1421.len_le
          obtain ⟨F2, rfl⟩ := lit_of (F := F1404) [(0, l_v), (1, m_v), (2, vB a), (3, vB at_), (9, vI ((min l.length m.length : Nat) : Int)), (10, vo0_10), (11, vo0_11), (12, vI (((min l.length m.length) : Nat) : Int)), (32, vI (((min l.length m.length) : Nat) : Int)), (33, vI ((min l.length m.length : Nat) : Int)), (34, Value.bool (decide ((((min l.length m.length) : Nat) : Int) < ((min l.length m.length : Nat) : Int)))), (95, undef), (58, v1411), (59, vI ((min l.length m.length : Nat) : Int)), (60, v1414), (61, vB at_), (62, vB (pev (l.take (min l.length m.length)) at_)), (63, v1417), (64, vI ((min l.length m.length : Nat) : Int)), (65, v1420), (66, vB at_)] ⟨hF1407 0 (by kernel_rfl), hF1407 1 (by kernel_rfl), hF1407 2 (by kernel_rfl), hF1407 3 (by kernel_rfl), hF1407 9 (by kernel_rfl), hF1407 10 (by kernel_rfl), hF1407 11 (by kernel_rfl), hF1407 12 (by kernel_rfl), hF1407 32 (by kernel_rfl), hF1407 33 (by kernel_rfl), hF1407 34 (by kernel_rfl), hF1407 95 (by kernel_rfl), e1413, hT1406 1 59 (by kernel_rfl) (by decide), e1416, hT1406 3 61 (by kernel_rfl) (by decide), hT1406 4 62 (by kernel_rfl) (by decide), e1419, hT1406 6 64 (by kernel_rfl) (by decide), e1422, hT1406 8 66 (by kernel_rfl) (by decide), trivial⟩
          clear hT1406 hF1407
          refine wl_s (o_callK (vs := [v1420, vB at_]) enter_26 (c_eval (O := Bl0 ++ O) v1420 (m.take (min l.length m.length)) at_ w1405 hl1421 s1408.lt) rfl s1408 fun v1423 w1424 s1425 m1426 k1427 r1428 => (?_))
          obtain rfl := r1428
          have h_l := h_l.mv m1426
          have h_m := h_m.mv m1426
          have ho0_10 := ho0_10.mv m1426 k1427 (by simp)
          have ho0_11 := ho0_11.mv m1426 k1427 (by simp)
          have hl1412 := hl1412.mv m1426
          have hl1415 := hl1415.mv m1426
          have hl1418 := hl1418.mv m1426
          have hl1421 := hl1421.mv m1426
          refine wl_s (o_assign (vB (pev (l.take (min l.length m.length)) at_)) rfl (wl_s (o_assign (vB (pev (m.take (min l.length m.length)) at_)) rfl (wl_nil (thenQ_n (?_))))))
          refine cw_seq (?_)
          refine cw_region (by kernel_rfl) (wl_s (o_move (vo0_10) rfl (wl_s (o_move (vB at_) rfl (wl_s (o_callK (vs := [vo0_10, vB at_]) enter_26 (c_eval (O := []) vo0_10 (tab (min l.length m.length) fun q => l[q]! ^^^ m[q]!) at_ w1424 ho0_10.rd0 no_blocks) rfl s1425 fun v1429 w1430 s1431 m1432 k1433 r1434 => (?_)))))))
          obtain rfl := r1434
          have h_l := h_l.mv m1432
          have h_m := h_m.mv m1432
          have ho0_10 := ho0_10.mv m1432 k1433 (by simp)
          have ho0_11 := ho0_11.mv m1432 k1433 (by simp)
          have hl1412 := hl1412.mv m1432
          have hl1415 := hl1415.mv m1432
          have hl1418 := hl1418.mv m1432
          have hl1421 := hl1421.mv m1432
          refine wl_s (o_move (vB (pev (l.take (min l.length m.length)) at_)) rfl (wl_s (o_move (vB (pev (m.take (min l.length m.length)) at_)) rfl (wl_s (o_xor8 (pev (l.take (min l.length m.length)) at_) (pev (m.take (min l.length m.length)) at_) rfl rfl (wl_s (o_eql8 (pev (tab (min l.length m.length) fun q => l[q]! ^^^ m[q]!) at_) ((pev (l.take (min l.length m.length)) at_) ^^^ (pev (m.take (min l.length m.length)) at_)) rfl rfl (wl_s (o_move (Value.bool ((pev (tab (min l.length m.length) fun q => l[q]! ^^^ m[q]!) at_) == ((pev (l.take (min l.length m.length)) at_) ^^^ (pev (m.take (min l.length m.length)) at_)))) rfl (?_))))))))))
          have hb1435 : ((pev (tab (min l.length m.length) fun q => l[q]! ^^^ m[q]!) at_) == ((pev (l.take (min l.length m.length)) at_) ^^^ (pev (m.take (min l.length m.length)) at_))) = true := (by rw [sum_pev]; exact beq_self_eq_true _)
          rw [hb1435]
          refine wl_t rfl (o_move (vo0_11) rfl (wl_t rfl (o_move (vB at_) rfl (wl_t rfl (o_callK (vs := [vo0_11, vB at_]) enter_26 (c_eval (O := []) vo0_11 (tab (min l.length m.length) fun q => gmul a l[q]!) at_ w1430 ho0_11.rd0 no_blocks) rfl s1431 fun v1436 w1437 s1438 m1439 k1440 r1441 => (?_))))))
          obtain rfl := r1441
          have h_l := h_l.mv m1439
          have h_m := h_m.mv m1439
          have ho0_10 := ho0_10.mv m1439 k1440 (by simp)
          have ho0_11 := ho0_11.mv m1439 k1440 (by simp)
          have hl1412 := hl1412.mv m1439
          have hl1415 := hl1415.mv m1439
          have hl1418 := hl1418.mv m1439
          have hl1421 := hl1421.mv m1439
          refine wl_t rfl (o_move (vB a) rfl (wl_t rfl (o_move (vB (pev (l.take (min l.length m.length)) at_)) rfl (wl_t rfl (o_callK (vs := [vB a, vB (pev (l.take (min l.length m.length)) at_)]) enter_20 (c_mul (O := Bl0 ++ O) a (pev (l.take (min l.length m.length)) at_) w1437 s1438.lt) rfl s1438 fun v1442 w1443 s1444 m1445 k1446 r1447 => (?_))))))
          obtain rfl := r1447
          have h_l := h_l.mv m1445
          have h_m := h_m.mv m1445
          have ho0_10 := ho0_10.mv m1445 k1446 (by simp)
          have ho0_11 := ho0_11.mv m1445 k1446 (by simp)
          have hl1412 := hl1412.mv m1445
          have hl1415 := hl1415.mv m1445
          have hl1418 := hl1418.mv m1445
          have hl1421 := hl1421.mv m1445
          refine wl_t rfl (o_eql8 (pev (tab (min l.length m.length) fun q => gmul a l[q]!) at_) (gmul a (pev (l.take (min l.length m.length)) at_)) rfl rfl (wl_s (o_pickT (Value.bool ((pev (tab (min l.length m.length) fun q => gmul a l[q]!) at_) == (gmul a (pev (l.take (min l.length m.length)) at_)))) rfl rfl (wl_s (o_move (Value.bool ((pev (tab (min l.length m.length) fun q => gmul a l[q]!) at_) == (gmul a (pev (l.take (min l.length m.length)) at_)))) rfl (?_))))))
          have hb1448 : ((pev (tab (min l.length m.length) fun q => gmul a l[q]!) at_) == (gmul a (pev (l.take (min l.length m.length)) at_))) = true := (by rw [mul_pev]; exact beq_self_eq_true _)
          rw [hb1448]
          refine wl_t rfl (o_move (vo0_10) rfl (wl_t rfl (o_lit (E := Enc.u8) (xs := [.const (vB (0 : UInt8)), .const (vB (0 : UInt8))]) Try.underlying28 s_5 z_5 (by decide) [vB (0 : UInt8), vB (0 : UInt8)] [[vB (0 : UInt8)], [vB (0 : UInt8)]] [(0 : UInt8), (0 : UInt8)] rfl rfl rfl (Parts.cons rfl rfl (Parts.cons rfl rfl (Parts.nil _ _ _))) (of_decide_eq_true rfl) s1444 fun v1453 w1449 s1450 m1451 k1452 hl1454 => (?_))))
          have h_l := h_l.mv m1451
          have h_m := h_m.mv m1451
          have ho0_10 := ho0_10.mv m1451 k1452 (by simp)
          have ho0_11 := ho0_11.mv m1451 k1452 (by simp)
          have hl1412 := hl1412.mv m1451
          have hl1415 := hl1415.mv m1451
          have hl1418 := hl1418.mv m1451
          have hl1421 := hl1421.mv m1451
          have := hl1454.len_le
          refine wl_t rfl (o_append (E := Enc.u8) (l := (tab (min l.length m.length) fun q => l[q]! ^^^ m[q]!)) (m := [(0 : UInt8), (0 : UInt8)]) Try.underlying28 i_5 rfl (by decide) rfl rfl ho0_10 hl1454 (fun _ hb => .inl hb) hB0_10 (by simp [tab_len]; omega) (by simp [tab_len, maxLen]; omega) s1450 fun v1459 w1455 B1461 hB1462 at1463 sub1464 s1456 m1457 k1458 ho1460 => (?_))
          have ne1465 : ∀ b, vo0_11.ownBlock = some b → v1459.ownBlock ≠ some b := fun b hb e => by rcases at1463 with e1 | e1 <;> rw [e1] at e <;> first | (simp [Value.ownBlock] at e; done) | (exact absurd e (nn0_11_10 b hb)) | (cases e; have := (ho0_11.lt _ hb).2; omega)
          have hB0_11 : ∀ b, vo0_11.ownBlock = some b → b ∈ B1461 := fun b hb => sub1464 b (hB0_11 b hb)
          have h_l := h_l.mv m1457
          have h_m := h_m.mv m1457
          have ho0_11 := ho0_11.mv m1457 k1458 (fun b hb => by simp only [Option.mem_toList]; first | (simp [Value.ownBlock]; done) | exact nn0_11_10 b hb)
          have hl1412 := hl1412.mv m1457
          have hl1415 := hl1415.mv m1457
          have hl1418 := hl1418.mv m1457
          have hl1421 := hl1421.mv m1457
          have hl1454 := hl1454.mv m1457
          refine wl_t rfl (o_move (vB at_) rfl (wl_t rfl (o_callK (vs := [v1459, vB at_]) enter_26 (c_eval (O := []) v1459 ((tab (min l.length m.length) fun q => l[q]! ^^^ m[q]!) ++ ([(0 : UInt8), (0 : UInt8)])) at_ w1455 ho1460.rd0 no_blocks) rfl s1456 fun v1466 w1467 s1468 m1469 k1470 r1471 => (?_))))
          obtain rfl := r1471
          have h_l := h_l.mv m1469
          have h_m := h_m.mv m1469
          have ho0_11 := ho0_11.mv m1469 k1470 (by simp)
          have hl1412 := hl1412.mv m1469
          have hl1415 := hl1415.mv m1469
          have hl1418 := hl1418.mv m1469
          have hl1421 := hl1421.mv m1469
          have hl1454 := hl1454.mv m1469
          have ho1460 := ho1460.mv m1469 k1470 (by simp)
          refine wl_t rfl (o_move (vB (pev (l.take (min l.length m.length)) at_)) rfl (wl_t rfl (o_move (vB (pev (m.take (min l.length m.length)) at_)) rfl (wl_t rfl (o_xor8 (pev (l.take (min l.length m.length)) at_) (pev (m.take (min l.length m.length)) at_) rfl rfl (wl_t rfl (o_eql8 (pev ((tab (min l.length m.length) fun q => l[q]! ^^^ m[q]!) ++ ([(0 : UInt8), (0 : UInt8)])) at_) ((pev (l.take (min l.length m.length)) at_) ^^^ (pev (m.take (min l.length m.length)) at_)) rfl rfl (wl_s (o_pickT (Value.bool ((pev ((tab (min l.length m.length) fun q => l[q]! ^^^ m[q]!) ++ ([(0 : UInt8), (0 : UInt8)])) at_) == ((pev (l.take (min l.length m.length)) at_) ^^^ (pev (m.take (min l.length m.length)) at_)))) rfl rfl (wl_s (o_assign (Value.bool ((pev ((tab (min l.length m.length) fun q => l[q]! ^^^ m[q]!) ++ ([(0 : UInt8), (0 : UInt8)])) at_) == ((pev (l.take (min l.length m.length)) at_) ^^^ (pev (m.take (min l.length m.length)) at_)))) rfl (wl_nil (thenQ_n (?_))))))))))))))
          refine cw_ret (end_r rfl (res1 rfl rfl rfl) (?_))
          have e : true = ((pev ((tab (min l.length m.length) fun q => l[q]! ^^^ m[q]!) ++ ([(0 : UInt8), (0 : UInt8)])) at_) == ((pev (l.take (min l.length m.length)) at_) ^^^ (pev (m.take (min l.length m.length)) at_))) := by rw [pev_pad, sum_pev]; simp
          exact ⟨_, rfl, s1468.keep, by rw [e]; exact rfl⟩
  · have hp1472 : (40 : Int) < (l.length : Int) := by first | simpa using hb1274 | (have e := hb1274; simp at e; omega)
    refine wl_k rfl (wl_k rfl (wl_k rfl (wl_s (o_pickT (Value.bool true) rfl rfl (wl_nil (thenQ_n (?_)))))))
    refine cw_cond true rfl rfl (fun _ => ?_) (fun h => by cases h)
    refine cw_seq (?_)
    refine cw_region (by kernel_rfl) (wl_s (o_assign (Value.bool true) rfl (wl_nil (thenQ_n (?_)))))
    refine cw_ret (thenQ_r (end_r rfl (res1 rfl rfl rfl) (?_)))
    exact ⟨_, rfl, s1270.keep, rfl⟩
set_option maxHeartbeats 4000000 in
set_option maxRecDepth 100000 in
theorem c_FieldValues {O : List Nat} (l_v : Value) (l : List UInt8) (xs_v : Value) (xs : List UInt8) (at_ : UInt8) (w : World) (h_l : RdL Enc.u8 w O l_v l) (h_xs : RdL Enc.u8 w O xs_v xs) (hO : ∀ b ∈ O, b < w.heap.size) : CallsK Try.prog 8 [l_v, xs_v, vB at_] w (fun v _ => v = .bool (true)) :=  by
  have lim_l := h_l.len_le
  have h_l : RdL Enc.u8 w ([] ++ O) l_v l := h_l
  have lim_xs := h_xs.len_le
  have h_xs : RdL Enc.u8 w ([] ++ O) xs_v xs := h_xs
  have s0 : St w O w [] := St.start hO
  refine callsK_of 114 Try.func8 rfl rfl (of_decide_eq_true rfl) (fun F0 => ?_)
  refine cw_seq (?_)
  refine cw_region (by kernel_rfl) (wl_s (o_assign (Value.bool false) rfl (wl_nil (thenQ_n (?_)))))
  refine cw_seq (?_)
  refine cw_seq (?_)
  refine cw_region (by kernel_rfl) (wl_s (o_callK (vs := []) enter_17 (c_sane7 (O := [] ++ O) w s0.lt) rfl s0 fun v1473 w1474 s1475 m1476 k1477 r1478 => (?_)))
  obtain rfl := r1478
  have h_l := h_l.mv m1476
  have h_xs := h_xs.mv m1476
  refine wl_s (o_not true rfl (wl_nil (thenQ_n (?_))))
  refine cw_cond false rfl rfl (fun h => by cases h) (fun _ => ?_)
  refine cw_skip (thenQ_n (?_))
  refine cw_seq (?_)
  refine cw_seq (?_)
  refine cw_region (by kernel_rfl) (wl_s (o_move (xs_v) rfl (wl_s (o_lenR Try.underlying28 rfl h_xs (wl_s (o_gtr .i64 (xs.length : Int) (12 : Int) rfl rfl (wl_s (o_move (Value.bool (decide ((12 : Int) < (xs.length : Int)))) rfl (?_)))))))))
  cases hb1479 : (decide ((12 : Int) < (xs.length : Int)))
  · have hp1480 : (xs.length : Int) ≤ (12 : Int) := by first | simpa using hb1479 | (have e := hb1479; simp at e; omega)
    refine wl_t rfl (o_move (l_v) rfl (wl_t rfl (o_lenR Try.underlying28 rfl h_l (wl_t rfl (o_move (xs_v) rfl (wl_t rfl (o_lenR Try.underlying28 rfl h_xs (wl_t rfl (o_gtr .i64 (l.length : Int) (xs.length : Int) rfl rfl (wl_s (o_pickF (Value.bool (decide ((xs.length : Int) < (l.length : Int)))) rfl rfl (wl_nil (thenQ_n (?_))))))))))))))
    refine cw_cond (decide ((xs.length : Int) < (l.length : Int))) rfl rfl (fun hc1481 => ?_) (fun hc1481 => ?_)
    · have hp1482 : (xs.length : Int) < (l.length : Int) := by first | simpa using hc1481 | (have e := hc1481; simp at e; omega)
      refine cw_seq (?_)
      refine cw_region (by kernel_rfl) (wl_s (o_assign (Value.bool true) rfl (wl_nil (thenQ_n (?_)))))
      refine cw_ret (thenQ_r (end_r rfl (res1 rfl rfl rfl) (?_)))
      exact ⟨_, rfl, s1475.keep, rfl⟩
    · have hp1483 : (l.length : Int) ≤ (xs.length : Int) := by first | simpa using hc1481 | (have e := hc1481; simp at e; omega)
      refine cw_skip (thenQ_n (?_))
      refine cw_seq (?_)
      refine cw_region (by kernel_rfl) (wl_s (o_litO (E := Enc.u8) (xs := []) Try.underlying28 s_5 z_5 (by decide) [] [] [] rfl rfl rfl (Parts.nil _ _ _) (of_decide_eq_true rfl) s1475 fun v1488 b1490 w1484 e1491 hb1492 s1485 m1486 k1487 hl1489 => (?_)))
      have hB1493 : ∀ b, v1488.ownBlock = some b → b ∈ (b1490 :: []) := fun b hb => by rw [hb1492] at hb; cases hb; simp
      clear e1491 hb1492
      have h_l := h_l.mv m1486
      have h_xs := h_xs.mv m1486
      refine wl_s (o_assign (v1488) rfl (wl_nil (thenQ_n (?_))))
      refine cw_seq (?_)
      refine cw_seq (?_)
      refine cw_region (by kernel_rfl) (wl_s (o_assign (vI (0 : Int)) rfl (wl_nil (thenQ_n (?_)))))
      refine cw_block (?_)
      refine cw_loop (fun mI FI wI => ∃ (i : Nat) (vo0_7 : Value) (B : List Nat), i ≤ xs.length ∧ mI = xs.length - i ∧ (∃ F1, FI = upds F1 [(0, l_v), (1, xs_v), (2, vB at_), (7, vo0_7), (8, vI ((i : Nat) : Int)), (114, undef)]) ∧ St w O wI B ∧ Own Enc.u8 5 w.heap.size (B ++ O) wI vo0_7 ((tab i fun q => pev l xs[q]!)) ∧ (∀ b, vo0_7.ownBlock = some b → b ∈ B) ∧ RdL Enc.u8 wI (B ++ O) (l_v) (l) ∧ RdL Enc.u8 wI (B ++ O) (xs_v) (xs)) (xs.length - (0)) ?_ ?_
      · exact ⟨(0), v1488, (b1490 :: []), (by first | omega | (simp; done) | (simp; omega) | simp_all), rfl, ⟨_, upds_self _ ⟨rfl, rfl, rfl, rfl, (by first | rfl | exact congrArg (Value.int _) (by first | omega | (simp))), rfl, trivial⟩⟩, s1485, (by rw [show (tab (0) fun q => pev l xs[q]!) = [] from rfl]; exact hl1489), hB1493, h_l, h_xs⟩
      · intro ml0 F wl0 hI
        clear h_l h_xs
        obtain ⟨i, vo0_7, Bl0, hr0_0, hm0, ⟨Fl0, rfl⟩, sl0, ho0_7, hB0_7, h_l, h_xs⟩ := hI
        refine cw_seq (?_)
        refine cw_seq (?_)
        refine cw_region (by kernel_rfl) (wl_s (o_move (vI ((i : Nat) : Int)) rfl (wl_s (o_move (xs_v) rfl (wl_s (o_lenR Try.underlying28 rfl h_xs (wl_s (o_lss .i64 ((i : Nat) : Int) (xs.length : Int) rfl rfl (wl_nil (thenQ_n (?_)))))))))))
        refine cw_cond (decide (((i : Nat) : Int) < (xs.length : Int))) rfl rfl (fun hc1494 => ?_) (fun hc1494 => ?_)
        · have hp1495 : ((i : Nat) : Int) < (xs.length : Int) := by first | simpa using hc1494 | (have e := hc1494; simp at e; omega)
          refine cw_skip (thenQ_n (?_))
          refine cw_seq (?_)
          refine cw_block (?_)
          refine cw_region (by kernel_rfl) (wl_s (o_move (vo0_7) rfl (wl_s (o_move (l_v) rfl (wl_s (o_move (xs_v) rfl (wl_s (o_move (vI ((i : Nat) : Int)) rfl (wl_s (o_idx Try.underlying28 s_5 .i64 ((i : Nat) : Int) i rfl rfl rfl h_xs (by omega) fun a1496 hp1497 => (wl_s (o_loadB Try.underlying5 rfl rfl hp1497 (wl_s (o_callK (vs := [l_v, vB (xs[i]!)]) enter_26 (c_eval (O := Bl0 ++ O) l_v l (xs[i]!) wl0 h_l sl0.lt) rfl sl0 fun v1498 w1499 s1500 m1501 k1502 r1503 => (?_)))))))))))))))
          obtain rfl := r1503
          have h_l := h_l.mv m1501
          have h_xs := h_xs.mv m1501
          have ho0_7 := ho0_7.mv m1501 k1502 (by simp)
          have hp1497 := hp1497.mv m1501
          refine wl_s (o_lit (E := Enc.u8) (xs := [.tmp 39]) Try.underlying28 s_5 z_5 (by decide) [vB (pev l (xs[i]!))] [[vB (pev l (xs[i]!))]] [pev l (xs[i]!)] rfl rfl rfl (Parts.cons rfl rfl (Parts.nil _ _ _)) (of_decide_eq_true rfl) s1500 fun v1508 w1504 s1505 m1506 k1507 hl1509 => (?_))
          have h_l := h_l.mv m1506
          have h_xs := h_xs.mv m1506
          have ho0_7 := ho0_7.mv m1506 k1507 (by simp)
          have hp1497 := hp1497.mv m1506
          have := hl1509.len_le
          refine wl_s (o_append (E := Enc.u8) (l := (tab i fun q => pev l xs[q]!)) (m := [pev l (xs[i]!)]) Try.underlying28 i_5 rfl (by decide) rfl rfl ho0_7 hl1509 (fun _ hb => .inl hb) hB0_7 (by simp [tab_len]; omega) (by simp [tab_len, maxLen]; omega) s1505 fun v1514 w1510 B1516 hB1517 at1518 sub1519 s1511 m1512 k1513 ho1515 => (?_))
          have h_l := h_l.mv m1512
          have h_xs := h_xs.mv m1512
          have hp1497 := hp1497.mv m1512
          have hl1509 := hl1509.mv m1512
          refine wl_s (o_assign (v1514) rfl (wl_nil (blockQ_n (thenQ_n (?_)))))
          refine cw_region (by kernel_rfl) (wl_s (o_move (vI ((i : Nat) : Int)) rfl (wl_s (o_add .i64 ((i : Nat) : Int) (1 : Int) (((i + 1 : Nat) : Int)) rfl rfl (w64 (by omega) (by omega)) (wl_s (o_assign (vI ((i + 1 : Nat) : Int)) rfl (wl_nil (thenQ_n (?_)))))))))
          exact ⟨_, (by omega), (i + 1), v1514, B1516, (by first | omega | (simp; done) | (simp; omega) | simp_all), rfl, ⟨_, upds_self _ ⟨rfl, rfl, rfl, rfl, (by first | rfl | exact congrArg (Value.int _) (by first | omega | (simp))), rfl, trivial⟩⟩, s1511, (by rw [show (tab (i + 1) fun q => pev l xs[q]!) = (tab i fun q => pev l xs[q]!) ++ ([pev l (xs[i]!)]) from tab_succ _ _]; exact ho1515), hB1517, h_l, h_xs⟩
        · have hp1520 : (xs.length : Int) ≤ ((i : Nat) : Int) := by first | simpa using hc1494 | (have e := hc1494; simp at e; omega)
          obtain rfl : i = xs.length := by omega
          refine cw_exit (thenQ_x (thenQ_x (blockQ_x (thenQ_n (?_)))))
          refine cw_seq (?_)
          refine cw_region (by kernel_rfl) (wl_s (o_move (xs_v) rfl (wl_s (o_move (vo0_7) rfl (wl_s (o_move (vB at_) rfl (wl_s (o_callK (vs := [xs_v, vo0_7, vB at_]) enter_22 (c_through (O := []) xs_v xs vo0_7 (tab xs.length fun q => pev l xs[q]!) at_ wl0 h_xs.rd0 ho0_7.rd0 (by first | omega | assumption | (simp; done)) no_blocks) rfl sl0 fun v1521 w1522 s1523 m1524 k1525 r1526 => (?_)))))))))
          obtain rfl := r1526
          have h_l := h_l.mv m1524
          have h_xs := h_xs.mv m1524
          have ho0_7 := ho0_7.mv m1524 k1525 (by simp)
          refine wl_s (o_move (Value.tuple #[vB ((through xs (tab xs.length fun q => pev l xs[q]!) at_).1), vI ((through xs (tab xs.length fun q => pev l xs[q]!) at_).2)]) rfl (wl_s (o_extract (vB ((through xs (tab xs.length fun q => pev l xs[q]!) at_).1)) rfl rfl (wl_s (o_extract (vI ((through xs (tab xs.length fun q => pev l xs[q]!) at_).2)) rfl rfl (wl_s (o_assign (vB ((through xs (tab xs.length fun q => pev l xs[q]!) at_).1)) rfl (wl_s (o_assign (vI ((through xs (tab xs.length fun q => pev l xs[q]!) at_).2)) rfl (wl_nil (thenQ_n (?_))))))))))))
          refine cw_seq (?_)
          refine cw_region (by kernel_rfl) (wl_s (o_move (xs_v) rfl (wl_s (o_move (vo0_7) rfl (?_)))))
          obtain ⟨B1527, s1528, m1529, hl1530, hk1531⟩ := ho0_7.publish s1523
          have lim1532 := hl1530.len_le
          have h_l := h_l.mv m1529
          have h_xs := h_xs.mv m1529
          refine wl_s (o_callK (vs := [xs_v, vo0_7]) enter_24 (c_coeff (O := B1527 ++ O) xs_v xs vo0_7 (tab xs.length fun q => pev l xs[q]!) w1522 h_xs hl1530 (by first | omega | assumption | (simp; done)) s1528.lt) rfl s1528 fun v1533 w1534 s1535 m1536 k1537 r1538 => (?_))
          obtain ⟨x1539, rfl, hl1540⟩ := r1538
          have := hl1540.len_le
          have h_l := h_l.mv m1536
          have h_xs := h_xs.mv m1536
          have hl1530 := hl1530.mv m1536
          refine wl_s (o_move (Value.tuple #[x1539, vI ((coeff xs (tab xs.length fun q => pev l xs[q]!)).2)]) rfl (wl_s (o_extract (x1539) rfl rfl (wl_s (o_extract (vI ((coeff xs (tab xs.length fun q => pev l xs[q]!)).2)) rfl rfl (wl_s (o_assign (x1539) rfl (wl_s (o_assign (vI ((coeff xs (tab xs.length fun q => pev l xs[q]!)).2)) rfl (wl_nil (thenQ_n (?_))))))))))))
          refine cw_seq (?_)
          refine cw_seq (?_)
          refine cw_region (by kernel_rfl) (wl_s (o_move (vI ((through xs (tab xs.length fun q => pev l xs[q]!) at_).2)) rfl (wl_s (o_neq .i64 ((through xs (tab xs.length fun q => pev l xs[q]!) at_).2) (0 : Int) rfl rfl (wl_nil (thenQ_n (?_)))))))
          refine cw_cond (((through xs (tab xs.length fun q => pev l xs[q]!) at_).2) != (0 : Int)) rfl rfl (fun hc1541 => ?_) (fun hc1541 => ?_)
          · have hp1542 : (through xs (tab xs.length fun q => pev l xs[q]!) at_).2 ≠ (0 : Int) := by first | simpa using hc1541 | (have e := hc1541; simp at e; omega)
            have hw := through_wrong hp1542
            refine cw_seq (?_)
            refine cw_region (by kernel_rfl) (wl_s (o_move (vI ((through xs (tab xs.length fun q => pev l xs[q]!) at_).2)) rfl (wl_s (o_eql .i64 ((through xs (tab xs.length fun q => pev l xs[q]!) at_).2) (1 : Int) rfl rfl (wl_s (o_move (Value.bool (((through xs (tab xs.length fun q => pev l xs[q]!) at_).2) == (1 : Int))) rfl (?_)))))))
            have hb1543 : (((through xs (tab xs.length fun q => pev l xs[q]!) at_).2) == (1 : Int)) = true := (by rw [through_bad _ hw]; rfl)
            rw [hb1543]
            refine wl_t rfl (o_move (vI ((coeff xs (tab xs.length fun q => pev l xs[q]!)).2)) rfl (wl_t rfl (o_move (vI ((through xs (tab xs.length fun q => pev l xs[q]!) at_).2)) rfl (wl_t rfl (o_eql .i64 ((coeff xs (tab xs.length fun q => pev l xs[q]!)).2) ((through xs (tab xs.length fun q => pev l xs[q]!) at_).2) rfl rfl (wl_s (o_pickT (Value.bool (((coeff xs (tab xs.length fun q => pev l xs[q]!)).2) == ((through xs (tab xs.length fun q => pev l xs[q]!) at_).2))) rfl rfl (wl_s (o_assign (Value.bool (((coeff xs (tab xs.length fun q => pev l xs[q]!)).2) == ((through xs (tab xs.length fun q => pev l xs[q]!) at_).2))) rfl (wl_nil (thenQ_n (?_))))))))))))
            refine cw_ret (thenQ_r (end_r rfl (res1 rfl rfl rfl) (?_)))
            have e : true = (((coeff xs (tab xs.length fun q => pev l xs[q]!)).2) == ((through xs (tab xs.length fun q => pev l xs[q]!) at_).2)) := by rw [through_bad _ hw, coeff_bad hw]; simp
            exact ⟨_, rfl, s1535.keep, by rw [e]; exact rfl⟩
          · have hp1544 : (through xs (tab xs.length fun q => pev l xs[q]!) at_).2 = (0 : Int) := by first | simpa using hc1541 | (have e := hc1541; simp at e; omega)
            have hw := through_right hp1544
            refine cw_skip (thenQ_n (?_))
            refine cw_seq (?_)
            refine cw_seq (?_)
            refine cw_region (by kernel_rfl) (wl_s (o_move (vI ((coeff xs (tab xs.length fun q => pev l xs[q]!)).2)) rfl (wl_s (o_neq .i64 ((coeff xs (tab xs.length fun q => pev l xs[q]!)).2) (0 : Int) rfl rfl (wl_s (o_move (Value.bool (((coeff xs (tab xs.length fun q => pev l xs[q]!)).2) != (0 : Int))) rfl (?_)))))))
            have hb1545 : (((coeff xs (tab xs.length fun q => pev l xs[q]!)).2) != (0 : Int)) = false := (by rw [(coeff_ok hw).1]; rfl)
            rw [hb1545]
            refine wl_t rfl (o_move (x1539) rfl (wl_t rfl (o_lenR Try.underlying28 rfl hl1540 (wl_t rfl (o_move (xs_v) rfl (wl_t rfl (o_lenR Try.underlying28 rfl h_xs (wl_t rfl (o_neq .i64 (((coeff xs (tab xs.length fun q => pev l xs[q]!)).1).length : Int) (xs.length : Int) rfl rfl (wl_s (o_pickF (Value.bool ((((coeff xs (tab xs.length fun q => pev l xs[q]!)).1).length : Int) != (xs.length : Int))) rfl rfl (wl_s (o_move (Value.bool ((((coeff xs (tab xs.length fun q => pev l xs[q]!)).1).length : Int) != (xs.length : Int))) rfl (?_))))))))))))))
            have hb1546 : ((((coeff xs (tab xs.length fun q => pev l xs[q]!)).1).length : Int) != (xs.length : Int)) = false := (by rw [(coeff_ok hw).2.1.len]; simp)
            rw [hb1546]
            refine wl_t rfl (o_move (vB ((through xs (tab xs.length fun q => pev l xs[q]!) at_).1)) rfl (wl_t rfl (o_move (l_v) rfl (wl_t rfl (o_move (vB at_) rfl (wl_t rfl (o_callK (vs := [l_v, vB at_]) enter_26 (c_eval (O := B1527 ++ O) l_v l at_ w1534 h_l s1535.lt) rfl s1535 fun v1547 w1548 s1549 m1550 k1551 r1552 => (?_))))))))
            obtain rfl := r1552
            have h_l := h_l.mv m1550
            have h_xs := h_xs.mv m1550
            have hl1530 := hl1530.mv m1550
            have hl1540 := hl1540.mv m1550
            refine wl_t rfl (o_neq8 ((through xs (tab xs.length fun q => pev l xs[q]!) at_).1) (pev l at_) rfl rfl (wl_s (o_pickF (Value.bool (((through xs (tab xs.length fun q => pev l xs[q]!) at_).1) != (pev l at_))) rfl rfl (wl_nil (thenQ_n (?_))))))
            have hb1553 : (((through xs (tab xs.length fun q => pev l xs[q]!) at_).1) != (pev l at_)) = false := (by rw [through_ok _ hw, vals_pev (by omega) hw]; simp)
            rw [hb1553]
            refine cw_cond false rfl rfl (fun h => by cases h) (fun _ => ?_)
            refine cw_skip (thenQ_n (?_))
            refine cw_seq (?_)
            refine cw_seq (?_)
            refine cw_region (by kernel_rfl) (wl_s (o_assign (vI (0 : Int)) rfl (wl_nil (thenQ_n (?_)))))
            refine cw_block (?_)
            refine cw_loop (fun mI FI wI => ∃ (k : Nat) (B : List Nat), k ≤ (coeff xs (tab xs.length fun q => pev l xs[q]!)).1.length ∧ mI = (coeff xs (tab xs.length fun q => pev l xs[q]!)).1.length - k ∧ (∃ F1, FI = upds F1 [(0, l_v), (11, x1539), (13, vI ((k : Nat) : Int)), (114, undef)]) ∧ St w O wI B ∧ RdL Enc.u8 wI (B ++ O) (l_v) (l) ∧ RdL Enc.u8 wI (B ++ O) (x1539) ((coeff xs (tab xs.length fun q => pev l xs[q]!)).1)) ((coeff xs (tab xs.length fun q => pev l xs[q]!)).1.length - (0)) ?_ ?_
            · exact ⟨(0), B1527, (by first | omega | (simp; done) | (simp; omega) | simp_all), rfl, ⟨_, upds_self _ ⟨rfl, rfl, (by first | rfl | exact congrArg (Value.int _) (by first | omega | (simp))), rfl, trivial⟩⟩, s1549, h_l, hl1540⟩
            · intro ml1 F wl1 hI
              clear h_l hl1540
              obtain ⟨k, Bl1, hr1_0, hm1, ⟨Fl1, rfl⟩, sl1, h_l, hl1540⟩ := hI
              refine cw_seq (?_)
              refine cw_seq (?_)
              refine cw_region (by kernel_rfl) (wl_s (o_move (vI ((k : Nat) : Int)) rfl (wl_s (o_move (x1539) rfl (wl_s (o_lenR Try.underlying28 rfl hl1540 (wl_s (o_lss .i64 ((k : Nat) : Int) (((coeff xs (tab xs.length fun q => pev l xs[q]!)).1).length : Int) rfl rfl (wl_nil (thenQ_n (?_)))))))))))
              refine cw_cond (decide (((k : Nat) : Int) < (((coeff xs (tab xs.length fun q => pev l xs[q]!)).1).length : Int))) rfl rfl (fun hc1554 => ?_) (fun hc1554 => ?_)
              · have hp1555 : ((k : Nat) : Int) < (((coeff xs (tab xs.length fun q => pev l xs[q]!)).1).length : Int) := by first | simpa using hc1554 | (have e := hc1554; simp at e; omega)
                refine cw_skip (thenQ_n (?_))
                refine cw_seq (?_)
                refine cw_block (?_)
                refine cw_seq (?_)
                cases hb1556 : (decide (((k : Nat) : Int) < (l.length : Int)))
                · have hp1557 : (l.length : Int) ≤ ((k : Nat) : Int) := by first | simpa using hb1556 | (have e := hb1556; simp at e; omega)
                  cases hb1558 : (decide ((l.length : Int) ≤ ((k : Nat) : Int)))
                  · have hp1559 : ((k : Nat) : Int) < (l.length : Int) := by first | simpa using hb1558 | (have e := hb1558; simp at e; omega)
                    refine cw_draw' 23 _ _ [fun v _ => v = vI ((k : Nat) : Int), fun v w => RdL Enc.u8 w (Bl1 ++ O) v (l), fun v _ => v = vI (l.length : Int), fun v _ => v = Value.bool false, fun v _ => v = Value.bool false, fun v _ => v = undef, fun v _ => v = undef, fun v _ => v = undef, fun v _ => v = undef, fun v _ => v = undef, fun v _ => v = undef, fun v _ => v = undef, fun v _ => v = undef, fun v _ => v = undef, fun v _ => v = Value.bool false, fun v _ => v = Value.bool false, fun v _ => v = vI ((k : Nat) : Int), fun v w => RdL Enc.u8 w (Bl1 ++ O) v (l), fun v _ => v = vI (l.length : Int), fun v _ => v = Value.bool false, fun v _ => v = Value.bool false, fun v _ => v = undef, fun v _ => v = undef] (by kernel_rfl) (by kernel_rfl) (by kernel_rfl) (by kernel_rfl) rfl rfl ⟨fun _ _ _ h _ => h, fun _ _ _ h k => h.mv (Mv.of_keep k), fun _ _ _ h _ => h, fun _ _ _ h _ => h, fun _ _ _ h _ => h, fun _ _ _ h _ => h, fun _ _ _ h _ => h, fun _ _ _ h _ => h, fun _ _ _ h _ => h, fun _ _ _ h _ => h, fun _ _ _ h _ => h, fun _ _ _ h _ => h, fun _ _ _ h _ => h, fun _ _ _ h _ => h, fun _ _ _ h _ => h, fun _ _ _ h _ => h, fun _ _ _ h _ => h, fun _ _ _ h k => h.mv (Mv.of_keep k), fun _ _ _ h _ => h, fun _ _ _ h _ => h, fun _ _ _ h _ => h, fun _ _ _ h _ => h, fun _ _ _ h _ => h, trivial⟩ ⟨?_, ?_, ?_, ?_, ?_, ?_, ?_, ?_, ?_, ?_, ?_, ?_, ?_, ?_, ?_, ?_, ?_, ?_, ?_, ?_, ?_, ?_, ?_, trivial⟩ ?_
                    · intro F1 w1 k1 hf hd
                      have k0 := (Keep.drew [] wl1).trans k1
                      have s1 := sl1.call k0
                      have m1 : Mv Bl1 wl1 Bl1 w1 := Mv.of_keep k0
                      obtain ⟨F2, rfl⟩ := lit_of (F := F1) [(13, vI ((k : Nat) : Int))] ⟨hf 13 (by kernel_rfl), trivial⟩
                      exact sp_plain rfl ((o_move (vI ((k : Nat) : Int)) rfl (⟨(Keep.refl _ _), rfl⟩)))
                    · intro F1 w1 k1 hf hd
                      have k0 := (Keep.drew [] wl1).trans k1
                      have s1 := sl1.call k0
                      have m1 : Mv Bl1 wl1 Bl1 w1 := Mv.of_keep k0
                      have h_l := h_l.mv m1
                      obtain ⟨F2, rfl⟩ := lit_of (F := F1) [(0, l_v)] ⟨hf 0 (by kernel_rfl), trivial⟩
                      exact sp_plain rfl ((o_move (l_v) rfl (⟨(Keep.refl _ _), h_l⟩)))
                    · intro F1 w1 k1 hf hd
                      have k0 := (Keep.drew [] wl1).trans k1
                      have s1 := sl1.call k0
                      have m1 : Mv Bl1 wl1 Bl1 w1 := Mv.of_keep k0
                      obtain ⟨v1560, e1562, hl1561⟩ : ∃ v, F1 87 = v ∧ RdL Enc.u8 w1 (Bl1 ++ O) v (l) := ⟨_, rfl, hd 1 87 (by kernel_rfl)⟩
                      have := hl1561.len_le
                      obtain ⟨F2, rfl⟩ := lit_of (F := F1) [(87, v1560)] ⟨e1562, trivial⟩
                      exact sp_plain rfl ((o_lenR Try.underlying28 rfl hl1561 (⟨(Keep.refl _ _), rfl⟩)))
                    · intro F1 w1 k1 hf hd
                      have k0 := (Keep.drew [] wl1).trans k1
                      have s1 := sl1.call k0
                      have m1 : Mv Bl1 wl1 Bl1 w1 := Mv.of_keep k0
                      obtain ⟨F2, rfl⟩ := lit_of (F := F1) [(86, vI ((k : Nat) : Int)), (88, vI (l.length : Int))] ⟨hd 0 86 (by kernel_rfl), hd 2 88 (by kernel_rfl), trivial⟩
                      refine sp_plain rfl ((o_lss .i64 ((k : Nat) : Int) (l.length : Int) rfl rfl (?_)))
                      exact ⟨(Keep.refl _ _), congrArg Value.bool (hb1556)⟩
                    · intro F1 w1 k1 hf hd
                      have k0 := (Keep.drew [] wl1).trans k1
                      have s1 := sl1.call k0
                      have m1 : Mv Bl1 wl1 Bl1 w1 := Mv.of_keep k0
                      obtain ⟨F2, rfl⟩ := lit_of (F := F1) [(89, Value.bool false)] ⟨hd 3 89 (by kernel_rfl), trivial⟩
                      exact sp_plain rfl ((o_move (Value.bool false) rfl (⟨(Keep.refl _ _), rfl⟩)))
                    · intro F1 w1 k1 hf hd
                      have k0 := (Keep.drew [] wl1).trans k1
                      have s1 := sl1.call k0
                      have m1 : Mv Bl1 wl1 Bl1 w1 := Mv.of_keep k0
                      exact sp_skip rfl (by show yieldF _ F1 4 = _; have e : F1 90 = .bool false := hd 4 90 (by kernel_rfl); simp only [yieldF]; simp [e]) rfl
                    · intro F1 w1 k1 hf hd
                      have k0 := (Keep.drew [] wl1).trans k1
                      have s1 := sl1.call k0
                      have m1 : Mv Bl1 wl1 Bl1 w1 := Mv.of_keep k0
                      exact sp_skip rfl (by show yieldF _ F1 4 = _; have e : F1 90 = .bool false := hd 4 90 (by kernel_rfl); simp only [yieldF]; simp [e]) rfl
                    · intro F1 w1 k1 hf hd
                      have k0 := (Keep.drew [] wl1).trans k1
                      have s1 := sl1.call k0
                      have m1 : Mv Bl1 wl1 Bl1 w1 := Mv.of_keep k0
                      exact sp_skip rfl (by show yieldF _ F1 4 = _; have e : F1 90 = .bool false := hd 4 90 (by kernel_rfl); simp only [yieldF]; simp [e]) rfl
                    · intro F1 w1 k1 hf hd
                      have k0 := (Keep.drew [] wl1).trans k1
                      have s1 := sl1.call k0
                      have m1 : Mv Bl1 wl1 Bl1 w1 := Mv.of_keep k0
                      exact sp_skip rfl (by show yieldF _ F1 4 = _; have e : F1 90 = .bool false := hd 4 90 (by kernel_rfl); simp only [yieldF]; simp [e]) rfl
                    · intro F1 w1 k1 hf hd
                      have k0 := (Keep.drew [] wl1).trans k1
                      have s1 := sl1.call k0
                      have m1 : Mv Bl1 wl1 Bl1 w1 := Mv.of_keep k0
                      exact sp_skip rfl (by show yieldF _ F1 4 = _; have e : F1 90 = .bool false := hd 4 90 (by kernel_rfl); simp only [yieldF]; simp [e]) rfl
                    · intro F1 w1 k1 hf hd
                      have k0 := (Keep.drew [] wl1).trans k1
                      have s1 := sl1.call k0
                      have m1 : Mv Bl1 wl1 Bl1 w1 := Mv.of_keep k0
                      exact sp_skip rfl (by show yieldF _ F1 4 = _; have e : F1 90 = .bool false := hd 4 90 (by kernel_rfl); simp only [yieldF]; simp [e]) rfl
                    · intro F1 w1 k1 hf hd
                      have k0 := (Keep.drew [] wl1).trans k1
                      have s1 := sl1.call k0
                      have m1 : Mv Bl1 wl1 Bl1 w1 := Mv.of_keep k0
                      exact sp_skip rfl (by show yieldF _ F1 4 = _; have e : F1 90 = .bool false := hd 4 90 (by kernel_rfl); simp only [yieldF]; simp [e]) rfl
                    · intro F1 w1 k1 hf hd
                      have k0 := (Keep.drew [] wl1).trans k1
                      have s1 := sl1.call k0
                      have m1 : Mv Bl1 wl1 Bl1 w1 := Mv.of_keep k0
                      exact sp_skip rfl (by show yieldF _ F1 4 = _; have e : F1 90 = .bool false := hd 4 90 (by kernel_rfl); simp only [yieldF]; simp [e]) rfl
                    · intro F1 w1 k1 hf hd
                      have k0 := (Keep.drew [] wl1).trans k1
                      have s1 := sl1.call k0
                      have m1 : Mv Bl1 wl1 Bl1 w1 := Mv.of_keep k0
                      exact sp_skip rfl (by show yieldF _ F1 4 = _; have e : F1 90 = .bool false := hd 4 90 (by kernel_rfl); simp only [yieldF]; simp [e]) rfl
                    · intro F1 w1 k1 hf hd
                      have k0 := (Keep.drew [] wl1).trans k1
                      have s1 := sl1.call k0
                      have m1 : Mv Bl1 wl1 Bl1 w1 := Mv.of_keep k0
                      obtain ⟨F2, rfl⟩ := lit_of (F := F1) [(90, Value.bool false), (99, undef)] ⟨hd 4 90 (by kernel_rfl), hd 13 99 (by kernel_rfl), trivial⟩
                      exact sp_plain rfl ((o_pickF (Value.bool false) rfl rfl (⟨(Keep.refl _ _), rfl⟩)))
                    · intro F1 w1 k1 hf hd
                      have k0 := (Keep.drew [] wl1).trans k1
                      have s1 := sl1.call k0
                      have m1 : Mv Bl1 wl1 Bl1 w1 := Mv.of_keep k0
                      obtain ⟨F2, rfl⟩ := lit_of (F := F1) [(100, Value.bool false)] ⟨hd 14 100 (by kernel_rfl), trivial⟩
                      exact sp_plain rfl ((o_move (Value.bool false) rfl (⟨(Keep.refl _ _), rfl⟩)))
                    · intro F1 w1 k1 hf hd
                      have k0 := (Keep.drew [] wl1).trans k1
                      have s1 := sl1.call k0
                      have m1 : Mv Bl1 wl1 Bl1 w1 := Mv.of_keep k0
                      obtain ⟨F2, rfl⟩ := lit_of (F := F1) [(13, vI ((k : Nat) : Int)), (101, Value.bool false)] ⟨hf 13 (by kernel_rfl), hd 15 101 (by kernel_rfl), trivial⟩
                      exact sp_take rfl rfl ((o_move (vI ((k : Nat) : Int)) rfl (⟨(Keep.refl _ _), rfl⟩)))
                    · intro F1 w1 k1 hf hd
                      have k0 := (Keep.drew [] wl1).trans k1
                      have s1 := sl1.call k0
                      have m1 : Mv Bl1 wl1 Bl1 w1 := Mv.of_keep k0
                      have h_l := h_l.mv m1
                      obtain ⟨F2, rfl⟩ := lit_of (F := F1) [(0, l_v), (101, Value.bool false)] ⟨hf 0 (by kernel_rfl), hd 15 101 (by kernel_rfl), trivial⟩
                      exact sp_take rfl rfl ((o_move (l_v) rfl (⟨(Keep.refl _ _), h_l⟩)))
                    · intro F1 w1 k1 hf hd
                      have k0 := (Keep.drew [] wl1).trans k1
                      have s1 := sl1.call k0
                      have m1 : Mv Bl1 wl1 Bl1 w1 := Mv.of_keep k0
                      obtain ⟨v1563, e1565, hl1564⟩ : ∃ v, F1 103 = v ∧ RdL Enc.u8 w1 (Bl1 ++ O) v (l) := ⟨_, rfl, hd 17 103 (by kernel_rfl)⟩
                      have := hl1564.len_le
                      obtain ⟨F2, rfl⟩ := lit_of (F := F1) [(101, Value.bool false), (103, v1563)] ⟨hd 15 101 (by kernel_rfl), e1565, trivial⟩
                      exact sp_take rfl rfl ((o_lenR Try.underlying28 rfl hl1564 (⟨(Keep.refl _ _), rfl⟩)))
                    · intro F1 w1 k1 hf hd
                      have k0 := (Keep.drew [] wl1).trans k1
                      have s1 := sl1.call k0
                      have m1 : Mv Bl1 wl1 Bl1 w1 := Mv.of_keep k0
                      obtain ⟨F2, rfl⟩ := lit_of (F := F1) [(101, Value.bool false), (102, vI ((k : Nat) : Int)), (104, vI (l.length : Int))] ⟨hd 15 101 (by kernel_rfl), hd 16 102 (by kernel_rfl), hd 18 104 (by kernel_rfl), trivial⟩
                      refine sp_take rfl rfl ((o_geq .i64 ((k : Nat) : Int) (l.length : Int) rfl rfl (?_)))
                      exact ⟨(Keep.refl _ _), congrArg Value.bool (hb1558)⟩
                    · intro F1 w1 k1 hf hd
                      have k0 := (Keep.drew [] wl1).trans k1
                      have s1 := sl1.call k0
                      have m1 : Mv Bl1 wl1 Bl1 w1 := Mv.of_keep k0
                      obtain ⟨F2, rfl⟩ := lit_of (F := F1) [(101, Value.bool false), (105, Value.bool false)] ⟨hd 15 101 (by kernel_rfl), hd 19 105 (by kernel_rfl), trivial⟩
                      exact sp_take rfl rfl ((o_move (Value.bool false) rfl (⟨(Keep.refl _ _), rfl⟩)))
                    · intro F1 w1 k1 hf hd
                      have k0 := (Keep.drew [] wl1).trans k1
                      have s1 := sl1.call k0
                      have m1 : Mv Bl1 wl1 Bl1 w1 := Mv.of_keep k0
                      exact sp_skip rfl (by show yieldF _ F1 20 = _; have e : F1 106 = .bool false := hd 20 106 (by kernel_rfl); simp only [yieldF]; simp [e]) rfl
                    · intro F1 w1 k1 hf hd
                      have k0 := (Keep.drew [] wl1).trans k1
                      have s1 := sl1.call k0
                      have m1 : Mv Bl1 wl1 Bl1 w1 := Mv.of_keep k0
                      exact sp_skip rfl (by show yieldF _ F1 20 = _; have e : F1 106 = .bool false := hd 20 106 (by kernel_rfl); simp only [yieldF]; simp [e]) rfl
                    intro F1567 w1568 k1566 hT1569 hF1570
                    have s1571 := sl1.call k1566
                    have m1572 : Mv Bl1 wl1 Bl1 w1568 := Mv.of_keep k1566
                    have h_l := h_l.mv m1572
                    have hl1540 := hl1540.mv m1572
                    obtain ⟨v1574, e1576, hl1575⟩ : ∃ v, F1567 87 = v ∧ RdL Enc.u8 w1568 (Bl1 ++ O) v (l) := ⟨_, rfl, hT1569 1 87 (by kernel_rfl) (by decide)⟩
                    have := hl1575.len_le
                    obtain ⟨v1577, e1579, hl1578⟩ : ∃ v, F1567 103 = v ∧ RdL Enc.u8 w1568 (Bl1 ++ O) v (l) := ⟨_, rfl, hT1569 17 103 (by kernel_rfl) (by decide)⟩
                    have := hl1578.len_le
                    obtain ⟨F2, rfl⟩ := lit_of (F := F1567) [(0, l_v), (11, x1539), (13, vI ((k : Nat) : Int)), (80, vI ((k : Nat) : Int)), (81, x1539), (82, vI (((coeff xs (tab xs.length fun q => pev l xs[q]!)).1).length : Int)), (83, Value.bool (decide (((k : Nat) : Int) < (((coeff xs (tab xs.length fun q => pev l xs[q]!)).1).length : Int)))), (114, undef), (86, vI ((k : Nat) : Int)), (87, v1574), (88, vI (l.length : Int)), (89, Value.bool false), (90, Value.bool false), (100, Value.bool false), (101, Value.bool false), (102, vI ((k : Nat) : Int)), (103, v1577), (104, vI (l.length : Int)), (105, Value.bool false), (106, Value.bool false)] ⟨hF1570 0 (by kernel_rfl), hF1570 11 (by kernel_rfl), hF1570 13 (by kernel_rfl), hF1570 80 (by kernel_rfl), hF1570 81 (by kernel_rfl), hF1570 82 (by kernel_rfl), hF1570 83 (by kernel_rfl), hF1570 114 (by kernel_rfl), hT1569 0 86 (by kernel_rfl) (by decide), e1576, hT1569 2 88 (by kernel_rfl) (by decide), hT1569 3 89 (by kernel_rfl) (by decide), hT1569 4 90 (by kernel_rfl) (by decide), hT1569 14 100 (by kernel_rfl) (by decide), hT1569 15 101 (by kernel_rfl) (by decide), hT1569 16 102 (by kernel_rfl) (by decide), e1579, hT1569 18 104 (by kernel_rfl) (by decide), hT1569 19 105 (by kernel_rfl) (by decide), hT1569 20 106 (by kernel_rfl) (by decide), trivial⟩
                    clear hT1569 hF1570
                    refine wl_k rfl (wl_k rfl (wl_k rfl (wl_t rfl (o_pickF (Value.bool false) rfl rfl (wl_s (o_pickF (Value.bool false) rfl rfl (wl_nil (thenQ_n (?_)))))))))
                    refine cw_cond false rfl rfl (fun h => by cases h) (fun _ => ?_)
                    refine cw_skip (blockQ_n (thenQ_n (?_)))
                    refine cw_region (by kernel_rfl) (wl_s (o_move (vI ((k : Nat) : Int)) rfl (wl_s (o_add .i64 ((k : Nat) : Int) (1 : Int) (((k + 1 : Nat) : Int)) rfl rfl (w64 (by omega) (by omega)) (wl_s (o_assign (vI ((k + 1 : Nat) : Int)) rfl (wl_nil (thenQ_n (?_)))))))))
                    exact ⟨_, (by omega), (k + 1), Bl1, (by first | omega | (simp; done) | (simp; omega) | simp_all), rfl, ⟨_, upds_self _ ⟨rfl, rfl, (by first | rfl | exact congrArg (Value.int _) (by first | omega | (simp))), rfl, trivial⟩⟩, s1571, h_l, hl1540⟩
                  · have hp1580 : (l.length : Int) ≤ ((k : Nat) : Int) := by first | simpa using hb1558 | (have e := hb1558; simp at e; omega)
                    refine cw_draw' 23 _ _ [fun v _ => v = vI ((k : Nat) : Int), fun v w => RdL Enc.u8 w (Bl1 ++ O) v (l), fun v _ => v = vI (l.length : Int), fun v _ => v = Value.bool false, fun v _ => v = Value.bool false, fun v _ => v = undef, fun v _ => v = undef, fun v _ => v = undef, fun v _ => v = undef, fun v _ => v = undef, fun v _ => v = undef, fun v _ => v = undef, fun v _ => v = undef, fun v _ => v = undef, fun v _ => v = Value.bool false, fun v _ => v = Value.bool false, fun v _ => v = vI ((k : Nat) : Int), fun v w => RdL Enc.u8 w (Bl1 ++ O) v (l), fun v _ => v = vI (l.length : Int), fun v _ => v = Value.bool true, fun v _ => v = Value.bool true, fun v w => RdL Enc.u8 w (Bl1 ++ O) v ((coeff xs (tab xs.length fun q => pev l xs[q]!)).1), fun v _ => v = vI ((k : Nat) : Int)] (by kernel_rfl) (by kernel_rfl) (by kernel_rfl) (by kernel_rfl) rfl rfl ⟨fun _ _ _ h _ => h, fun _ _ _ h k => h.mv (Mv.of_keep k), fun _ _ _ h _ => h, fun _ _ _ h _ => h, fun _ _ _ h _ => h, fun _ _ _ h _ => h, fun _ _ _ h _ => h, fun _ _ _ h _ => h, fun _ _ _ h _ => h, fun _ _ _ h _ => h, fun _ _ _ h _ => h, fun _ _ _ h _ => h, fun _ _ _ h _ => h, fun _ _ _ h _ => h, fun _ _ _ h _ => h, fun _ _ _ h _ => h, fun _ _ _ h _ => h, fun _ _ _ h k => h.mv (Mv.of_keep k), fun _ _ _ h _ => h, fun _ _ _ h _ => h, fun _ _ _ h _ => h, fun _ _ _ h k => h.mv (Mv.of_keep k), fun _ _ _ h _ => h, trivial⟩ ⟨?_, ?_, ?_, ?_, ?_, ?_, ?_, ?_, ?_, ?_, ?_, ?_, ?_, ?_, ?_, ?_, ?_, ?_, ?_, ?_, ?_, ?_, ?_, trivial⟩ ?_
                    · intro F1 w1 k1 hf hd
                      have k0 := (Keep.drew [] wl1).trans k1
                      have s1 := sl1.call k0
                      have m1 : Mv Bl1 wl1 Bl1 w1 := Mv.of_keep k0
                      obtain ⟨F2, rfl⟩ := lit_of (F := F1) [(13, vI ((k : Nat) : Int))] ⟨hf 13 (by kernel_rfl), trivial⟩
                      exact sp_plain rfl ((o_move (vI ((k : Nat) : Int)) rfl (⟨(Keep.refl _ _), rfl⟩)))
                    · intro F1 w1 k1 hf hd
                      have k0 := (Keep.drew [] wl1).trans k1
                      have s1 := sl1.call k0
                      have m1 : Mv Bl1 wl1 Bl1 w1 := Mv.of_keep k0
                      have h_l := h_l.mv m1
                      obtain ⟨F2, rfl⟩ := lit_of (F := F1) [(0, l_v)] ⟨hf 0 (by kernel_rfl), trivial⟩
                      exact sp_plain rfl ((o_move (l_v) rfl (⟨(Keep.refl _ _), h_l⟩)))
                    · intro F1 w1 k1 hf hd
                      have k0 := (Keep.drew [] wl1).trans k1
                      have s1 := sl1.call k0
                      have m1 : Mv Bl1 wl1 Bl1 w1 := Mv.of_keep k0
                      obtain ⟨v1581, e1583, hl1582⟩ : ∃ v, F1 87 = v ∧ RdL Enc.u8 w1 (Bl1 ++ O) v (l) := ⟨_, rfl, hd 1 87 (by kernel_rfl)⟩
                      have := hl1582.len_le
                      obtain ⟨F2, rfl⟩ := lit_of (F := F1) [(87, v1581)] ⟨e1583, trivial⟩
                      exact sp_plain rfl ((o_lenR Try.underlying28 rfl hl1582 (⟨(Keep.refl _ _), rfl⟩)))
                    · intro F1 w1 k1 hf hd
                      have k0 := (Keep.drew [] wl1).trans k1
                      have s1 := sl1.call k0
                      have m1 : Mv Bl1 wl1 Bl1 w1 := Mv.of_keep k0
                      obtain ⟨F2, rfl⟩ := lit_of (F := F1) [(86, vI ((k : Nat) : Int)), (88, vI (l.length : Int))] ⟨hd 0 86 (by kernel_rfl), hd 2 88 (by kernel_rfl), trivial⟩
                      refine sp_plain rfl ((o_lss .i64 ((k : Nat) : Int) (l.length : Int) rfl rfl (?_)))
                      exact ⟨(Keep.refl _ _), congrArg Value.bool (hb1556)⟩
                    · intro F1 w1 k1 hf hd
                      have k0 := (Keep.drew [] wl1).trans k1
                      have s1 := sl1.call k0
                      have m1 : Mv Bl1 wl1 Bl1 w1 := Mv.of_keep k0
                      obtain ⟨F2, rfl⟩ := lit_of (F := F1) [(89, Value.bool false)] ⟨hd 3 89 (by kernel_rfl), trivial⟩
                      exact sp_plain rfl ((o_move (Value.bool false) rfl (⟨(Keep.refl _ _), rfl⟩)))
                    · intro F1 w1 k1 hf hd
                      have k0 := (Keep.drew [] wl1).trans k1
                      have s1 := sl1.call k0
                      have m1 : Mv Bl1 wl1 Bl1 w1 := Mv.of_keep k0
                      exact sp_skip rfl (by show yieldF _ F1 4 = _; have e : F1 90 = .bool false := hd 4 90 (by kernel_rfl); simp only [yieldF]; simp [e]) rfl
                    · intro F1 w1 k1 hf hd
                      have k0 := (Keep.drew [] wl1).trans k1
                      have s1 := sl1.call k0
                      have m1 : Mv Bl1 wl1 Bl1 w1 := Mv.of_keep k0
                      exact sp_skip rfl (by show yieldF _ F1 4 = _; have e : F1 90 = .bool false := hd 4 90 (by kernel_rfl); simp only [yieldF]; simp [e]) rfl
                    · intro F1 w1 k1 hf hd
                      have k0 := (Keep.drew [] wl1).trans k1
                      have s1 := sl1.call k0
                      have m1 : Mv Bl1 wl1 Bl1 w1 := Mv.of_keep k0
                      exact sp_skip rfl (by show yieldF _ F1 4 = _; have e : F1 90 = .bool false := hd 4 90 (by kernel_rfl); simp only [yieldF]; simp [e]) rfl
                    · intro F1 w1 k1 hf hd
                      have k0 := (Keep.drew [] wl1).trans k1
                      have s1 := sl1.call k0
                      have m1 : Mv Bl1 wl1 Bl1 w1 := Mv.of_keep k0
                      exact sp_skip rfl (by show yieldF _ F1 4 = _; have e : F1 90 = .bool false := hd 4 90 (by kernel_rfl); simp only [yieldF]; simp [e]) rfl
                    · intro F1 w1 k1 hf hd
                      have k0 := (Keep.drew [] wl1).trans k1
                      have s1 := sl1.call k0
                      have m1 : Mv Bl1 wl1 Bl1 w1 := Mv.of_keep k0
                      exact sp_skip rfl (by show yieldF _ F1 4 = _; have e : F1 90 = .bool false := hd 4 90 (by kernel_rfl); simp only [yieldF]; simp [e]) rfl
                    · intro F1 w1 k1 hf hd
                      have k0 := (Keep.drew [] wl1).trans k1
                      have s1 := sl1.call k0
                      have m1 : Mv Bl1 wl1 Bl1 w1 := Mv.of_keep k0
                      exact sp_skip rfl (by show yieldF _ F1 4 = _; have e : F1 90 = .bool false := hd 4 90 (by kernel_rfl); simp only [yieldF]; simp [e]) rfl
                    · intro F1 w1 k1 hf hd
                      have k0 := (Keep.drew [] wl1).trans k1
                      have s1 := sl1.call k0
                      have m1 : Mv Bl1 wl1 Bl1 w1 := Mv.of_keep k0
                      exact sp_skip rfl (by show yieldF _ F1 4 = _; have e : F1 90 = .bool false := hd 4 90 (by kernel_rfl); simp only [yieldF]; simp [e]) rfl
                    · intro F1 w1 k1 hf hd
                      have k0 := (Keep.drew [] wl1).trans k1
                      have s1 := sl1.call k0
                      have m1 : Mv Bl1 wl1 Bl1 w1 := Mv.of_keep k0
                      exact sp_skip rfl (by show yieldF _ F1 4 = _; have e : F1 90 = .bool false := hd 4 90 (by kernel_rfl); simp only [yieldF]; simp [e]) rfl
                    · intro F1 w1 k1 hf hd
                      have k0 := (Keep.drew [] wl1).trans k1
                      have s1 := sl1.call k0
                      have m1 : Mv Bl1 wl1 Bl1 w1 := Mv.of_keep k0
                      exact sp_skip rfl (by show yieldF _ F1 4 = _; have e : F1 90 = .bool false := hd 4 90 (by kernel_rfl); simp only [yieldF]; simp [e]) rfl
                    · intro F1 w1 k1 hf hd
                      have k0 := (Keep.drew [] wl1).trans k1
                      have s1 := sl1.call k0
                      have m1 : Mv Bl1 wl1 Bl1 w1 := Mv.of_keep k0
                      obtain ⟨F2, rfl⟩ := lit_of (F := F1) [(90, Value.bool false), (99, undef)] ⟨hd 4 90 (by kernel_rfl), hd 13 99 (by kernel_rfl), trivial⟩
                      exact sp_plain rfl ((o_pickF (Value.bool false) rfl rfl (⟨(Keep.refl _ _), rfl⟩)))
                    · intro F1 w1 k1 hf hd
                      have k0 := (Keep.drew [] wl1).trans k1
                      have s1 := sl1.call k0
                      have m1 : Mv Bl1 wl1 Bl1 w1 := Mv.of_keep k0
                      obtain ⟨F2, rfl⟩ := lit_of (F := F1) [(100, Value.bool false)] ⟨hd 14 100 (by kernel_rfl), trivial⟩
                      exact sp_plain rfl ((o_move (Value.bool false) rfl (⟨(Keep.refl _ _), rfl⟩)))
                    · intro F1 w1 k1 hf hd
                      have k0 := (Keep.drew [] wl1).trans k1
                      have s1 := sl1.call k0
                      have m1 : Mv Bl1 wl1 Bl1 w1 := Mv.of_keep k0
                      obtain ⟨F2, rfl⟩ := lit_of (F := F1) [(13, vI ((k : Nat) : Int)), (101, Value.bool false)] ⟨hf 13 (by kernel_rfl), hd 15 101 (by kernel_rfl), trivial⟩
                      exact sp_take rfl rfl ((o_move (vI ((k : Nat) : Int)) rfl (⟨(Keep.refl _ _), rfl⟩)))
                    · intro F1 w1 k1 hf hd
                      have k0 := (Keep.drew [] wl1).trans k1
                      have s1 := sl1.call k0
                      have m1 : Mv Bl1 wl1 Bl1 w1 := Mv.of_keep k0
                      have h_l := h_l.mv m1
                      obtain ⟨F2, rfl⟩ := lit_of (F := F1) [(0, l_v), (101, Value.bool false)] ⟨hf 0 (by kernel_rfl), hd 15 101 (by kernel_rfl), trivial⟩
                      exact sp_take rfl rfl ((o_move (l_v) rfl (⟨(Keep.refl _ _), h_l⟩)))
                    · intro F1 w1 k1 hf hd
                      have k0 := (Keep.drew [] wl1).trans k1
                      have s1 := sl1.call k0
                      have m1 : Mv Bl1 wl1 Bl1 w1 := Mv.of_keep k0
                      obtain ⟨v1584, e1586, hl1585⟩ : ∃ v, F1 103 = v ∧ RdL Enc.u8 w1 (Bl1 ++ O) v (l) := ⟨_, rfl, hd 17 103 (by kernel_rfl)⟩
                      have := hl1585.len_le
                      obtain ⟨F2, rfl⟩ := lit_of (F := F1) [(101, Value.bool false), (103, v1584)] ⟨hd 15 101 (by kernel_rfl), e1586, trivial⟩
                      exact sp_take rfl rfl ((o_lenR Try.underlying28 rfl hl1585 (⟨(Keep.refl _ _), rfl⟩)))
                    · intro F1 w1 k1 hf hd
                      have k0 := (Keep.drew [] wl1).trans k1
                      have s1 := sl1.call k0
                      have m1 : Mv Bl1 wl1 Bl1 w1 := Mv.of_keep k0
                      obtain ⟨F2, rfl⟩ := lit_of (F := F1) [(101, Value.bool false), (102, vI ((k : Nat) : Int)), (104, vI (l.length : Int))] ⟨hd 15 101 (by kernel_rfl), hd 16 102 (by kernel_rfl), hd 18 104 (by kernel_rfl), trivial⟩
                      refine sp_take rfl rfl ((o_geq .i64 ((k : Nat) : Int) (l.length : Int) rfl rfl (?_)))
                      exact ⟨(Keep.refl _ _), congrArg Value.bool (hb1558)⟩
                    · intro F1 w1 k1 hf hd
                      have k0 := (Keep.drew [] wl1).trans k1
                      have s1 := sl1.call k0
                      have m1 : Mv Bl1 wl1 Bl1 w1 := Mv.of_keep k0
                      obtain ⟨F2, rfl⟩ := lit_of (F := F1) [(101, Value.bool false), (105, Value.bool true)] ⟨hd 15 101 (by kernel_rfl), hd 19 105 (by kernel_rfl), trivial⟩
                      exact sp_take rfl rfl ((o_move (Value.bool true) rfl (⟨(Keep.refl _ _), rfl⟩)))
                    · intro F1 w1 k1 hf hd
                      have k0 := (Keep.drew [] wl1).trans k1
                      have s1 := sl1.call k0
                      have m1 : Mv Bl1 wl1 Bl1 w1 := Mv.of_keep k0
                      have hl1540 := hl1540.mv m1
                      obtain ⟨F2, rfl⟩ := lit_of (F := F1) [(11, x1539), (106, Value.bool true)] ⟨hf 11 (by kernel_rfl), hd 20 106 (by kernel_rfl), trivial⟩
                      exact sp_take rfl rfl ((o_move (x1539) rfl (⟨(Keep.refl _ _), hl1540⟩)))
                    · intro F1 w1 k1 hf hd
                      have k0 := (Keep.drew [] wl1).trans k1
                      have s1 := sl1.call k0
                      have m1 : Mv Bl1 wl1 Bl1 w1 := Mv.of_keep k0
                      obtain ⟨F2, rfl⟩ := lit_of (F := F1) [(13, vI ((k : Nat) : Int)), (106, Value.bool true)] ⟨hf 13 (by kernel_rfl), hd 20 106 (by kernel_rfl), trivial⟩
                      exact sp_take rfl rfl ((o_move (vI ((k : Nat) : Int)) rfl (⟨(Keep.refl _ _), rfl⟩)))
                    intro F1588 w1589 k1587 hT1590 hF1591
                    have s1592 := sl1.call k1587
                    have m1593 : Mv Bl1 wl1 Bl1 w1589 := Mv.of_keep k1587
                    have h_l := h_l.mv m1593
                    have hl1540 := hl1540.mv m1593
                    obtain ⟨v1595, e1597, hl1596⟩ : ∃ v, F1588 87 = v ∧ RdL Enc.u8 w1589 (Bl1 ++ O) v (l) := ⟨_, rfl, hT1590 1 87 (by kernel_rfl) (by decide)⟩
                    have := hl1596.len_le
                    obtain ⟨v1598, e1600, hl1599⟩ : ∃ v, F1588 103 = v ∧ RdL Enc.u8 w1589 (Bl1 ++ O) v (l) := ⟨_, rfl, hT1590 17 103 (by kernel_rfl) (by decide)⟩
                    have := hl1599.len_le
                    obtain ⟨v1601, e1603, hl1602⟩ : ∃ v, F1588 107 = v ∧ RdL Enc.u8 w1589 (Bl1 ++ O) v ((coeff xs (tab xs.length fun q => pev l xs[q]!)).1) := ⟨_, rfl, hT1590 21 107 (by kernel_rfl) (by decide)⟩
                    have := hl1602.len_le
                    obtain ⟨F2, rfl⟩ := lit_of (F := F1588) [(0, l_v), (11, x1539), (13, vI ((k : Nat) : Int)), (80, vI ((k : Nat) : Int)), (81, x1539), (82, vI (((coeff xs (tab xs.length fun q => pev l xs[q]!)).1).length : Int)), (83, Value.bool (decide (((k : Nat) : Int) < (((coeff xs (tab xs.length fun q => pev l xs[q]!)).1).length : Int)))), (114, undef), (86, vI ((k : Nat) : Int)), (87, v1595), (88, vI (l.length : Int)), (89, Value.bool false), (90, Value.bool false), (100, Value.bool false), (101, Value.bool false), (102, vI ((k : Nat) : Int)), (103, v1598), (104, vI (l.length : Int)), (105, Value.bool true), (106, Value.bool true), (107, v1601), (108, vI ((k : Nat) : Int))] ⟨hF1591 0 (by kernel_rfl), hF1591 11 (by kernel_rfl), hF1591 13 (by kernel_rfl), hF1591 80 (by kernel_rfl), hF1591 81 (by kernel_rfl), hF1591 82 (by kernel_rfl), hF1591 83 (by kernel_rfl), hF1591 114 (by kernel_rfl), hT1590 0 86 (by kernel_rfl) (by decide), e1597, hT1590 2 88 (by kernel_rfl) (by decide), hT1590 3 89 (by kernel_rfl) (by decide), hT1590 4 90 (by kernel_rfl) (by decide), hT1590 14 100 (by kernel_rfl) (by decide), hT1590 15 101 (by kernel_rfl) (by decide), hT1590 16 102 (by kernel_rfl) (by decide), e1600, hT1590 18 104 (by kernel_rfl) (by decide), hT1590 19 105 (by kernel_rfl) (by decide), hT1590 20 106 (by kernel_rfl) (by decide), e1603, hT1590 22 108 (by kernel_rfl) (by decide), trivial⟩
                    clear hT1590 hF1591
                    refine wl_t rfl (o_idx Try.underlying28 s_5 .i64 ((k : Nat) : Int) k rfl rfl rfl hl1602 (by omega) fun a1604 hp1605 => (wl_t rfl (o_loadB Try.underlying5 rfl rfl hp1605 (wl_t rfl (o_neq8 (((coeff xs (tab xs.length fun q => pev l xs[q]!)).1)[k]!) (0 : UInt8) rfl rfl (wl_t rfl (o_pickT (Value.bool ((((coeff xs (tab xs.length fun q => pev l xs[q]!)).1)[k]!) != (0 : UInt8))) rfl rfl (wl_s (o_pickF (Value.bool ((((coeff xs (tab xs.length fun q => pev l xs[q]!)).1)[k]!) != (0 : UInt8))) rfl rfl (wl_nil (thenQ_n (?_))))))))))))
                    have hb1606 : ((((coeff xs (tab xs.length fun q => pev l xs[q]!)).1)[k]!) != (0 : UInt8)) = false := (by rw [vals_coeff (by omega) hw, get_out (by omega)]; simp)
                    rw [hb1606]
                    refine cw_cond false rfl rfl (fun h => by cases h) (fun _ => ?_)
                    refine cw_skip (blockQ_n (thenQ_n (?_)))
                    refine cw_region (by kernel_rfl) (wl_s (o_move (vI ((k : Nat) : Int)) rfl (wl_s (o_add .i64 ((k : Nat) : Int) (1 : Int) (((k + 1 : Nat) : Int)) rfl rfl (w64 (by omega) (by omega)) (wl_s (o_assign (vI ((k + 1 : Nat) : Int)) rfl (wl_nil (thenQ_n (?_)))))))))
                    exact ⟨_, (by omega), (k + 1), Bl1, (by first | omega | (simp; done) | (simp; omega) | simp_all), rfl, ⟨_, upds_self _ ⟨rfl, rfl, (by first | rfl | exact congrArg (Value.int _) (by first | omega | (simp))), rfl, trivial⟩⟩, s1592, h_l, hl1540⟩
                · have hp1607 : ((k : Nat) : Int) < (l.length : Int) := by first | simpa using hb1556 | (have e := hb1556; simp at e; omega)
                  have hb1608 : ((((coeff xs (tab xs.length fun q => pev l xs[q]!)).1)[k]!) != (l[k]!)) = false := (by rw [vals_coeff (by omega) hw]; simp)
                  try rw [hb1608]
                  cases hb1609 : (decide ((l.length : Int) ≤ ((k : Nat) : Int)))
                  · have hp1610 : ((k : Nat) : Int) < (l.length : Int) := by first | simpa using hb1609 | (have e := hb1609; simp at e; omega)
                    refine cw_draw' 23 _ _ [fun v _ => v = vI ((k : Nat) : Int), fun v w => RdL Enc.u8 w (Bl1 ++ O) v (l), fun v _ => v = vI (l.length : Int), fun v _ => v = Value.bool true, fun v _ => v = Value.bool true, fun v w => RdL Enc.u8 w (Bl1 ++ O) v ((coeff xs (tab xs.length fun q => pev l xs[q]!)).1), fun v _ => v = vI ((k : Nat) : Int), fun v w => ∃ a, v = .pointer (some a) ∧ PT Enc.u8 w (Bl1 ++ O) (.pointer (some a)) (((coeff xs (tab xs.length fun q => pev l xs[q]!)).1)[k]!), fun v _ => v = vB (((coeff xs (tab xs.length fun q => pev l xs[q]!)).1)[k]!), fun v w => RdL Enc.u8 w (Bl1 ++ O) v (l), fun v _ => v = vI ((k : Nat) : Int), fun v w => ∃ a, v = .pointer (some a) ∧ PT Enc.u8 w (Bl1 ++ O) (.pointer (some a)) (l[k]!), fun v _ => v = vB (l[k]!), fun v _ => v = Value.bool false, fun v _ => v = Value.bool false, fun v _ => v = Value.bool false, fun v _ => v = vI ((k : Nat) : Int), fun v w => RdL Enc.u8 w (Bl1 ++ O) v (l), fun v _ => v = vI (l.length : Int), fun v _ => v = Value.bool false, fun v _ => v = Value.bool false, fun v _ => v = undef, fun v _ => v = undef] (by kernel_rfl) (by kernel_rfl) (by kernel_rfl) (by kernel_rfl) rfl rfl ⟨fun _ _ _ h _ => h, fun _ _ _ h k => h.mv (Mv.of_keep k), fun _ _ _ h _ => h, fun _ _ _ h _ => h, fun _ _ _ h _ => h, fun _ _ _ h k => h.mv (Mv.of_keep k), fun _ _ _ h _ => h, fun _ _ _ ⟨a, e, h⟩ k => ⟨a, e, h.mv (Mv.of_keep k)⟩, fun _ _ _ h _ => h, fun _ _ _ h k => h.mv (Mv.of_keep k), fun _ _ _ h _ => h, fun _ _ _ ⟨a, e, h⟩ k => ⟨a, e, h.mv (Mv.of_keep k)⟩, fun _ _ _ h _ => h, fun _ _ _ h _ => h, fun _ _ _ h _ => h, fun _ _ _ h _ => h, fun _ _ _ h _ => h, fun _ _ _ h k => h.mv (Mv.of_keep k), fun _ _ _ h _ => h, fun _ _ _ h _ => h, fun _ _ _ h _ => h, fun _ _ _ h _ => h, fun _ _ _ h _ => h, trivial⟩ ⟨?_, ?_, ?_, ?_, ?_, ?_, ?_, ?_, ?_, ?_, ?_, ?_, ?_, ?_, ?_, ?_, ?_, ?_, ?_, ?_, ?_, ?_, ?_, trivial⟩ ?_
                    · intro F1 w1 k1 hf hd
                      have k0 := (Keep.drew [] wl1).trans k1
                      have s1 := sl1.call k0
                      have m1 : Mv Bl1 wl1 Bl1 w1 := Mv.of_keep k0
                      obtain ⟨F2, rfl⟩ := lit_of (F := F1) [(13, vI ((k : Nat) : Int))] ⟨hf 13 (by kernel_rfl), trivial⟩
                      exact sp_plain rfl ((o_move (vI ((k : Nat) : Int)) rfl (⟨(Keep.refl _ _), rfl⟩)))
                    · intro F1 w1 k1 hf hd
                      have k0 := (Keep.drew [] wl1).trans k1
                      have s1 := sl1.call k0
                      have m1 : Mv Bl1 wl1 Bl1 w1 := Mv.of_keep k0
                      have h_l := h_l.mv m1
                      obtain ⟨F2, rfl⟩ := lit_of (F := F1) [(0, l_v)] ⟨hf 0 (by kernel_rfl), trivial⟩
                      exact sp_plain rfl ((o_move (l_v) rfl (⟨(Keep.refl _ _), h_l⟩)))
                    · intro F1 w1 k1 hf hd
                      have k0 := (Keep.drew [] wl1).trans k1
                      have s1 := sl1.call k0
                      have m1 : Mv Bl1 wl1 Bl1 w1 := Mv.of_keep k0
                      obtain ⟨v1611, e1613, hl1612⟩ : ∃ v, F1 87 = v ∧ RdL Enc.u8 w1 (Bl1 ++ O) v (l) := ⟨_, rfl, hd 1 87 (by kernel_rfl)⟩
                      have := hl1612.len_le
                      obtain ⟨F2, rfl⟩ := lit_of (F := F1) [(87, v1611)] ⟨e1613, trivial⟩
                      exact sp_plain rfl ((o_lenR Try.underlying28 rfl hl1612 (⟨(Keep.refl _ _), rfl⟩)))
                    · intro F1 w1 k1 hf hd
                      have k0 := (Keep.drew [] wl1).trans k1
                      have s1 := sl1.call k0
                      have m1 : Mv Bl1 wl1 Bl1 w1 := Mv.of_keep k0
                      obtain ⟨F2, rfl⟩ := lit_of (F := F1) [(86, vI ((k : Nat) : Int)), (88, vI (l.length : Int))] ⟨hd 0 86 (by kernel_rfl), hd 2 88 (by kernel_rfl), trivial⟩
                      refine sp_plain rfl ((o_lss .i64 ((k : Nat) : Int) (l.length : Int) rfl rfl (?_)))
                      exact ⟨(Keep.refl _ _), congrArg Value.bool (hb1556)⟩
                    · intro F1 w1 k1 hf hd
                      have k0 := (Keep.drew [] wl1).trans k1
                      have s1 := sl1.call k0
                      have m1 : Mv Bl1 wl1 Bl1 w1 := Mv.of_keep k0
                      obtain ⟨F2, rfl⟩ := lit_of (F := F1) [(89, Value.bool true)] ⟨hd 3 89 (by kernel_rfl), trivial⟩
                      exact sp_plain rfl ((o_move (Value.bool true) rfl (⟨(Keep.refl _ _), rfl⟩)))
                    · intro F1 w1 k1 hf hd
                      have k0 := (Keep.drew [] wl1).trans k1
                      have s1 := sl1.call k0
                      have m1 : Mv Bl1 wl1 Bl1 w1 := Mv.of_keep k0
                      have hl1540 := hl1540.mv m1
                      obtain ⟨F2, rfl⟩ := lit_of (F := F1) [(11, x1539), (90, Value.bool true)] ⟨hf 11 (by kernel_rfl), hd 4 90 (by kernel_rfl), trivial⟩
                      exact sp_take rfl rfl ((o_move (x1539) rfl (⟨(Keep.refl _ _), hl1540⟩)))
                    · intro F1 w1 k1 hf hd
                      have k0 := (Keep.drew [] wl1).trans k1
                      have s1 := sl1.call k0
                      have m1 : Mv Bl1 wl1 Bl1 w1 := Mv.of_keep k0
                      obtain ⟨F2, rfl⟩ := lit_of (F := F1) [(13, vI ((k : Nat) : Int)), (90, Value.bool true)] ⟨hf 13 (by kernel_rfl), hd 4 90 (by kernel_rfl), trivial⟩
                      exact sp_take rfl rfl ((o_move (vI ((k : Nat) : Int)) rfl (⟨(Keep.refl _ _), rfl⟩)))
                    · intro F1 w1 k1 hf hd
                      have k0 := (Keep.drew [] wl1).trans k1
                      have s1 := sl1.call k0
                      have m1 : Mv Bl1 wl1 Bl1 w1 := Mv.of_keep k0
                      obtain ⟨v1614, e1616, hl1615⟩ : ∃ v, F1 91 = v ∧ RdL Enc.u8 w1 (Bl1 ++ O) v ((coeff xs (tab xs.length fun q => pev l xs[q]!)).1) := ⟨_, rfl, hd 5 91 (by kernel_rfl)⟩
                      have := hl1615.len_le
                      obtain ⟨F2, rfl⟩ := lit_of (F := F1) [(90, Value.bool true), (91, v1614), (92, vI ((k : Nat) : Int))] ⟨hd 4 90 (by kernel_rfl), e1616, hd 6 92 (by kernel_rfl), trivial⟩
                      exact sp_take rfl rfl ((o_idx Try.underlying28 s_5 .i64 ((k : Nat) : Int) k rfl rfl rfl hl1615 (by omega) fun a1617 hp1618 => (⟨(Keep.refl _ _), ⟨a1617, rfl, hp1618⟩⟩)))
                    · intro F1 w1 k1 hf hd
                      have k0 := (Keep.drew [] wl1).trans k1
                      have s1 := sl1.call k0
                      have m1 : Mv Bl1 wl1 Bl1 w1 := Mv.of_keep k0
                      obtain ⟨a1619, e1621, hp1620⟩ : ∃ a, F1 93 = .pointer (some a) ∧ PT Enc.u8 w1 (Bl1 ++ O) (.pointer (some a)) (((coeff xs (tab xs.length fun q => pev l xs[q]!)).1)[k]!) := hd 7 93 (by kernel_rfl)
                      obtain ⟨F2, rfl⟩ := lit_of (F := F1) [(90, Value.bool true), (93, Value.pointer (some a1619))] ⟨hd 4 90 (by kernel_rfl), e1621, trivial⟩
                      exact sp_take rfl rfl ((o_loadB Try.underlying5 rfl rfl hp1620 (⟨(Keep.refl _ _), rfl⟩)))
                    · intro F1 w1 k1 hf hd
                      have k0 := (Keep.drew [] wl1).trans k1
                      have s1 := sl1.call k0
                      have m1 : Mv Bl1 wl1 Bl1 w1 := Mv.of_keep k0
                      have h_l := h_l.mv m1
                      obtain ⟨F2, rfl⟩ := lit_of (F := F1) [(0, l_v), (90, Value.bool true)] ⟨hf 0 (by kernel_rfl), hd 4 90 (by kernel_rfl), trivial⟩
                      exact sp_take rfl rfl ((o_move (l_v) rfl (⟨(Keep.refl _ _), h_l⟩)))
                    · intro F1 w1 k1 hf hd
                      have k0 := (Keep.drew [] wl1).trans k1
                      have s1 := sl1.call k0
                      have m1 : Mv Bl1 wl1 Bl1 w1 := Mv.of_keep k0
                      obtain ⟨F2, rfl⟩ := lit_of (F := F1) [(13, vI ((k : Nat) : Int)), (90, Value.bool true)] ⟨hf 13 (by kernel_rfl), hd 4 90 (by kernel_rfl), trivial⟩
                      exact sp_take rfl rfl ((o_move (vI ((k : Nat) : Int)) rfl (⟨(Keep.refl _ _), rfl⟩)))
                    · intro F1 w1 k1 hf hd
                      have k0 := (Keep.drew [] wl1).trans k1
                      have s1 := sl1.call k0
                      have m1 : Mv Bl1 wl1 Bl1 w1 := Mv.of_keep k0
                      obtain ⟨v1622, e1624, hl1623⟩ : ∃ v, F1 95 = v ∧ RdL Enc.u8 w1 (Bl1 ++ O) v (l) := ⟨_, rfl, hd 9 95 (by kernel_rfl)⟩
                      have := hl1623.len_le
                      obtain ⟨F2, rfl⟩ := lit_of (F := F1) [(90, Value.bool true), (95, v1622), (96, vI ((k : Nat) : Int))] ⟨hd 4 90 (by kernel_rfl), e1624, hd 10 96 (by kernel_rfl), trivial⟩
                      exact sp_take rfl rfl ((o_idx Try.underlying28 s_5 .i64 ((k : Nat) : Int) k rfl rfl rfl hl1623 (by omega) fun a1625 hp1626 => (⟨(Keep.refl _ _), ⟨a1625, rfl, hp1626⟩⟩)))
                    · intro F1 w1 k1 hf hd
                      have k0 := (Keep.drew [] wl1).trans k1
                      have s1 := sl1.call k0
                      have m1 : Mv Bl1 wl1 Bl1 w1 := Mv.of_keep k0
                      obtain ⟨a1627, e1629, hp1628⟩ : ∃ a, F1 97 = .pointer (some a) ∧ PT Enc.u8 w1 (Bl1 ++ O) (.pointer (some a)) (l[k]!) := hd 11 97 (by kernel_rfl)
                      obtain ⟨F2, rfl⟩ := lit_of (F := F1) [(90, Value.bool true), (97, Value.pointer (some a1627))] ⟨hd 4 90 (by kernel_rfl), e1629, trivial⟩
                      exact sp_take rfl rfl ((o_loadB Try.underlying5 rfl rfl hp1628 (⟨(Keep.refl _ _), rfl⟩)))
                    · intro F1 w1 k1 hf hd
                      have k0 := (Keep.drew [] wl1).trans k1
                      have s1 := sl1.call k0
                      have m1 : Mv Bl1 wl1 Bl1 w1 := Mv.of_keep k0
                      obtain ⟨F2, rfl⟩ := lit_of (F := F1) [(90, Value.bool true), (94, vB (((coeff xs (tab xs.length fun q => pev l xs[q]!)).1)[k]!)), (98, vB (l[k]!))] ⟨hd 4 90 (by kernel_rfl), hd 8 94 (by kernel_rfl), hd 12 98 (by kernel_rfl), trivial⟩
                      refine sp_take rfl rfl ((o_neq8 (((coeff xs (tab xs.length fun q => pev l xs[q]!)).1)[k]!) (l[k]!) rfl rfl (?_)))
                      exact ⟨(Keep.refl _ _), congrArg Value.bool (hb1608)⟩
                    · intro F1 w1 k1 hf hd
                      have k0 := (Keep.drew [] wl1).trans k1
                      have s1 := sl1.call k0
                      have m1 : Mv Bl1 wl1 Bl1 w1 := Mv.of_keep k0
                      obtain ⟨F2, rfl⟩ := lit_of (F := F1) [(90, Value.bool true), (99, Value.bool false)] ⟨hd 4 90 (by kernel_rfl), hd 13 99 (by kernel_rfl), trivial⟩
                      exact sp_plain rfl ((o_pickT (Value.bool false) rfl rfl (⟨(Keep.refl _ _), rfl⟩)))
                    · intro F1 w1 k1 hf hd
                      have k0 := (Keep.drew [] wl1).trans k1
                      have s1 := sl1.call k0
                      have m1 : Mv Bl1 wl1 Bl1 w1 := Mv.of_keep k0
                      obtain ⟨F2, rfl⟩ := lit_of (F := F1) [(100, Value.bool false)] ⟨hd 14 100 (by kernel_rfl), trivial⟩
                      exact sp_plain rfl ((o_move (Value.bool false) rfl (⟨(Keep.refl _ _), rfl⟩)))
                    · intro F1 w1 k1 hf hd
                      have k0 := (Keep.drew [] wl1).trans k1
                      have s1 := sl1.call k0
                      have m1 : Mv Bl1 wl1 Bl1 w1 := Mv.of_keep k0
                      obtain ⟨F2, rfl⟩ := lit_of (F := F1) [(13, vI ((k : Nat) : Int)), (101, Value.bool false)] ⟨hf 13 (by kernel_rfl), hd 15 101 (by kernel_rfl), trivial⟩
                      exact sp_take rfl rfl ((o_move (vI ((k : Nat) : Int)) rfl (⟨(Keep.refl _ _), rfl⟩)))
                    · intro F1 w1 k1 hf hd
                      have k0 := (Keep.drew [] wl1).trans k1
                      have s1 := sl1.call k0
                      have m1 : Mv Bl1 wl1 Bl1 w1 := Mv.of_keep k0
                      have h_l := h_l.mv m1
                      obtain ⟨F2, rfl⟩ := lit_of (F := F1) [(0, l_v), (101, Value.bool false)] ⟨hf 0 (by kernel_rfl), hd 15 101 (by kernel_rfl), trivial⟩
                      exact sp_take rfl rfl ((o_move (l_v) rfl (⟨(Keep.refl _ _), h_l⟩)))
                    · intro F1 w1 k1 hf hd
                      have k0 := (Keep.drew [] wl1).trans k1
                      have s1 := sl1.call k0
                      have m1 : Mv Bl1 wl1 Bl1 w1 := Mv.of_keep k0
                      obtain ⟨v1630, e1632, hl1631⟩ : ∃ v, F1 103 = v ∧ RdL Enc.u8 w1 (Bl1 ++ O) v (l) := ⟨_, rfl, hd 17 103 (by kernel_rfl)⟩
                      have := hl1631.len_le
                      obtain ⟨F2, rfl⟩ := lit_of (F := F1) [(101, Value.bool false), (103, v1630)] ⟨hd 15 101 (by kernel_rfl), e1632, trivial⟩
                      exact sp_take rfl rfl ((o_lenR Try.underlying28 rfl hl1631 (⟨(Keep.refl _ _), rfl⟩)))
                    · intro F1 w1 k1 hf hd
                      have k0 := (Keep.drew [] wl1).trans k1
                      have s1 := sl1.call k0
                      have m1 : Mv Bl1 wl1 Bl1 w1 := Mv.of_keep k0
                      obtain ⟨F2, rfl⟩ := lit_of (F := F1) [(101, Value.bool false), (102, vI ((k : Nat) : Int)), (104, vI (l.length : Int))] ⟨hd 15 101 (by kernel_rfl), hd 16 102 (by kernel_rfl), hd 18 104 (by kernel_rfl), trivial⟩
                      refine sp_take rfl rfl ((o_geq .i64 ((k : Nat) : Int) (l.length : Int) rfl rfl (?_)))
                      exact ⟨(Keep.refl _ _), congrArg Value.bool (hb1609)⟩
                    · intro F1 w1 k1 hf hd
                      have k0 := (Keep.drew [] wl1).trans k1
                      have s1 := sl1.call k0
                      have m1 : Mv Bl1 wl1 Bl1 w1 := Mv.of_keep k0
                      obtain ⟨F2, rfl⟩ := lit_of (F := F1) [(101, Value.bool false), (105, Value.bool false)] ⟨hd 15 101 (by kernel_rfl), hd 19 105 (by kernel_rfl), trivial⟩
                      exact sp_take rfl rfl ((o_move (Value.bool false) rfl (⟨(Keep.refl _ _), rfl⟩)))
                    · intro F1 w1 k1 hf hd
                      have k0 := (Keep.drew [] wl1).trans k1
                      have s1 := sl1.call k0
                      have m1 : Mv Bl1 wl1 Bl1 w1 := Mv.of_keep k0
                      exact sp_skip rfl (by show yieldF _ F1 20 = _; have e : F1 106 = .bool false := hd 20 106 (by kernel_rfl); simp only [yieldF]; simp [e]) rfl
                    · intro F1 w1 k1 hf hd
                      have k0 := (Keep.drew [] wl1).trans k1
                      have s1 := sl1.call k0
                      have m1 : Mv Bl1 wl1 Bl1 w1 := Mv.of_keep k0
                      exact sp_skip rfl (by show yieldF _ F1 20 = _; have e : F1 106 = .bool false := hd 20 106 (by kernel_rfl); simp only [yieldF]; simp [e]) rfl
                    intro F1634 w1635 k1633 hT1636 hF1637
                    have s1638 := sl1.call k1633
                    have m1639 : Mv Bl1 wl1 Bl1 w1635 := Mv.of_keep k1633
                    have h_l := h_l.mv m1639
                    have hl1540 := hl1540.mv m1639
                    obtain ⟨v1641, e1643, hl1642⟩ : ∃ v, F1634 87 = v ∧ RdL Enc.u8 w1635 (Bl1 ++ O) v (l) := ⟨_, rfl, hT1636 1 87 (by kernel_rfl) (by decide)⟩
                    have := hl1642.len_le
                    obtain ⟨v1644, e1646, hl1645⟩ : ∃ v, F1634 91 = v ∧ RdL Enc.u8 w1635 (Bl1 ++ O) v ((coeff xs (tab xs.length fun q => pev l xs[q]!)).1) := ⟨_, rfl, hT1636 5 91 (by kernel_rfl) (by decide)⟩
                    have := hl1645.len_le
                    obtain ⟨a1647, e1649, hp1648⟩ : ∃ a, F1634 93 = .pointer (some a) ∧ PT Enc.u8 w1635 (Bl1 ++ O) (.pointer (some a)) (((coeff xs (tab xs.length fun q => pev l xs[q]!)).1)[k]!) := hT1636 7 93 (by kernel_rfl) (by decide)
                    obtain ⟨v1650, e1652, hl1651⟩ : ∃ v, F1634 95 = v ∧ RdL Enc.u8 w1635 (Bl1 ++ O) v (l) := ⟨_, rfl, hT1636 9 95 (by kernel_rfl) (by decide)⟩
                    have := hl1651.len_le
                    obtain ⟨a1653, e1655, hp1654⟩ : ∃ a, F1634 97 = .pointer (some a) ∧ PT Enc.u8 w1635 (Bl1 ++ O) (.pointer (some a)) (l[k]!) := hT1636 11 97 (by kernel_rfl) (by decide)
                    obtain ⟨v1656, e1658, hl1657⟩ : ∃ v, F1634 103 = v ∧ RdL Enc.u8 w1635 (Bl1 ++ O) v (l) := ⟨_, rfl, hT1636 17 103 (by kernel_rfl) (by decide)⟩
                    have := hl1657.len_le
                    obtain ⟨F2, rfl⟩ := lit_of (F := F1634) [(0, l_v), (11, x1539), (13, vI ((k : Nat) : Int)), (80, vI ((k : Nat) : Int)), (81, x1539), (82, vI (((coeff xs (tab xs.length fun q => pev l xs[q]!)).1).length : Int)), (83, Value.bool (decide (((k : Nat) : Int) < (((coeff xs (tab xs.length fun q => pev l xs[q]!)).1).length : Int)))), (114, undef), (86, vI ((k : Nat) : Int)), (87, v1641), (88, vI (l.length : Int)), (89, Value.bool true), (90, Value.bool true), (91, v1644), (92, vI ((k : Nat) : Int)), (93, Value.pointer (some a1647)), (94, vB (((coeff xs (tab xs.length fun q => pev l xs[q]!)).1)[k]!)), (95, v1650), (96, vI ((k : Nat) : Int)), (97, Value.pointer (some a1653)), (98, vB (l[k]!)), (99, Value.bool false), (100, Value.bool false), (101, Value.bool false), (102, vI ((k : Nat) : Int)), (103, v1656), (104, vI (l.length : Int)), (105, Value.bool false), (106, Value.bool false)] ⟨hF1637 0 (by kernel_rfl), hF1637 11 (by kernel_rfl), hF1637 13 (by kernel_rfl), hF1637 80 (by kernel_rfl), hF1637 81 (by kernel_rfl), hF1637 82 (by kernel_rfl), hF1637 83 (by kernel_rfl), hF1637 114 (by kernel_rfl), hT1636 0 86 (by kernel_rfl) (by decide), e1643, hT1636 2 88 (by kernel_rfl) (by decide), hT1636 3 89 (by kernel_rfl) (by decide), hT1636 4 90 (by kernel_rfl) (by decide), e1646, hT1636 6 92 (by kernel_rfl) (by decide), e1649, hT1636 8 94 (by kernel_rfl) (by decide), e1652, hT1636 10 96 (by kernel_rfl) (by decide), e1655, hT1636 12 98 (by kernel_rfl) (by decide), hT1636 13 99 (by kernel_rfl) (by decide), hT1636 14 100 (by kernel_rfl) (by decide), hT1636 15 101 (by kernel_rfl) (by decide), hT1636 16 102 (by kernel_rfl) (by decide), e1658, hT1636 18 104 (by kernel_rfl) (by decide), hT1636 19 105 (by kernel_rfl) (by decide), hT1636 20 106 (by kernel_rfl) (by decide), trivial⟩
                    clear hT1636 hF1637
                    refine wl_k rfl (wl_k rfl (wl_k rfl (wl_t rfl (o_pickF (Value.bool false) rfl rfl (wl_s (o_pickF (Value.bool false) rfl rfl (wl_nil (thenQ_n (?_)))))))))
                    refine cw_cond false rfl rfl (fun h => by cases h) (fun _ => ?_)
                    refine cw_skip (blockQ_n (thenQ_n (?_)))
                    refine cw_region (by kernel_rfl) (wl_s (o_move (vI ((k : Nat) : Int)) rfl (wl_s (o_add .i64 ((k : Nat) : Int) (1 : Int) (((k + 1 : Nat) : Int)) rfl rfl (w64 (by omega) (by omega)) (wl_s (o_assign (vI ((k + 1 : Nat) : Int)) rfl (wl_nil (thenQ_n (?_)))))))))
                    exact ⟨_, (by omega), (k + 1), Bl1, (by first | omega | (simp; done) | (simp; omega) | simp_all), rfl, ⟨_, upds_self _ ⟨rfl, rfl, (by first | rfl | exact congrArg (Value.int _) (by first | omega | (simp))), rfl, trivial⟩⟩, s1638, h_l, hl1540⟩
                  · have hp1659 : (l.length : Int) ≤ ((k : Nat) : Int) := by first | simpa using hb1609 | (have e := hb1609; simp at e; omega)
                    refine cw_draw' 23 _ _ [fun v _ => v = vI ((k : Nat) : Int), fun v w => RdL Enc.u8 w (Bl1 ++ O) v (l), fun v _ => v = vI (l.length : Int), fun v _ => v = Value.bool true, fun v _ => v = Value.bool true, fun v w => RdL Enc.u8 w (Bl1 ++ O) v ((coeff xs (tab xs.length fun q => pev l xs[q]!)).1), fun v _ => v = vI ((k : Nat) : Int), fun v w => ∃ a, v = .pointer (some a) ∧ PT Enc.u8 w (Bl1 ++ O) (.pointer (some a)) (((coeff xs (tab xs.length fun q => pev l xs[q]!)).1)[k]!), fun v _ => v = vB (((coeff xs (tab xs.length fun q => pev l xs[q]!)).1)[k]!), fun v w => RdL Enc.u8 w (Bl1 ++ O) v (l), fun v _ => v = vI ((k : Nat) : Int), fun v w => ∃ a, v = .pointer (some a) ∧ PT Enc.u8 w (Bl1 ++ O) (.pointer (some a)) (l[k]!), fun v _ => v = vB (l[k]!), fun v _ => v = Value.bool false, fun v _ => v = Value.bool false, fun v _ => v = Value.bool false, fun v _ => v = vI ((k : Nat) : Int), fun v w => RdL Enc.u8 w (Bl1 ++ O) v (l), fun v _ => v = vI (l.length : Int), fun v _ => v = Value.bool true, fun v _ => v = Value.bool true, fun v w => RdL Enc.u8 w (Bl1 ++ O) v ((coeff xs (tab xs.length fun q => pev l xs[q]!)).1), fun v _ => v = vI ((k : Nat) : Int)] (by kernel_rfl) (by kernel_rfl) (by kernel_rfl) (by kernel_rfl) rfl rfl ⟨fun _ _ _ h _ => h, fun _ _ _ h k => h.mv (Mv.of_keep k), fun _ _ _ h _ => h, fun _ _ _ h _ => h, fun _ _ _ h _ => h, fun _ _ _ h k => h.mv (Mv.of_keep k), fun _ _ _ h _ => h, fun _ _ _ ⟨a, e, h⟩ k => ⟨a, e, h.mv (Mv.of_keep k)⟩, fun _ _ _ h _ => h, fun _ _ _ h k => h.mv (Mv.of_keep k), fun _ _ _ h _ => h, fun _ _ _ ⟨a, e, h⟩ k => ⟨a, e, h.mv (Mv.of_keep k)⟩, fun _ _ _ h _ => h, fun _ _ _ h _ => h, fun _ _ _ h _ => h, fun _ _ _ h _ => h, fun _ _ _ h _ => h, fun _ _ _ h k => h.mv (Mv.of_keep k), fun _ _ _ h _ => h, fun _ _ _ h _ => h, fun _ _ _ h _ => h, fun _ _ _ h k => h.mv (Mv.of_keep k), fun _ _ _ h _ => h, trivial⟩ ⟨?_, ?_, ?_, ?_, ?_, ?_, ?_, ?_, ?_, ?_, ?_, ?_, ?_, ?_, ?_, ?_, ?_, ?_, ?_, ?_, ?_, ?_, ?_, trivial⟩ ?_
                    · intro F1 w1 k1 hf hd
                      have k0 := (Keep.drew [] wl1).trans k1
                      have s1 := sl1.call k0
                      have m1 : Mv Bl1 wl1 Bl1 w1 := Mv.of_keep k0
                      obtain ⟨F2, rfl⟩ := lit_of (F := F1) [(13, vI ((k : Nat) : Int))] ⟨hf 13 (by kernel_rfl), trivial⟩
                      exact sp_plain rfl ((o_move (vI ((k : Nat) : Int)) rfl (⟨(Keep.refl _ _), rfl⟩)))
                    · intro F1 w1 k1 hf hd
                      have k0 := (Keep.drew [] wl1).trans k1
                      have s1 := sl1.call k0
                      have m1 : Mv Bl1 wl1 Bl1 w1 := Mv.of_keep k0
                      have h_l := h_l.mv m1
                      obtain ⟨F2, rfl⟩ := lit_of (F := F1) [(0, l_v)] ⟨hf 0 (by kernel_rfl), trivial⟩
                      exact sp_plain rfl ((o_move (l_v) rfl (⟨(Keep.refl _ _), h_l⟩)))
                    · intro F1 w1 k1 hf hd
                      have k0 := (Keep.drew [] wl1).trans k1
                      have s1 := sl1.call k0
                      have m1 : Mv Bl1 wl1 Bl1 w1 := Mv.of_keep k0
                      obtain ⟨v1660, e1662, hl1661⟩ : ∃ v, F1 87 = v ∧ RdL Enc.u8 w1 (Bl1 ++ O) v (l) := ⟨_, rfl, hd 1 87 (by kernel_rfl)⟩
                      have := hl1661.len_le
                      obtain ⟨F2, rfl⟩ := lit_of (F := F1) [(87, v1660)] ⟨e1662, trivial⟩
                      exact sp_plain rfl ((o_lenR Try.underlying28 rfl hl1661 (⟨(Keep.refl _ _), rfl⟩)))
                    · intro F1 w1 k1 hf hd
                      have k0 := (Keep.drew [] wl1).trans k1
                      have s1 := sl1.call k0
                      have m1 : Mv Bl1 wl1 Bl1 w1 := Mv.of_keep k0
                      obtain ⟨F2, rfl⟩ := lit_of (F := F1) [(86, vI ((k : Nat) : Int)), (88, vI (l.length : Int))] ⟨hd 0 86 (by kernel_rfl), hd 2 88 (by kernel_rfl), trivial⟩
                      refine sp_plain rfl ((o_lss .i64 ((k : Nat) : Int) (l.length : Int) rfl rfl (?_)))
                      exact ⟨(Keep.refl _ _), congrArg Value.bool (hb1556)⟩
                    · intro F1 w1 k1 hf hd
                      have k0 := (Keep.drew [] wl1).trans k1
                      have s1 := sl1.call k0
                      have m1 : Mv Bl1 wl1 Bl1 w1 := Mv.of_keep k0
                      obtain ⟨F2, rfl⟩ := lit_of (F := F1) [(89, Value.bool true)] ⟨hd 3 89 (by kernel_rfl), trivial⟩
                      exact sp_plain rfl ((o_move (Value.bool true) rfl (⟨(Keep.refl _ _), rfl⟩)))
                    · intro F1 w1 k1 hf hd
                      have k0 := (Keep.drew [] wl1).trans k1
                      have s1 := sl1.call k0
                      have m1 : Mv Bl1 wl1 Bl1 w1 := Mv.of_keep k0
                      have hl1540 := hl1540.mv m1
                      obtain ⟨F2, rfl⟩ := lit_of (F := F1) [(11, x1539), (90, Value.bool true)] ⟨hf 11 (by kernel_rfl), hd 4 90 (by kernel_rfl), trivial⟩
                      exact sp_take rfl rfl ((o_move (x1539) rfl (⟨(Keep.refl _ _), hl1540⟩)))
                    · intro F1 w1 k1 hf hd
                      have k0 := (Keep.drew [] wl1).trans k1
                      have s1 := sl1.call k0
                      have m1 : Mv Bl1 wl1 Bl1 w1 := Mv.of_keep k0
                      obtain ⟨F2, rfl⟩ := lit_of (F := F1) [(13, vI ((k : Nat) : Int)), (90, Value.bool true)] ⟨hf 13 (by kernel_rfl), hd 4 90 (by kernel_rfl), trivial⟩
                      exact sp_take rfl rfl ((o_move (vI ((k : Nat) : Int)) rfl (⟨(Keep.refl _ _), rfl⟩)))
                    · intro F1 w1 k1 hf hd
                      have k0 := (Keep.drew [] wl1).trans k1
                      have s1 := sl1.call k0
                      have m1 : Mv Bl1 wl1 Bl1 w1 := Mv.of_keep k0
                      obtain ⟨v1663, e1665, hl1664⟩ : ∃ v, F1 91 = v ∧ RdL Enc.u8 w1 (Bl1 ++ O) v ((coeff xs (tab xs.length fun q => pev l xs[q]!)).1) := ⟨_, rfl, hd 5 91 (by kernel_rfl)⟩
                      have := hl1664.len_le
                      obtain ⟨F2, rfl⟩ := lit_of (F := F1) [(90, Value.bool true), (91, v1663), (92, vI ((k : Nat) : Int))] ⟨hd 4 90 (by kernel_rfl), e1665, hd 6 92 (by kernel_rfl), trivial⟩
                      exact sp_take rfl rfl ((o_idx Try.underlying28 s_5 .i64 ((k : Nat) : Int) k rfl rfl rfl hl1664 (by omega) fun a1666 hp1667 => (⟨(Keep.refl _ _), ⟨a1666, rfl, hp1667⟩⟩)))
                    · intro F1 w1 k1 hf hd
                      have k0 := (Keep.drew [] wl1).trans k1
                      have s1 := sl1.call k0
                      have m1 : Mv Bl1 wl1 Bl1 w1 := Mv.of_keep k0
                      obtain ⟨a1668, e1670, hp1669⟩ : ∃ a, F1 93 = .pointer (some a) ∧ PT Enc.u8 w1 (Bl1 ++ O) (.pointer (some a)) (((coeff xs (tab xs.length fun q => pev l xs[q]!)).1)[k]!) := hd 7 93 (by kernel_rfl)
                      obtain ⟨F2, rfl⟩ := lit_of (F := F1) [(90, Value.bool true), (93, Value.pointer (some a1668))] ⟨hd 4 90 (by kernel_rfl), e1670, trivial⟩
                      exact sp_take rfl rfl ((o_loadB Try.underlying5 rfl rfl hp1669 (⟨(Keep.refl _ _), rfl⟩)))
                    · intro F1 w1 k1 hf hd
                      have k0 := (Keep.drew [] wl1).trans k1
                      have s1 := sl1.call k0
                      have m1 : Mv Bl1 wl1 Bl1 w1 := Mv.of_keep k0
                      have h_l := h_l.mv m1
                      obtain ⟨F2, rfl⟩ := lit_of (F := F1) [(0, l_v), (90, Value.bool true)] ⟨hf 0 (by kernel_rfl), hd 4 90 (by kernel_rfl), trivial⟩
                      exact sp_take rfl rfl ((o_move (l_v) rfl (⟨(Keep.refl _ _), h_l⟩)))
                    · intro F1 w1 k1 hf hd
                      have k0 := (Keep.drew [] wl1).trans k1
                      have s1 := sl1.call k0
                      have m1 : Mv Bl1 wl1 Bl1 w1 := Mv.of_keep k0
                      obtain ⟨F2, rfl⟩ := lit_of (F := F1) [(13, vI ((k : Nat) : Int)), (90, Value.bool true)] ⟨hf 13 (by kernel_rfl), hd 4 90 (by kernel_rfl), trivial⟩
                      exact sp_take rfl rfl ((o_move (vI ((k : Nat) : Int)) rfl (⟨(Keep.refl _ _), rfl⟩)))
                    · intro F1 w1 k1 hf hd
                      have k0 := (Keep.drew [] wl1).trans k1
                      have s1 := sl1.call k0
                      have m1 : Mv Bl1 wl1 Bl1 w1 := Mv.of_keep k0
                      obtain ⟨v1671, e1673, hl1672⟩ : ∃ v, F1 95 = v ∧ RdL Enc.u8 w1 (Bl1 ++ O) v (l) := ⟨_, rfl, hd 9 95 (by kernel_rfl)⟩
                      have := hl1672.len_le
                      obtain ⟨F2, rfl⟩ := lit_of (F := F1) [(90, Value.bool true), (95, v1671), (96, vI ((k : Nat) : Int))] ⟨hd 4 90 (by kernel_rfl), e1673, hd 10 96 (by kernel_rfl), trivial⟩
                      exact sp_take rfl rfl ((o_idx Try.underlying28 s_5 .i64 ((k : Nat) : Int) k rfl rfl rfl hl1672 (by omega) fun a1674 hp1675 => (⟨(Keep.refl _ _), ⟨a1674, rfl, hp1675⟩⟩)))
                    · intro F1 w1 k1 hf hd
                      have k0 := (Keep.drew [] wl1).trans k1
                      have s1 := sl1.call k0
                      have m1 : Mv Bl1 wl1 Bl1 w1 := Mv.of_keep k0
                      obtain ⟨a1676, e1678, hp1677⟩ : ∃ a, F1 97 = .pointer (some a) ∧ PT Enc.u8 w1 (Bl1 ++ O) (.pointer (some a)) (l[k]!) := hd 11 97 (by kernel_rfl)
                      obtain ⟨F2, rfl⟩ := lit_of (F := F1) [(90, Value.bool true), (97, Value.pointer (some a1676))] ⟨hd 4 90 (by kernel_rfl), e1678, trivial⟩
                      exact sp_take rfl rfl ((o_loadB Try.underlying5 rfl rfl hp1677 (⟨(Keep.refl _ _), rfl⟩)))
                    · intro F1 w1 k1 hf hd
                      have k0 := (Keep.drew [] wl1).trans k1
                      have s1 := sl1.call k0
                      have m1 : Mv Bl1 wl1 Bl1 w1 := Mv.of_keep k0
                      obtain ⟨F2, rfl⟩ := lit_of (F := F1) [(90, Value.bool true), (94, vB (((coeff xs (tab xs.length fun q => pev l xs[q]!)).1)[k]!)), (98, vB (l[k]!))] ⟨hd 4 90 (by kernel_rfl), hd 8 94 (by kernel_rfl), hd 12 98 (by kernel_rfl), trivial⟩
                      refine sp_take rfl rfl ((o_neq8 (((coeff xs (tab xs.length fun q => pev l xs[q]!)).1)[k]!) (l[k]!) rfl rfl (?_)))
                      exact ⟨(Keep.refl _ _), congrArg Value.bool (hb1608)⟩
                    · intro F1 w1 k1 hf hd
                      have k0 := (Keep.drew [] wl1).trans k1
                      have s1 := sl1.call k0
                      have m1 : Mv Bl1 wl1 Bl1 w1 := Mv.of_keep k0
                      obtain ⟨F2, rfl⟩ := lit_of (F := F1) [(90, Value.bool true), (99, Value.bool false)] ⟨hd 4 90 (by kernel_rfl), hd 13 99 (by kernel_rfl), trivial⟩
                      exact sp_plain rfl ((o_pickT (Value.bool false) rfl rfl (⟨(Keep.refl _ _), rfl⟩)))
                    · intro F1 w1 k1 hf hd
                      have k0 := (Keep.drew [] wl1).trans k1
                      have s1 := sl1.call k0
                      have m1 : Mv Bl1 wl1 Bl1 w1 := Mv.of_keep k0
                      obtain ⟨F2, rfl⟩ := lit_of (F := F1) [(100, Value.bool false)] ⟨hd 14 100 (by kernel_rfl), trivial⟩
                      exact sp_plain rfl ((o_move (Value.bool false) rfl (⟨(Keep.refl _ _), rfl⟩)))
                    · intro F1 w1 k1 hf hd
                      have k0 := (Keep.drew [] wl1).trans k1
                      have s1 := sl1.call k0
                      have m1 : Mv Bl1 wl1 Bl1 w1 := Mv.of_keep k0
                      obtain ⟨F2, rfl⟩ := lit_of (F := F1) [(13, vI ((k : Nat) : Int)), (101, Value.bool false)] ⟨hf 13 (by kernel_rfl), hd 15 101 (by kernel_rfl), trivial⟩
                      exact sp_take rfl rfl ((o_move (vI ((k : Nat) : Int)) rfl (⟨(Keep.refl _ _), rfl⟩)))
                    · intro F1 w1 k1 hf hd
                      have k0 := (Keep.drew [] wl1).trans k1
                      have s1 := sl1.call k0
                      have m1 : Mv Bl1 wl1 Bl1 w1 := Mv.of_keep k0
                      have h_l := h_l.mv m1
                      obtain ⟨F2, rfl⟩ := lit_of (F := F1) [(0, l_v), (101, Value.bool false)] ⟨hf 0 (by kernel_rfl), hd 15 101 (by kernel_rfl), trivial⟩
                      exact sp_take rfl rfl ((o_move (l_v) rfl (⟨(Keep.refl _ _), h_l⟩)))
                    · intro F1 w1 k1 hf hd
                      have k0 := (Keep.drew [] wl1).trans k1
                      have s1 := sl1.call k0
                      have m1 : Mv Bl1 wl1 Bl1 w1 := Mv.of_keep k0
                      obtain ⟨v1679, e1681, hl1680⟩ : ∃ v, F1 103 = v ∧ RdL Enc.u8 w1 (Bl1 ++ O) v (l) := ⟨_, rfl, hd 17 103 (by kernel_rfl)⟩
                      have := hl1680.len_le
                      obtain ⟨F2, rfl⟩ := lit_of (F := F1) [(101, Value.bool false), (103, v1679)] ⟨hd 15 101 (by kernel_rfl), e1681, trivial⟩
                      exact sp_take rfl rfl ((o_lenR Try.underlying28 rfl hl1680 (⟨(Keep.refl _ _), rfl⟩)))
                    · intro F1 w1 k1 hf hd
                      have k0 := (Keep.drew [] wl1).trans k1
                      have s1 := sl1.call k0
                      have m1 : Mv Bl1 wl1 Bl1 w1 := Mv.of_keep k0
                      obtain ⟨F2, rfl⟩ := lit_of (F := F1) [(101, Value.bool false), (102, vI ((k : Nat) : Int)), (104, vI (l.length : Int))] ⟨hd 15 101 (by kernel_rfl), hd 16 102 (by kernel_rfl), hd 18 104 (by kernel_rfl), trivial⟩
                      refine sp_take rfl rfl ((o_geq .i64 ((k : Nat) : Int) (l.length : Int) rfl rfl (?_)))
                      exact ⟨(Keep.refl _ _), congrArg Value.bool (hb1609)⟩
                    · intro F1 w1 k1 hf hd
                      have k0 := (Keep.drew [] wl1).trans k1
                      have s1 := sl1.call k0
                      have m1 : Mv Bl1 wl1 Bl1 w1 := Mv.of_keep k0
                      obtain ⟨F2, rfl⟩ := lit_of (F := F1) [(101, Value.bool false), (105, Value.bool true)] ⟨hd 15 101 (by kernel_rfl), hd 19 105 (by kernel_rfl), trivial⟩
                      exact sp_take rfl rfl ((o_move (Value.bool true) rfl (⟨(Keep.refl _ _), rfl⟩)))
                    · intro F1 w1 k1 hf hd
                      have k0 := (Keep.drew [] wl1).trans k1
                      have s1 := sl1.call k0
                      have m1 : Mv Bl1 wl1 Bl1 w1 := Mv.of_keep k0
                      have hl1540 := hl1540.mv m1
                      obtain ⟨F2, rfl⟩ := lit_of (F := F1) [(11, x1539), (106, Value.bool true)] ⟨hf 11 (by kernel_rfl), hd 20 106 (by kernel_rfl), trivial⟩
                      exact sp_take rfl rfl ((o_move (x1539) rfl (⟨(Keep.refl _ _), hl1540⟩)))
                    · intro F1 w1 k1 hf hd
                      have k0 := (Keep.drew [] wl1).trans k1
                      have s1 := sl1.call k0
                      have m1 : Mv Bl1 wl1 Bl1 w1 := Mv.of_keep k0
                      obtain ⟨F2, rfl⟩ := lit_of (F := F1) [(13, vI ((k : Nat) : Int)), (106, Value.bool true)] ⟨hf 13 (by kernel_rfl), hd 20 106 (by kernel_rfl), trivial⟩
                      exact sp_take rfl rfl ((o_move (vI ((k : Nat) : Int)) rfl (⟨(Keep.refl _ _), rfl⟩)))
                    intro F1683 w1684 k1682 hT1685 hF1686
                    have s1687 := sl1.call k1682
                    have m1688 : Mv Bl1 wl1 Bl1 w1684 := Mv.of_keep k1682
                    have h_l := h_l.mv m1688
                    have hl1540 := hl1540.mv m1688
                    obtain ⟨v1690, e1692, hl1691⟩ : ∃ v, F1683 87 = v ∧ RdL Enc.u8 w1684 (Bl1 ++ O) v (l) := ⟨_, rfl, hT1685 1 87 (by kernel_rfl) (by decide)⟩
                    have := hl1691.len_le
                    obtain ⟨v1693, e1695, hl1694⟩ : ∃ v, F1683 91 = v ∧ RdL Enc.u8 w1684 (Bl1 ++ O) v ((coeff xs (tab xs.length fun q => pev l xs[q]!)).1) := ⟨_, rfl, hT1685 5 91 (by kernel_rfl) (by decide)⟩
                    have := hl1694.len_le
                    obtain ⟨a1696, e1698, hp1697⟩ : ∃ a, F1683 93 = .pointer (some a) ∧ PT Enc.u8 w1684 (Bl1 ++ O) (.pointer (some a)) (((coeff xs (tab xs.length fun q => pev l xs[q]!)).1)[k]!) := hT1685 7 93 (by kernel_rfl) (by decide)
                    obtain ⟨v1699, e1701, hl1700⟩ : ∃ v, F1683 95 = v ∧ RdL Enc.u8 w1684 (Bl1 ++ O) v (l) := ⟨_, rfl, hT1685 9 95 (by kernel_rfl) (by decide)⟩
                    have := hl1700.len_le
                    obtain ⟨a1702, e1704, hp1703⟩ : ∃ a, F1683 97 = .pointer (some a) ∧ PT Enc.u8 w1684 (Bl1 ++ O) (.pointer (some a)) (l[k]!) := hT1685 11 97 (by kernel_rfl) (by decide)
                    obtain ⟨v1705, e1707, hl1706⟩ : ∃ v, F1683 103 = v ∧ RdL Enc.u8 w1684 (Bl1 ++ O) v (l) := ⟨_, rfl, hT1685 17 103 (by kernel_rfl) (by decide)⟩
                    have := hl1706.len_le
                    obtain ⟨v1708, e1710, hl1709⟩ : ∃ v, F1683 107 = v ∧ RdL Enc.u8 w1684 (Bl1 ++ O) v ((coeff xs (tab xs.length fun q => pev l xs[q]!)).1) := ⟨_, rfl, hT1685 21 107 (by kernel_rfl) (by decide)⟩
                    have := hl1709.len_le
                    obtain ⟨F2, rfl⟩ := lit_of (F := F1683) [(0, l_v), (11, x1539), (13, vI ((k : Nat) : Int)), (80, vI ((k : Nat) : Int)), (81, x1539), (82, vI (((coeff xs (tab xs.length fun q => pev l xs[q]!)).1).length : Int)), (83, Value.bool (decide (((k : Nat) : Int) < (((coeff xs (tab xs.length fun q => pev l xs[q]!)).1).length : Int)))), (114, undef), (86, vI ((k : Nat) : Int)), (87, v1690), (88, vI (l.length : Int)), (89, Value.bool true), (90, Value.bool true), (91, v1693), (92, vI ((k : Nat) : Int)), (93, Value.pointer (some a1696)), (94, vB (((coeff xs (tab xs.length fun q => pev l xs[q]!)).1)[k]!)), (95, v1699), (96, vI ((k : Nat) : Int)), (97, Value.pointer (some a1702)), (98, vB (l[k]!)), (99, Value.bool false), (100, Value.bool false), (101, Value.bool false), (102, vI ((k : Nat) : Int)), (103, v1705), (104, vI (l.length : Int)), (105, Value.bool true), (106, Value.bool true), (107, v1708), (108, vI ((k : Nat) : Int))] ⟨hF1686 0 (by kernel_rfl), hF1686 11 (by kernel_rfl), hF1686 13 (by kernel_rfl), hF1686 80 (by kernel_rfl), hF1686 81 (by kernel_rfl), hF1686 82 (by kernel_rfl), hF1686 83 (by kernel_rfl), hF1686 114 (by kernel_rfl), hT1685 0 86 (by kernel_rfl) (by decide), e1692, hT1685 2 88 (by kernel_rfl) (by decide), hT1685 3 89 (by kernel_rfl) (by decide), hT1685 4 90 (by kernel_rfl) (by decide), e1695, hT1685 6 92 (by kernel_rfl) (by decide), e1698, hT1685 8 94 (by kernel_rfl) (by decide), e1701, hT1685 10 96 (by kernel_rfl) (by decide), e1704, hT1685 12 98 (by kernel_rfl) (by decide), hT1685 13 99 (by kernel_rfl) (by decide), hT1685 14 100 (by kernel_rfl) (by decide), hT1685 15 101 (by kernel_rfl) (by decide), hT1685 16 102 (by kernel_rfl) (by decide), e1707, hT1685 18 104 (by kernel_rfl) (by decide), hT1685 19 105 (by kernel_rfl) (by decide), hT1685 20 106 (by kernel_rfl) (by decide), e1710, hT1685 22 108 (by kernel_rfl) (by decide), trivial⟩
                    clear hT1685 hF1686
                    refine wl_t rfl (o_idx Try.underlying28 s_5 .i64 ((k : Nat) : Int) k rfl rfl rfl hl1709 (by omega) fun a1711 hp1712 => (wl_t rfl (o_loadB Try.underlying5 rfl rfl hp1712 (wl_t rfl (o_neq8 (((coeff xs (tab xs.length fun q => pev l xs[q]!)).1)[k]!) (0 : UInt8) rfl rfl (wl_t rfl (o_pickT (Value.bool ((((coeff xs (tab xs.length fun q => pev l xs[q]!)).1)[k]!) != (0 : UInt8))) rfl rfl (wl_s (o_pickF (Value.bool ((((coeff xs (tab xs.length fun q => pev l xs[q]!)).1)[k]!) != (0 : UInt8))) rfl rfl (wl_nil (thenQ_n (?_))))))))))))
                    have hb1713 : ((((coeff xs (tab xs.length fun q => pev l xs[q]!)).1)[k]!) != (0 : UInt8)) = false := (by rw [vals_coeff (by omega) hw, get_out (by omega)]; simp)
                    rw [hb1713]
                    refine cw_cond false rfl rfl (fun h => by cases h) (fun _ => ?_)
                    refine cw_skip (blockQ_n (thenQ_n (?_)))
                    refine cw_region (by kernel_rfl) (wl_s (o_move (vI ((k : Nat) : Int)) rfl (wl_s (o_add .i64 ((k : Nat) : Int) (1 : Int) (((k + 1 : Nat) : Int)) rfl rfl (w64 (by omega) (by omega)) (wl_s (o_assign (vI ((k + 1 : Nat) : Int)) rfl (wl_nil (thenQ_n (?_)))))))))
                    exact ⟨_, (by omega), (k + 1), Bl1, (by first | omega | (simp; done) | (simp; omega) | simp_all), rfl, ⟨_, upds_self _ ⟨rfl, rfl, (by first | rfl | exact congrArg (Value.int _) (by first | omega | (simp))), rfl, trivial⟩⟩, s1687, h_l, hl1540⟩
              · have hp1714 : (((coeff xs (tab xs.length fun q => pev l xs[q]!)).1).length : Int) ≤ ((k : Nat) : Int) := by first | simpa using hc1554 | (have e := hc1554; simp at e; omega)
                refine cw_exit (thenQ_x (thenQ_x (blockQ_x (thenQ_n (?_)))))
                refine cw_seq (?_)
                refine cw_region (by kernel_rfl) (wl_s (o_assign (Value.bool true) rfl (wl_nil (thenQ_n (?_)))))
                refine cw_ret (end_r rfl (res1 rfl rfl rfl) (?_))
                exact ⟨_, rfl, sl1.keep, rfl⟩
  · have hp1715 : (12 : Int) < (xs.length : Int) := by first | simpa using hb1479 | (have e := hb1479; simp at e; omega)
    refine wl_k rfl (wl_k rfl (wl_k rfl (wl_k rfl (wl_k rfl (wl_s (o_pickT (Value.bool true) rfl rfl (wl_nil (thenQ_n (?_)))))))))
    refine cw_cond true rfl rfl (fun _ => ?_) (fun h => by cases h)
    refine cw_seq (?_)
    refine cw_region (by kernel_rfl) (wl_s (o_assign (Value.bool true) rfl (wl_nil (thenQ_n (?_)))))
    refine cw_ret (thenQ_r (end_r rfl (res1 rfl rfl rfl) (?_)))
    exact ⟨_, rfl, s1475.keep, rfl⟩
set_option maxHeartbeats 4000000 in
set_option maxRecDepth 100000 in
theorem c_FieldUnique {O : List Nat} (xs_v : Value) (xs : List UInt8) (ys_v : Value) (ys : List UInt8) (other_v : Value) (other : List UInt8) (at_ : UInt8) (w : World) (h_xs : RdL Enc.u8 w O xs_v xs) (h_ys : RdL Enc.u8 w O ys_v ys) (h_other : RdL Enc.u8 w O other_v other) (hO : ∀ b ∈ O, b < w.heap.size) : CallsK Try.prog 7 [xs_v, ys_v, other_v, vB at_] w (fun v _ => v = .bool (true)) :=  by
  have lim_xs := h_xs.len_le
  have h_xs : RdL Enc.u8 w ([] ++ O) xs_v xs := h_xs
  have lim_ys := h_ys.len_le
  have h_ys : RdL Enc.u8 w ([] ++ O) ys_v ys := h_ys
  have lim_other := h_other.len_le
  have h_other : RdL Enc.u8 w ([] ++ O) other_v other := h_other
  have s0 : St w O w [] := St.start hO
  refine callsK_of 164 Try.func7 rfl rfl (of_decide_eq_true rfl) (fun F0 => ?_)
  refine cw_seq (?_)
  refine cw_region (by kernel_rfl) (wl_s (o_assign (Value.bool false) rfl (wl_nil (thenQ_n (?_)))))
  refine cw_seq (?_)
  refine cw_seq (?_)
  refine cw_region (by kernel_rfl) (wl_s (o_callK (vs := []) enter_17 (c_sane7 (O := [] ++ O) w s0.lt) rfl s0 fun v1716 w1717 s1718 m1719 k1720 r1721 => (?_)))
  obtain rfl := r1721
  have h_xs := h_xs.mv m1719
  have h_ys := h_ys.mv m1719
  have h_other := h_other.mv m1719
  refine wl_s (o_not true rfl (wl_nil (thenQ_n (?_))))
  refine cw_cond false rfl rfl (fun h => by cases h) (fun _ => ?_)
  refine cw_skip (thenQ_n (?_))
  refine cw_seq (?_)
  refine cw_seq (?_)
  refine cw_region (by kernel_rfl) (wl_s (o_move (xs_v) rfl (wl_s (o_lenR Try.underlying28 rfl h_xs (wl_s (o_gtr .i64 (xs.length : Int) (12 : Int) rfl rfl (wl_s (o_move (Value.bool (decide ((12 : Int) < (xs.length : Int)))) rfl (?_)))))))))
  cases hb1722 : (decide ((12 : Int) < (xs.length : Int)))
  · have hp1723 : (xs.length : Int) ≤ (12 : Int) := by first | simpa using hb1722 | (have e := hb1722; simp at e; omega)
    refine wl_t rfl (o_move (ys_v) rfl (wl_t rfl (o_lenR Try.underlying28 rfl h_ys (wl_t rfl (o_gtr .i64 (ys.length : Int) (20 : Int) rfl rfl (wl_s (o_pickF (Value.bool (decide ((20 : Int) < (ys.length : Int)))) rfl rfl (wl_s (o_move (Value.bool (decide ((20 : Int) < (ys.length : Int)))) rfl (?_))))))))))
    cases hb1724 : (decide ((20 : Int) < (ys.length : Int)))
    · have hp1725 : (ys.length : Int) ≤ (20 : Int) := by first | simpa using hb1724 | (have e := hb1724; simp at e; omega)
      refine wl_t rfl (o_move (other_v) rfl (wl_t rfl (o_lenR Try.underlying28 rfl h_other (wl_t rfl (o_gtr .i64 (other.length : Int) (20 : Int) rfl rfl (wl_s (o_pickF (Value.bool (decide ((20 : Int) < (other.length : Int)))) rfl rfl (wl_nil (thenQ_n (?_))))))))))
      refine cw_cond (decide ((20 : Int) < (other.length : Int))) rfl rfl (fun hc1726 => ?_) (fun hc1726 => ?_)
      · have hp1727 : (20 : Int) < (other.length : Int) := by first | simpa using hc1726 | (have e := hc1726; simp at e; omega)
        refine cw_seq (?_)
        refine cw_region (by kernel_rfl) (wl_s (o_assign (Value.bool true) rfl (wl_nil (thenQ_n (?_)))))
        refine cw_ret (thenQ_r (end_r rfl (res1 rfl rfl rfl) (?_)))
        exact ⟨_, rfl, s1718.keep, rfl⟩
      · have hp1728 : (other.length : Int) ≤ (20 : Int) := by first | simpa using hc1726 | (have e := hc1726; simp at e; omega)
        refine cw_skip (thenQ_n (?_))
        refine cw_seq (?_)
        refine cw_region (by kernel_rfl) (wl_s (o_move (xs_v) rfl (wl_s (o_move (ys_v) rfl (wl_s (o_callK (vs := [xs_v, ys_v]) enter_24 (c_coeff (O := [] ++ O) xs_v xs ys_v ys w1717 h_xs h_ys (by first | omega | assumption | (simp; done)) s1718.lt) rfl s1718 fun v1729 w1730 s1731 m1732 k1733 r1734 => (?_)))))))
        obtain ⟨x1735, rfl, hl1736⟩ := r1734
        have := hl1736.len_le
        have h_xs := h_xs.mv m1732
        have h_ys := h_ys.mv m1732
        have h_other := h_other.mv m1732
        refine wl_s (o_move (Value.tuple #[x1735, vI ((coeff xs ys).2)]) rfl (wl_s (o_extract (x1735) rfl rfl (wl_s (o_extract (vI ((coeff xs ys).2)) rfl rfl (wl_s (o_assign (x1735) rfl (wl_s (o_assign (vI ((coeff xs ys).2)) rfl (wl_nil (thenQ_n (?_))))))))))))
        refine cw_seq (?_)
        refine cw_region (by kernel_rfl) (wl_s (o_move (xs_v) rfl (wl_s (o_move (ys_v) rfl (wl_s (o_move (vB at_) rfl (wl_s (o_callK (vs := [xs_v, ys_v, vB at_]) enter_22 (c_through (O := [] ++ O) xs_v xs ys_v ys at_ w1730 h_xs h_ys (by first | omega | assumption | (simp; done)) s1731.lt) rfl s1731 fun v1737 w1738 s1739 m1740 k1741 r1742 => (?_)))))))))
        obtain rfl := r1742
        have h_xs := h_xs.mv m1740
        have h_ys := h_ys.mv m1740
        have h_other := h_other.mv m1740
        have hl1736 := hl1736.mv m1740
        refine wl_s (o_move (Value.tuple #[vB ((through xs ys at_).1), vI ((through xs ys at_).2)]) rfl (wl_s (o_extract (vB ((through xs ys at_).1)) rfl rfl (wl_s (o_extract (vI ((through xs ys at_).2)) rfl rfl (wl_s (o_assign (vB ((through xs ys at_).1)) rfl (wl_s (o_assign (vI ((through xs ys at_).2)) rfl (wl_nil (thenQ_n (?_))))))))))))
        refine cw_seq (?_)
        refine cw_seq (?_)
        refine cw_region (by kernel_rfl) (wl_s (o_move (vI ((coeff xs ys).2)) rfl (wl_s (o_neq .i64 ((coeff xs ys).2) (0 : Int) rfl rfl (wl_nil (thenQ_n (?_)))))))
        refine cw_cond (((coeff xs ys).2) != (0 : Int)) rfl rfl (fun hc1743 => ?_) (fun hc1743 => ?_)
        · have hp1744 : (coeff xs ys).2 ≠ (0 : Int) := by first | simpa using hc1743 | (have e := hc1743; simp at e; omega)
          have hw := coeff_wrong hp1744
          refine cw_seq (?_)
          refine cw_region (by kernel_rfl) (wl_s (o_move (x1735) rfl (wl_s (o_lenR Try.underlying28 rfl hl1736 (wl_s (o_eql .i64 (((coeff xs ys).1).length : Int) (0 : Int) rfl rfl (wl_s (o_move (Value.bool ((((coeff xs ys).1).length : Int) == (0 : Int))) rfl (?_)))))))))
          have hb1745 : ((((coeff xs ys).1).length : Int) == (0 : Int)) = true := (by rw [coeff_bad hw]; rfl)
          rw [hb1745]
          refine wl_t rfl (o_move (vI ((through xs ys at_).2)) rfl (wl_t rfl (o_move (vI ((coeff xs ys).2)) rfl (wl_t rfl (o_eql .i64 ((through xs ys at_).2) ((coeff xs ys).2) rfl rfl (wl_s (o_pickT (Value.bool (((through xs ys at_).2) == ((coeff xs ys).2))) rfl rfl (wl_s (o_move (Value.bool (((through xs ys at_).2) == ((coeff xs ys).2))) rfl (?_))))))))))
          have hb1746 : (((through xs ys at_).2) == ((coeff xs ys).2)) = true := (by rw [coeff_bad hw, through_bad _ hw]; rfl)
          rw [hb1746]
          refine wl_t rfl (o_move (vB ((through xs ys at_).1)) rfl (wl_t rfl (o_eql8 ((through xs ys at_).1) (0 : UInt8) rfl rfl (wl_s (o_pickT (Value.bool (((through xs ys at_).1) == (0 : UInt8))) rfl rfl (wl_s (o_assign (Value.bool (((through xs ys at_).1) == (0 : UInt8))) rfl (wl_nil (thenQ_n (?_))))))))))
          refine cw_ret (thenQ_r (end_r rfl (res1 rfl rfl rfl) (?_)))
          have e : true = (((through xs ys at_).1) == (0 : UInt8)) := by rw [through_bad _ hw]; simp
          exact ⟨_, rfl, s1739.keep, by rw [e]; exact rfl⟩
        · have hp1747 : (coeff xs ys).2 = (0 : Int) := by first | simpa using hc1743 | (have e := hc1743; simp at e; omega)
          have hw := coeff_right hp1747
          have hxy := (coeff_ok hw).2.2.1
          have hth := (coeff_ok hw).2.1
          refine cw_skip (thenQ_n (?_))
          refine cw_seq (?_)
          refine cw_seq (?_)
          refine cw_region (by kernel_rfl) (wl_s (o_move (vI ((through xs ys at_).2)) rfl (wl_s (o_neq .i64 ((through xs ys at_).2) (0 : Int) rfl rfl (wl_s (o_move (Value.bool (((through xs ys at_).2) != (0 : Int))) rfl (?_)))))))
          have hb1748 : (((through xs ys at_).2) != (0 : Int)) = false := (by rw [through_ok _ hw]; rfl)
          rw [hb1748]
          refine wl_t rfl (o_move (x1735) rfl (wl_t rfl (o_lenR Try.underlying28 rfl hl1736 (wl_t rfl (o_move (xs_v) rfl (wl_t rfl (o_lenR Try.underlying28 rfl h_xs (wl_t rfl (o_neq .i64 (((coeff xs ys).1).length : Int) (xs.length : Int) rfl rfl (wl_s (o_pickF (Value.bool ((((coeff xs ys).1).length : Int) != (xs.length : Int))) rfl rfl (wl_s (o_move (Value.bool ((((coeff xs ys).1).length : Int) != (xs.length : Int))) rfl (?_))))))))))))))
          have hb1749 : ((((coeff xs ys).1).length : Int) != (xs.length : Int)) = false := (by rw [hth.len]; simp)
          rw [hb1749]
          refine wl_t rfl (o_move (ys_v) rfl (wl_t rfl (o_lenR Try.underlying28 rfl h_ys (wl_t rfl (o_move (xs_v) rfl (wl_t rfl (o_lenR Try.underlying28 rfl h_xs (wl_t rfl (o_neq .i64 (ys.length : Int) (xs.length : Int) rfl rfl (wl_s (o_pickF (Value.bool ((ys.length : Int) != (xs.length : Int))) rfl rfl (wl_s (o_move (Value.bool ((ys.length : Int) != (xs.length : Int))) rfl (?_))))))))))))))
          have hb1750 : ((ys.length : Int) != (xs.length : Int)) = false := (by rw [hxy]; simp)
          rw [hb1750]
          refine wl_t rfl (o_move (x1735) rfl (wl_t rfl (o_move (vB at_) rfl (wl_t rfl (o_callK (vs := [x1735, vB at_]) enter_26 (c_eval (O := [] ++ O) x1735 ((coeff xs ys).1) at_ w1738 hl1736 s1739.lt) rfl s1739 fun v1751 w1752 s1753 m1754 k1755 r1756 => (?_))))))
          obtain rfl := r1756
          have h_xs := h_xs.mv m1754
          have h_ys := h_ys.mv m1754
          have h_other := h_other.mv m1754
          have hl1736 := hl1736.mv m1754
          refine wl_t rfl (o_move (vB ((through xs ys at_).1)) rfl (wl_t rfl (o_neq8 (pev ((coeff xs ys).1) at_) ((through xs ys at_).1) rfl rfl (wl_s (o_pickF (Value.bool ((pev ((coeff xs ys).1) at_) != ((through xs ys at_).1))) rfl rfl (wl_nil (thenQ_n (?_))))))))
          have hb1757 : ((pev ((coeff xs ys).1) at_) != ((through xs ys at_).1)) = false := (by rw [through_ok _ hw]; simp)
          rw [hb1757]
          refine cw_cond false rfl rfl (fun h => by cases h) (fun _ => ?_)
          refine cw_skip (thenQ_n (?_))
          refine cw_seq (?_)
          refine cw_region (by kernel_rfl) (wl_s (o_move (other_v) rfl (wl_s (o_lenR Try.underlying28 rfl h_other (wl_s (o_move (xs_v) rfl (wl_s (o_lenR Try.underlying28 rfl h_xs (wl_s (o_leq .i64 (other.length : Int) (xs.length : Int) rfl rfl (wl_s (o_assign (Value.bool (decide ((other.length : Int) ≤ (xs.length : Int)))) rfl (wl_nil (thenQ_n (?_)))))))))))))))
          refine cw_seq (?_)
          refine cw_seq (?_)
          refine cw_region (by kernel_rfl) (wl_s (o_assign (vI (0 : Int)) rfl (wl_nil (thenQ_n (?_)))))
          refine cw_block (?_)
          refine cw_loop (fun mI FI wI => ∃ (k : Nat) (B : List Nat), k ≤ xs.length ∧ mI = xs.length - k ∧ (∃ F1, FI = upds F1 [(0, xs_v), (1, ys_v), (2, other_v), (9, x1735), (13, Value.bool (sameS other xs ys k)), (14, vI ((k : Nat) : Int)), (164, undef)]) ∧ St w O wI B ∧ RdL Enc.u8 wI (B ++ O) (xs_v) (xs) ∧ RdL Enc.u8 wI (B ++ O) (ys_v) (ys) ∧ RdL Enc.u8 wI (B ++ O) (other_v) (other) ∧ RdL Enc.u8 wI (B ++ O) (x1735) ((coeff xs ys).1)) (xs.length - (0)) ?_ ?_
          · exact ⟨(0), [], (by first | omega | (simp; done) | (simp; omega) | simp_all), rfl, ⟨_, upds_self _ ⟨rfl, rfl, rfl, rfl, (congrArg Value.bool (by first | rfl | (rfl))), (by first | rfl | exact congrArg (Value.int _) (by first | omega | (simp))), rfl, trivial⟩⟩, s1753, h_xs, h_ys, h_other, hl1736⟩
          · intro ml0 F wl0 hI
            clear h_xs h_ys h_other hl1736
            obtain ⟨k, Bl0, hr0_0, hm0, ⟨Fl0, rfl⟩, sl0, h_xs, h_ys, h_other, hl1736⟩ := hI
            refine cw_seq (?_)
            refine cw_seq (?_)
            refine cw_region (by kernel_rfl) (wl_s (o_move (vI ((k : Nat) : Int)) rfl (wl_s (o_move (xs_v) rfl (wl_s (o_lenR Try.underlying28 rfl h_xs (wl_s (o_lss .i64 ((k : Nat) : Int) (xs.length : Int) rfl rfl (wl_nil (thenQ_n (?_)))))))))))
            refine cw_cond (decide (((k : Nat) : Int) < (xs.length : Int))) rfl rfl (fun hc1758 => ?_) (fun hc1758 => ?_)
            · have hp1759 : ((k : Nat) : Int) < (xs.length : Int) := by first | simpa using hc1758 | (have e := hc1758; simp at e; omega)
              refine cw_skip (thenQ_n (?_))
              refine cw_seq (?_)
              refine cw_block (?_)
              refine cw_seq (?_)
              refine cw_region (by kernel_rfl) (wl_s (o_move (xs_v) rfl (wl_s (o_move (ys_v) rfl (wl_s (o_move (xs_v) rfl (wl_s (o_move (vI ((k : Nat) : Int)) rfl (wl_s (o_idx Try.underlying28 s_5 .i64 ((k : Nat) : Int) k rfl rfl rfl h_xs (by omega) fun a1760 hp1761 => (wl_s (o_loadB Try.underlying5 rfl rfl hp1761 (wl_s (o_callK (vs := [xs_v, ys_v, vB (xs[k]!)]) enter_22 (c_through (O := Bl0 ++ O) xs_v xs ys_v ys (xs[k]!) wl0 h_xs h_ys (by first | omega | assumption | (simp; done)) sl0.lt) rfl sl0 fun v1762 w1763 s1764 m1765 k1766 r1767 => (?_)))))))))))))))
              obtain rfl := r1767
              have h_xs := h_xs.mv m1765
              have h_ys := h_ys.mv m1765
              have h_other := h_other.mv m1765
              have hl1736 := hl1736.mv m1765
              have hp1761 := hp1761.mv m1765
              refine wl_s (o_move (Value.tuple #[vB ((through xs ys (xs[k]!)).1), vI ((through xs ys (xs[k]!)).2)]) rfl (wl_s (o_extract (vB ((through xs ys (xs[k]!)).1)) rfl rfl (wl_s (o_extract (vI ((through xs ys (xs[k]!)).2)) rfl rfl (wl_s (o_assign (vB ((through xs ys (xs[k]!)).1)) rfl (wl_s (o_assign (vI ((through xs ys (xs[k]!)).2)) rfl (wl_nil (thenQ_n (?_))))))))))))
              refine cw_seq (?_)
              refine cw_seq (?_)
              have hb1768 : (((through xs ys (xs[k]!)).2) != (0 : Int)) = false := (by rw [through_ok _ hw]; rfl)
              try rw [hb1768]
              have hb1769 : (((through xs ys (xs[k]!)).1) != (ys[k]!)) = false := (by rw [through_ok _ hw, hth.at_ k (by omega)]; simp)
              try rw [hb1769]
              refine cw_draw' 21 _ _ [fun v _ => v = vI ((through xs ys (xs[k]!)).2), fun v _ => v = Value.bool false, fun v _ => v = Value.bool false, fun v _ => v = vB ((through xs ys (xs[k]!)).1), fun v w => RdL Enc.u8 w (Bl0 ++ O) v (ys), fun v _ => v = vI ((k : Nat) : Int), fun v w => ∃ a, v = .pointer (some a) ∧ PT Enc.u8 w (Bl0 ++ O) (.pointer (some a)) (ys[k]!), fun v _ => v = vB (ys[k]!), fun v _ => v = Value.bool false, fun v _ => v = Value.bool false, fun v _ => v = Value.bool false, fun v w => RdL Enc.u8 w (Bl0 ++ O) v ((coeff xs ys).1), fun v w => RdL Enc.u8 w (Bl0 ++ O) v (xs), fun v _ => v = vI ((k : Nat) : Int), fun v w => ∃ a, v = .pointer (some a) ∧ PT Enc.u8 w (Bl0 ++ O) (.pointer (some a)) (xs[k]!), fun v _ => v = vB (xs[k]!), fun v _ => v = vB (pev ((coeff xs ys).1) (xs[k]!)), fun v w => RdL Enc.u8 w (Bl0 ++ O) v (ys), fun v _ => v = vI ((k : Nat) : Int), fun v w => ∃ a, v = .pointer (some a) ∧ PT Enc.u8 w (Bl0 ++ O) (.pointer (some a)) (ys[k]!), fun v _ => v = vB (ys[k]!)] (by kernel_rfl) (by kernel_rfl) (by kernel_rfl) (by kernel_rfl) rfl rfl ⟨fun _ _ _ h _ => h, fun _ _ _ h _ => h, fun _ _ _ h _ => h, fun _ _ _ h _ => h, fun _ _ _ h k => h.mv (Mv.of_keep k), fun _ _ _ h _ => h, fun _ _ _ ⟨a, e, h⟩ k => ⟨a, e, h.mv (Mv.of_keep k)⟩, fun _ _ _ h _ => h, fun _ _ _ h _ => h, fun _ _ _ h _ => h, fun _ _ _ h _ => h, fun _ _ _ h k => h.mv (Mv.of_keep k), fun _ _ _ h k => h.mv (Mv.of_keep k), fun _ _ _ h _ => h, fun _ _ _ ⟨a, e, h⟩ k => ⟨a, e, h.mv (Mv.of_keep k)⟩, fun _ _ _ h _ => h, fun _ _ _ h _ => h, fun _ _ _ h k => h.mv (Mv.of_keep k), fun _ _ _ h _ => h, fun _ _ _ ⟨a, e, h⟩ k => ⟨a, e, h.mv (Mv.of_keep k)⟩, fun _ _ _ h _ => h, trivial⟩ ⟨?_, ?_, ?_, ?_, ?_, ?_, ?_, ?_, ?_, ?_, ?_, ?_, ?_, ?_, ?_, ?_, ?_, ?_, ?_, ?_, ?_, trivial⟩ ?_
              · intro F1 w1 k1 hf hd
                have k0 := (Keep.drew [] w1763).trans k1
                have s1 := s1764.call k0
                have m1 : Mv Bl0 w1763 Bl0 w1 := Mv.of_keep k0
                obtain ⟨F2, rfl⟩ := lit_of (F := F1) [(16, vI ((through xs ys (xs[k]!)).2))] ⟨hf 16 (by kernel_rfl), trivial⟩
                exact sp_plain rfl ((o_move (vI ((through xs ys (xs[k]!)).2)) rfl (⟨(Keep.refl _ _), rfl⟩)))
              · intro F1 w1 k1 hf hd
                have k0 := (Keep.drew [] w1763).trans k1
                have s1 := s1764.call k0
                have m1 : Mv Bl0 w1763 Bl0 w1 := Mv.of_keep k0
                obtain ⟨F2, rfl⟩ := lit_of (F := F1) [(105, vI ((through xs ys (xs[k]!)).2))] ⟨hd 0 105 (by kernel_rfl), trivial⟩
                refine sp_plain rfl ((o_neq .i64 ((through xs ys (xs[k]!)).2) (0 : Int) rfl rfl (?_)))
                exact ⟨(Keep.refl _ _), congrArg Value.bool (hb1768)⟩
              · intro F1 w1 k1 hf hd
                have k0 := (Keep.drew [] w1763).trans k1
                have s1 := s1764.call k0
                have m1 : Mv Bl0 w1763 Bl0 w1 := Mv.of_keep k0
                obtain ⟨F2, rfl⟩ := lit_of (F := F1) [(106, Value.bool false)] ⟨hd 1 106 (by kernel_rfl), trivial⟩
                exact sp_plain rfl ((o_move (Value.bool false) rfl (⟨(Keep.refl _ _), rfl⟩)))
              · intro F1 w1 k1 hf hd
                have k0 := (Keep.drew [] w1763).trans k1
                have s1 := s1764.call k0
                have m1 : Mv Bl0 w1763 Bl0 w1 := Mv.of_keep k0
                obtain ⟨F2, rfl⟩ := lit_of (F := F1) [(15, vB ((through xs ys (xs[k]!)).1)), (107, Value.bool false)] ⟨hf 15 (by kernel_rfl), hd 2 107 (by kernel_rfl), trivial⟩
                exact sp_take rfl rfl ((o_move (vB ((through xs ys (xs[k]!)).1)) rfl (⟨(Keep.refl _ _), rfl⟩)))
              · intro F1 w1 k1 hf hd
                have k0 := (Keep.drew [] w1763).trans k1
                have s1 := s1764.call k0
                have m1 : Mv Bl0 w1763 Bl0 w1 := Mv.of_keep k0
                have h_ys := h_ys.mv m1
                obtain ⟨F2, rfl⟩ := lit_of (F := F1) [(1, ys_v), (107, Value.bool false)] ⟨hf 1 (by kernel_rfl), hd 2 107 (by kernel_rfl), trivial⟩
                exact sp_take rfl rfl ((o_move (ys_v) rfl (⟨(Keep.refl _ _), h_ys⟩)))
              · intro F1 w1 k1 hf hd
                have k0 := (Keep.drew [] w1763).trans k1
                have s1 := s1764.call k0
                have m1 : Mv Bl0 w1763 Bl0 w1 := Mv.of_keep k0
                obtain ⟨F2, rfl⟩ := lit_of (F := F1) [(14, vI ((k : Nat) : Int)), (107, Value.bool false)] ⟨hf 14 (by kernel_rfl), hd 2 107 (by kernel_rfl), trivial⟩
                exact sp_take rfl rfl ((o_move (vI ((k : Nat) : Int)) rfl (⟨(Keep.refl _ _), rfl⟩)))
              · intro F1 w1 k1 hf hd
                have k0 := (Keep.drew [] w1763).trans k1
                have s1 := s1764.call k0
                have m1 : Mv Bl0 w1763 Bl0 w1 := Mv.of_keep k0
                obtain ⟨v1770, e1772, hl1771⟩ : ∃ v, F1 109 = v ∧ RdL Enc.u8 w1 (Bl0 ++ O) v (ys) := ⟨_, rfl, hd 4 109 (by kernel_rfl)⟩
                have := hl1771.len_le
                obtain ⟨F2, rfl⟩ := lit_of (F := F1) [(107, Value.bool false), (109, v1770), (110, vI ((k : Nat) : Int))] ⟨hd 2 107 (by kernel_rfl), e1772, hd 5 110 (by kernel_rfl), trivial⟩
                exact sp_take rfl rfl ((o_idx Try.underlying28 s_5 .i64 ((k : Nat) : Int) k rfl rfl rfl hl1771 (by omega) fun a1773 hp1774 => (⟨(Keep.refl _ _), ⟨a1773, rfl, hp1774⟩⟩)))
              · intro F1 w1 k1 hf hd
                have k0 := (Keep.drew [] w1763).trans k1
                have s1 := s1764.call k0
                have m1 : Mv Bl0 w1763 Bl0 w1 := Mv.of_keep k0
                obtain ⟨a1775, e1777, hp1776⟩ : ∃ a, F1 111 = .pointer (some a) ∧ PT Enc.u8 w1 (Bl0 ++ O) (.pointer (some a)) (ys[k]!) := hd 6 111 (by kernel_rfl)
                obtain ⟨F2, rfl⟩ := lit_of (F := F1) [(107, Value.bool false), (111, Value.pointer (some a1775))] ⟨hd 2 107 (by kernel_rfl), e1777, trivial⟩
                exact sp_take rfl rfl ((o_loadB Try.underlying5 rfl rfl hp1776 (⟨(Keep.refl _ _), rfl⟩)))
              · intro F1 w1 k1 hf hd
                have k0 := (Keep.drew [] w1763).trans k1
                have s1 := s1764.call k0
                have m1 : Mv Bl0 w1763 Bl0 w1 := Mv.of_keep k0
                obtain ⟨F2, rfl⟩ := lit_of (F := F1) [(107, Value.bool false), (108, vB ((through xs ys (xs[k]!)).1)), (112, vB (ys[k]!))] ⟨hd 2 107 (by kernel_rfl), hd 3 108 (by kernel_rfl), hd 7 112 (by kernel_rfl), trivial⟩
                refine sp_take rfl rfl ((o_neq8 ((through xs ys (xs[k]!)).1) (ys[k]!) rfl rfl (?_)))
                exact ⟨(Keep.refl _ _), congrArg Value.bool (hb1769)⟩
              · intro F1 w1 k1 hf hd
                have k0 := (Keep.drew [] w1763).trans k1
                have s1 := s1764.call k0
                have m1 : Mv Bl0 w1763 Bl0 w1 := Mv.of_keep k0
                obtain ⟨F2, rfl⟩ := lit_of (F := F1) [(107, Value.bool false), (113, Value.bool false)] ⟨hd 2 107 (by kernel_rfl), hd 8 113 (by kernel_rfl), trivial⟩
                exact sp_plain rfl ((o_pickF (Value.bool false) rfl rfl (⟨(Keep.refl _ _), rfl⟩)))
              · intro F1 w1 k1 hf hd
                have k0 := (Keep.drew [] w1763).trans k1
                have s1 := s1764.call k0
                have m1 : Mv Bl0 w1763 Bl0 w1 := Mv.of_keep k0
                obtain ⟨F2, rfl⟩ := lit_of (F := F1) [(114, Value.bool false)] ⟨hd 9 114 (by kernel_rfl), trivial⟩
                exact sp_plain rfl ((o_move (Value.bool false) rfl (⟨(Keep.refl _ _), rfl⟩)))
              · intro F1 w1 k1 hf hd
                have k0 := (Keep.drew [] w1763).trans k1
                have s1 := s1764.call k0
                have m1 : Mv Bl0 w1763 Bl0 w1 := Mv.of_keep k0
                have hl1736 := hl1736.mv m1
                obtain ⟨F2, rfl⟩ := lit_of (F := F1) [(9, x1735), (115, Value.bool false)] ⟨hf 9 (by kernel_rfl), hd 10 115 (by kernel_rfl), trivial⟩
                exact sp_take rfl rfl ((o_move (x1735) rfl (⟨(Keep.refl _ _), hl1736⟩)))
              · intro F1 w1 k1 hf hd
                have k0 := (Keep.drew [] w1763).trans k1
                have s1 := s1764.call k0
                have m1 : Mv Bl0 w1763 Bl0 w1 := Mv.of_keep k0
                have h_xs := h_xs.mv m1
                obtain ⟨F2, rfl⟩ := lit_of (F := F1) [(0, xs_v), (115, Value.bool false)] ⟨hf 0 (by kernel_rfl), hd 10 115 (by kernel_rfl), trivial⟩
                exact sp_take rfl rfl ((o_move (xs_v) rfl (⟨(Keep.refl _ _), h_xs⟩)))
              · intro F1 w1 k1 hf hd
                have k0 := (Keep.drew [] w1763).trans k1
                have s1 := s1764.call k0
                have m1 : Mv Bl0 w1763 Bl0 w1 := Mv.of_keep k0
                obtain ⟨F2, rfl⟩ := lit_of (F := F1) [(14, vI ((k : Nat) : Int)), (115, Value.bool false)] ⟨hf 14 (by kernel_rfl), hd 10 115 (by kernel_rfl), trivial⟩
                exact sp_take rfl rfl ((o_move (vI ((k : Nat) : Int)) rfl (⟨(Keep.refl _ _), rfl⟩)))
              · intro F1 w1 k1 hf hd
                have k0 := (Keep.drew [] w1763).trans k1
                have s1 := s1764.call k0
                have m1 : Mv Bl0 w1763 Bl0 w1 := Mv.of_keep k0
                obtain ⟨v1778, e1780, hl1779⟩ : ∃ v, F1 117 = v ∧ RdL Enc.u8 w1 (Bl0 ++ O) v (xs) := ⟨_, rfl, hd 12 117 (by kernel_rfl)⟩
                have := hl1779.len_le
                obtain ⟨F2, rfl⟩ := lit_of (F := F1) [(115, Value.bool false), (117, v1778), (118, vI ((k : Nat) : Int))] ⟨hd 10 115 (by kernel_rfl), e1780, hd 13 118 (by kernel_rfl), trivial⟩
                exact sp_take rfl rfl ((o_idx Try.underlying28 s_5 .i64 ((k : Nat) : Int) k rfl rfl rfl hl1779 (by omega) fun a1781 hp1782 => (⟨(Keep.refl _ _), ⟨a1781, rfl, hp1782⟩⟩)))
              · intro F1 w1 k1 hf hd
                have k0 := (Keep.drew [] w1763).trans k1
                have s1 := s1764.call k0
                have m1 : Mv Bl0 w1763 Bl0 w1 := Mv.of_keep k0
                obtain ⟨a1783, e1785, hp1784⟩ : ∃ a, F1 119 = .pointer (some a) ∧ PT Enc.u8 w1 (Bl0 ++ O) (.pointer (some a)) (xs[k]!) := hd 14 119 (by kernel_rfl)
                obtain ⟨F2, rfl⟩ := lit_of (F := F1) [(115, Value.bool false), (119, Value.pointer (some a1783))] ⟨hd 10 115 (by kernel_rfl), e1785, trivial⟩
                exact sp_take rfl rfl ((o_loadB Try.underlying5 rfl rfl hp1784 (⟨(Keep.refl _ _), rfl⟩)))
              · intro F1 w1 k1 hf hd
                have k0 := (Keep.drew [] w1763).trans k1
                have s1 := s1764.call k0
                have m1 : Mv Bl0 w1763 Bl0 w1 := Mv.of_keep k0
                obtain ⟨v1786, e1788, hl1787⟩ : ∃ v, F1 116 = v ∧ RdL Enc.u8 w1 (Bl0 ++ O) v ((coeff xs ys).1) := ⟨_, rfl, hd 11 116 (by kernel_rfl)⟩
                have := hl1787.len_le
                obtain ⟨F2, rfl⟩ := lit_of (F := F1) [(115, Value.bool false), (116, v1786), (120, vB (xs[k]!))] ⟨hd 10 115 (by kernel_rfl), e1788, hd 15 120 (by kernel_rfl), trivial⟩
                refine sp_take rfl rfl ((o_callK (vs := [v1786, vB (xs[k]!)]) enter_26 (c_eval (O := Bl0 ++ O) v1786 ((coeff xs ys).1) (xs[k]!) w1 hl1787 s1.lt) rfl s1 fun v1789 w1790 s1791 m1792 k1793 r1794 => (?_)))
                obtain rfl := r1794
                have hl1787 := hl1787.mv m1792
                exact ⟨k1793, rfl⟩
              · intro F1 w1 k1 hf hd
                have k0 := (Keep.drew [] w1763).trans k1
                have s1 := s1764.call k0
                have m1 : Mv Bl0 w1763 Bl0 w1 := Mv.of_keep k0
                have h_ys := h_ys.mv m1
                obtain ⟨F2, rfl⟩ := lit_of (F := F1) [(1, ys_v), (115, Value.bool false)] ⟨hf 1 (by kernel_rfl), hd 10 115 (by kernel_rfl), trivial⟩
                exact sp_take rfl rfl ((o_move (ys_v) rfl (⟨(Keep.refl _ _), h_ys⟩)))
              · intro F1 w1 k1 hf hd
                have k0 := (Keep.drew [] w1763).trans k1
                have s1 := s1764.call k0
                have m1 : Mv Bl0 w1763 Bl0 w1 := Mv.of_keep k0
                obtain ⟨F2, rfl⟩ := lit_of (F := F1) [(14, vI ((k : Nat) : Int)), (115, Value.bool false)] ⟨hf 14 (by kernel_rfl), hd 10 115 (by kernel_rfl), trivial⟩
                exact sp_take rfl rfl ((o_move (vI ((k : Nat) : Int)) rfl (⟨(Keep.refl _ _), rfl⟩)))
              · intro F1 w1 k1 hf hd
                have k0 := (Keep.drew [] w1763).trans k1
                have s1 := s1764.call k0
                have m1 : Mv Bl0 w1763 Bl0 w1 := Mv.of_keep k0
                obtain ⟨v1795, e1797, hl1796⟩ : ∃ v, F1 122 = v ∧ RdL Enc.u8 w1 (Bl0 ++ O) v (ys) := ⟨_, rfl, hd 17 122 (by kernel_rfl)⟩
                have := hl1796.len_le
                obtain ⟨F2, rfl⟩ := lit_of (F := F1) [(115, Value.bool false), (122, v1795), (123, vI ((k : Nat) : Int))] ⟨hd 10 115 (by kernel_rfl), e1797, hd 18 123 (by kernel_rfl), trivial⟩
                exact sp_take rfl rfl ((o_idx Try.underlying28 s_5 .i64 ((k : Nat) : Int) k rfl rfl rfl hl1796 (by omega) fun a1798 hp1799 => (⟨(Keep.refl _ _), ⟨a1798, rfl, hp1799⟩⟩)))
              · intro F1 w1 k1 hf hd
                have k0 := (Keep.drew [] w1763).trans k1
                have s1 := s1764.call k0
                have m1 : Mv Bl0 w1763 Bl0 w1 := Mv.of_keep k0
                obtain ⟨a1800, e1802, hp1801⟩ : ∃ a, F1 124 = .pointer (some a) ∧ PT Enc.u8 w1 (Bl0 ++ O) (.pointer (some a)) (ys[k]!) := hd 19 124 (by kernel_rfl)
                obtain ⟨F2, rfl⟩ := lit_of (F := F1) [(115, Value.bool false), (124, Value.pointer (some a1800))] ⟨hd 10 115 (by kernel_rfl), e1802, trivial⟩
                exact sp_take rfl rfl ((o_loadB Try.underlying5 rfl rfl hp1801 (⟨(Keep.refl _ _), rfl⟩)))
              intro F1804 w1805 k1803 hT1806 hF1807
              have s1808 := s1764.call k1803
              have m1809 : Mv Bl0 w1763 Bl0 w1805 := Mv.of_keep k1803
              have h_xs := h_xs.mv m1809
              have h_ys := h_ys.mv m1809
              have h_other := h_other.mv m1809
              have hl1736 := hl1736.mv m1809
              have hp1761 := hp1761.mv m1809
              obtain ⟨v1811, e1813, hl1812⟩ : ∃ v, F1804 109 = v ∧ RdL Enc.u8 w1805 (Bl0 ++ O) v (ys) := ⟨_, rfl, hT1806 4 109 (by kernel_rfl) (by decide)⟩
              have := hl1812.len_le
              obtain ⟨a1814, e1816, hp1815⟩ : ∃ a, F1804 111 = .pointer (some a) ∧ PT Enc.u8 w1805 (Bl0 ++ O) (.pointer (some a)) (ys[k]!) := hT1806 6 111 (by kernel_rfl) (by decide)
              obtain ⟨v1817, e1819, hl1818⟩ : ∃ v, F1804 116 = v ∧ RdL Enc.u8 w1805 (Bl0 ++ O) v ((coeff xs ys).1) := ⟨_, rfl, hT1806 11 116 (by kernel_rfl) (by decide)⟩
              have := hl1818.len_le
              obtain ⟨v1820, e1822, hl1821⟩ : ∃ v, F1804 117 = v ∧ RdL Enc.u8 w1805 (Bl0 ++ O) v (xs) := ⟨_, rfl, hT1806 12 117 (by kernel_rfl) (by decide)⟩
              have := hl1821.len_le
              obtain ⟨a1823, e1825, hp1824⟩ : ∃ a, F1804 119 = .pointer (some a) ∧ PT Enc.u8 w1805 (Bl0 ++ O) (.pointer (some a)) (xs[k]!) := hT1806 14 119 (by kernel_rfl) (by decide)
              obtain ⟨v1826, e1828, hl1827⟩ : ∃ v, F1804 122 = v ∧ RdL Enc.u8 w1805 (Bl0 ++ O) v (ys) := ⟨_, rfl, hT1806 17 122 (by kernel_rfl) (by decide)⟩
              have := hl1827.len_le
              obtain ⟨a1829, e1831, hp1830⟩ : ∃ a, F1804 124 = .pointer (some a) ∧ PT Enc.u8 w1805 (Bl0 ++ O) (.pointer (some a)) (ys[k]!) := hT1806 19 124 (by kernel_rfl) (by decide)
              obtain ⟨F2, rfl⟩ := lit_of (F := F1804) [(0, xs_v), (1, ys_v), (2, other_v), (9, x1735), (13, Value.bool (sameS other xs ys k)), (14, vI ((k : Nat) : Int)), (15, vB ((through xs ys (xs[k]!)).1)), (16, vI ((through xs ys (xs[k]!)).2)), (89, vI ((k : Nat) : Int)), (90, xs_v), (91, vI (xs.length : Int)), (92, Value.bool (decide (((k : Nat) : Int) < (xs.length : Int)))), (95, Value.tuple #[vB ((through xs ys (xs[k]!)).1), vI ((through xs ys (xs[k]!)).2)]), (96, xs_v), (97, ys_v), (98, xs_v), (99, vI ((k : Nat) : Int)), (100, Value.pointer (some a1760)), (101, vB (xs[k]!)), (102, Value.tuple #[vB ((through xs ys (xs[k]!)).1), vI ((through xs ys (xs[k]!)).2)]), (103, vB ((through xs ys (xs[k]!)).1)), (104, vI ((through xs ys (xs[k]!)).2)), (164, undef), (105, vI ((through xs ys (xs[k]!)).2)), (106, Value.bool false), (107, Value.bool false), (108, vB ((through xs ys (xs[k]!)).1)), (109, v1811), (110, vI ((k : Nat) : Int)), (111, Value.pointer (some a1814)), (112, vB (ys[k]!)), (113, Value.bool false), (114, Value.bool false), (115, Value.bool false), (116, v1817), (117, v1820), (118, vI ((k : Nat) : Int)), (119, Value.pointer (some a1823)), (120, vB (xs[k]!)), (121, vB (pev ((coeff xs ys).1) (xs[k]!))), (122, v1826), (123, vI ((k : Nat) : Int)), (124, Value.pointer (some a1829)), (125, vB (ys[k]!))] ⟨hF1807 0 (by kernel_rfl), hF1807 1 (by kernel_rfl), hF1807 2 (by kernel_rfl), hF1807 9 (by kernel_rfl), hF1807 13 (by kernel_rfl), hF1807 14 (by kernel_rfl), hF1807 15 (by kernel_rfl), hF1807 16 (by kernel_rfl), hF1807 89 (by kernel_rfl), hF1807 90 (by kernel_rfl), hF1807 91 (by kernel_rfl), hF1807 92 (by kernel_rfl), hF1807 95 (by kernel_rfl), hF1807 96 (by kernel_rfl), hF1807 97 (by kernel_rfl), hF1807 98 (by kernel_rfl), hF1807 99 (by kernel_rfl), hF1807 100 (by kernel_rfl), hF1807 101 (by kernel_rfl), hF1807 102 (by kernel_rfl), hF1807 103 (by kernel_rfl), hF1807 104 (by kernel_rfl), hF1807 164 (by kernel_rfl), hT1806 0 105 (by kernel_rfl) (by decide), hT1806 1 106 (by kernel_rfl) (by decide), hT1806 2 107 (by kernel_rfl) (by decide), hT1806 3 108 (by kernel_rfl) (by decide), e1813, hT1806 5 110 (by kernel_rfl) (by decide), e1816, hT1806 7 112 (by kernel_rfl) (by decide), hT1806 8 113 (by kernel_rfl) (by decide), hT1806 9 114 (by kernel_rfl) (by decide), hT1806 10 115 (by kernel_rfl) (by decide), e1819, e1822, hT1806 13 118 (by kernel_rfl) (by decide), e1825, hT1806 15 120 (by kernel_rfl) (by decide), hT1806 16 121 (by kernel_rfl) (by decide), e1828, hT1806 18 123 (by kernel_rfl) (by decide), e1831, hT1806 20 125 (by kernel_rfl) (by decide), trivial⟩
              clear hT1806 hF1807
              refine wl_t rfl (o_neq8 (pev ((coeff xs ys).1) (xs[k]!)) (ys[k]!) rfl rfl (wl_s (o_pickF (Value.bool ((pev ((coeff xs ys).1) (xs[k]!)) != (ys[k]!))) rfl rfl (wl_nil (thenQ_n (?_))))))
              have hb1832 : ((pev ((coeff xs ys).1) (xs[k]!)) != (ys[k]!)) = false := (by rw [hth.at_ k (by omega)]; simp)
              rw [hb1832]
              refine cw_cond false rfl rfl (fun h => by cases h) (fun _ => ?_)
              refine cw_skip (thenQ_n (?_))
              cases hb1833 : (sameS other xs ys k)
              · have hp1834 : (sameS other xs ys k) = false := by first | simpa using hb1833 | (have e := hb1833; simp at e; omega)
                refine cw_draw' 12 _ _ [fun v _ => v = Value.bool false, fun v _ => v = Value.bool false, fun v _ => v = undef, fun v _ => v = undef, fun v _ => v = undef, fun v _ => v = undef, fun v _ => v = undef, fun v _ => v = undef, fun v _ => v = undef, fun v _ => v = undef, fun v _ => v = undef, fun v _ => v = undef] (by kernel_rfl) (by kernel_rfl) (by kernel_rfl) (by kernel_rfl) rfl rfl ⟨fun _ _ _ h _ => h, fun _ _ _ h _ => h, fun _ _ _ h _ => h, fun _ _ _ h _ => h, fun _ _ _ h _ => h, fun _ _ _ h _ => h, fun _ _ _ h _ => h, fun _ _ _ h _ => h, fun _ _ _ h _ => h, fun _ _ _ h _ => h, fun _ _ _ h _ => h, fun _ _ _ h _ => h, trivial⟩ ⟨?_, ?_, ?_, ?_, ?_, ?_, ?_, ?_, ?_, ?_, ?_, ?_, trivial⟩ ?_
                · intro F1 w1 k1 hf hd
                  have k0 := (Keep.drew [] w1805).trans k1
                  have s1 := s1808.call k0
                  have m1 : Mv Bl0 w1805 Bl0 w1 := Mv.of_keep k0
                  obtain ⟨F2, rfl⟩ := lit_of (F := F1) [(13, Value.bool false)] ⟨hf 13 (by kernel_rfl), trivial⟩
                  exact sp_plain rfl ((o_move (Value.bool false) rfl (⟨(Keep.refl _ _), rfl⟩)))
                · intro F1 w1 k1 hf hd
                  have k0 := (Keep.drew [] w1805).trans k1
                  have s1 := s1808.call k0
                  have m1 : Mv Bl0 w1805 Bl0 w1 := Mv.of_keep k0
                  obtain ⟨F2, rfl⟩ := lit_of (F := F1) [(128, Value.bool false)] ⟨hd 0 128 (by kernel_rfl), trivial⟩
                  exact sp_plain rfl ((o_move (Value.bool false) rfl (⟨(Keep.refl _ _), rfl⟩)))
                · intro F1 w1 k1 hf hd
                  have k0 := (Keep.drew [] w1805).trans k1
                  have s1 := s1808.call k0
                  have m1 : Mv Bl0 w1805 Bl0 w1 := Mv.of_keep k0
                  exact sp_skip rfl (by show yieldF _ F1 1 = _; have e : F1 129 = .bool false := hd 1 129 (by kernel_rfl); simp only [yieldF]; simp [e]) rfl
                · intro F1 w1 k1 hf hd
                  have k0 := (Keep.drew [] w1805).trans k1
                  have s1 := s1808.call k0
                  have m1 : Mv Bl0 w1805 Bl0 w1 := Mv.of_keep k0
                  exact sp_skip rfl (by show yieldF _ F1 1 = _; have e : F1 129 = .bool false := hd 1 129 (by kernel_rfl); simp only [yieldF]; simp [e]) rfl
                · intro F1 w1 k1 hf hd
                  have k0 := (Keep.drew [] w1805).trans k1
                  have s1 := s1808.call k0
                  have m1 : Mv Bl0 w1805 Bl0 w1 := Mv.of_keep k0
                  exact sp_skip rfl (by show yieldF _ F1 1 = _; have e : F1 129 = .bool false := hd 1 129 (by kernel_rfl); simp only [yieldF]; simp [e]) rfl
                · intro F1 w1 k1 hf hd
                  have k0 := (Keep.drew [] w1805).trans k1
                  have s1 := s1808.call k0
                  have m1 : Mv Bl0 w1805 Bl0 w1 := Mv.of_keep k0
                  exact sp_skip rfl (by show yieldF _ F1 1 = _; have e : F1 129 = .bool false := hd 1 129 (by kernel_rfl); simp only [yieldF]; simp [e]) rfl
                · intro F1 w1 k1 hf hd
                  have k0 := (Keep.drew [] w1805).trans k1
                  have s1 := s1808.call k0
                  have m1 : Mv Bl0 w1805 Bl0 w1 := Mv.of_keep k0
                  exact sp_skip rfl (by show yieldF _ F1 1 = _; have e : F1 129 = .bool false := hd 1 129 (by kernel_rfl); simp only [yieldF]; simp [e]) rfl
                · intro F1 w1 k1 hf hd
                  have k0 := (Keep.drew [] w1805).trans k1
                  have s1 := s1808.call k0
                  have m1 : Mv Bl0 w1805 Bl0 w1 := Mv.of_keep k0
                  exact sp_skip rfl (by show yieldF _ F1 1 = _; have e : F1 129 = .bool false := hd 1 129 (by kernel_rfl); simp only [yieldF]; simp [e]) rfl
                · intro F1 w1 k1 hf hd
                  have k0 := (Keep.drew [] w1805).trans k1
                  have s1 := s1808.call k0
                  have m1 : Mv Bl0 w1805 Bl0 w1 := Mv.of_keep k0
                  exact sp_skip rfl (by show yieldF _ F1 1 = _; have e : F1 129 = .bool false := hd 1 129 (by kernel_rfl); simp only [yieldF]; simp [e]) rfl
                · intro F1 w1 k1 hf hd
                  have k0 := (Keep.drew [] w1805).trans k1
                  have s1 := s1808.call k0
                  have m1 : Mv Bl0 w1805 Bl0 w1 := Mv.of_keep k0
                  exact sp_skip rfl (by show yieldF _ F1 1 = _; have e : F1 129 = .bool false := hd 1 129 (by kernel_rfl); simp only [yieldF]; simp [e]) rfl
                · intro F1 w1 k1 hf hd
                  have k0 := (Keep.drew [] w1805).trans k1
                  have s1 := s1808.call k0
                  have m1 : Mv Bl0 w1805 Bl0 w1 := Mv.of_keep k0
                  exact sp_skip rfl (by show yieldF _ F1 1 = _; have e : F1 129 = .bool false := hd 1 129 (by kernel_rfl); simp only [yieldF]; simp [e]) rfl
                · intro F1 w1 k1 hf hd
                  have k0 := (Keep.drew [] w1805).trans k1
                  have s1 := s1808.call k0
                  have m1 : Mv Bl0 w1805 Bl0 w1 := Mv.of_keep k0
                  exact sp_skip rfl (by show yieldF _ F1 1 = _; have e : F1 129 = .bool false := hd 1 129 (by kernel_rfl); simp only [yieldF]; simp [e]) rfl
                intro F1836 w1837 k1835 hT1838 hF1839
                have s1840 := s1808.call k1835
                have m1841 : Mv Bl0 w1805 Bl0 w1837 := Mv.of_keep k1835
                have h_xs := h_xs.mv m1841
                have h_ys := h_ys.mv m1841
                have h_other := h_other.mv m1841
                have hl1736 := hl1736.mv m1841
                have hp1761 := hp1761.mv m1841
                have hl1812 := hl1812.mv m1841
                have hp1815 := hp1815.mv m1841
                have hl1818 := hl1818.mv m1841
                have hl1821 := hl1821.mv m1841
                have hp1824 := hp1824.mv m1841
                have hl1827 := hl1827.mv m1841
                have hp1830 := hp1830.mv m1841
                obtain ⟨F2, rfl⟩ := lit_of (F := F1836) [(0, xs_v), (1, ys_v), (2, other_v), (9, x1735), (13, Value.bool false), (14, vI ((k : Nat) : Int)), (15, vB ((through xs ys (xs[k]!)).1)), (16, vI ((through xs ys (xs[k]!)).2)), (89, vI ((k : Nat) : Int)), (90, xs_v), (91, vI (xs.length : Int)), (92, Value.bool (decide (((k : Nat) : Int) < (xs.length : Int)))), (95, Value.tuple #[vB ((through xs ys (xs[k]!)).1), vI ((through xs ys (xs[k]!)).2)]), (96, xs_v), (97, ys_v), (98, xs_v), (99, vI ((k : Nat) : Int)), (100, Value.pointer (some a1760)), (101, vB (xs[k]!)), (102, Value.tuple #[vB ((through xs ys (xs[k]!)).1), vI ((through xs ys (xs[k]!)).2)]), (103, vB ((through xs ys (xs[k]!)).1)), (104, vI ((through xs ys (xs[k]!)).2)), (105, vI ((through xs ys (xs[k]!)).2)), (106, Value.bool false), (107, Value.bool false), (108, vB ((through xs ys (xs[k]!)).1)), (109, v1811), (110, vI ((k : Nat) : Int)), (111, Value.pointer (some a1814)), (112, vB (ys[k]!)), (113, Value.bool false), (114, Value.bool false), (115, Value.bool false), (116, v1817), (117, v1820), (118, vI ((k : Nat) : Int)), (119, Value.pointer (some a1823)), (120, vB (xs[k]!)), (121, vB (pev ((coeff xs ys).1) (xs[k]!))), (122, v1826), (123, vI ((k : Nat) : Int)), (124, Value.pointer (some a1829)), (125, vB (ys[k]!)), (126, Value.bool false), (127, Value.bool false), (164, undef), (128, Value.bool false), (129, Value.bool false)] ⟨hF1839 0 (by kernel_rfl), hF1839 1 (by kernel_rfl), hF1839 2 (by kernel_rfl), hF1839 9 (by kernel_rfl), hF1839 13 (by kernel_rfl), hF1839 14 (by kernel_rfl), hF1839 15 (by kernel_rfl), hF1839 16 (by kernel_rfl), hF1839 89 (by kernel_rfl), hF1839 90 (by kernel_rfl), hF1839 91 (by kernel_rfl), hF1839 92 (by kernel_rfl), hF1839 95 (by kernel_rfl), hF1839 96 (by kernel_rfl), hF1839 97 (by kernel_rfl), hF1839 98 (by kernel_rfl), hF1839 99 (by kernel_rfl), hF1839 100 (by kernel_rfl), hF1839 101 (by kernel_rfl), hF1839 102 (by kernel_rfl), hF1839 103 (by kernel_rfl), hF1839 104 (by kernel_rfl), hF1839 105 (by kernel_rfl), hF1839 106 (by kernel_rfl), hF1839 107 (by kernel_rfl), hF1839 108 (by kernel_rfl), hF1839 109 (by kernel_rfl), hF1839 110 (by kernel_rfl), hF1839 111 (by kernel_rfl), hF1839 112 (by kernel_rfl), hF1839 113 (by kernel_rfl), hF1839 114 (by kernel_rfl), hF1839 115 (by kernel_rfl), hF1839 116 (by kernel_rfl), hF1839 117 (by kernel_rfl), hF1839 118 (by kernel_rfl), hF1839 119 (by kernel_rfl), hF1839 120 (by kernel_rfl), hF1839 121 (by kernel_rfl), hF1839 122 (by kernel_rfl), hF1839 123 (by kernel_rfl), hF1839 124 (by kernel_rfl), hF1839 125 (by kernel_rfl), hF1839 126 (by kernel_rfl), hF1839 127 (by kernel_rfl), hF1839 164 (by kernel_rfl), hT1838 0 128 (by kernel_rfl) (by decide), hT1838 1 129 (by kernel_rfl) (by decide), trivial⟩
                clear hT1838 hF1839
                refine wl_k rfl (wl_s (o_pickF (Value.bool false) rfl rfl (wl_s (o_assign (Value.bool false) rfl (wl_nil (blockQ_n (thenQ_n (?_))))))))
                refine cw_region (by kernel_rfl) (wl_s (o_move (vI ((k : Nat) : Int)) rfl (wl_s (o_add .i64 ((k : Nat) : Int) (1 : Int) (((k + 1 : Nat) : Int)) rfl rfl (w64 (by omega) (by omega)) (wl_s (o_assign (vI ((k + 1 : Nat) : Int)) rfl (wl_nil (thenQ_n (?_)))))))))
                exact ⟨_, (by omega), (k + 1), Bl0, (by first | omega | (simp; done) | (simp; omega) | simp_all), rfl, ⟨_, upds_self _ ⟨rfl, rfl, rfl, rfl, (congrArg Value.bool (by first | rfl | (simp [sameS, *]))), (by first | rfl | exact congrArg (Value.int _) (by first | omega | (simp))), rfl, trivial⟩⟩, s1840, h_xs, h_ys, h_other, hl1736⟩
              · have hp1843 : (sameS other xs ys k) = true := by first | simpa using hb1833 | (have e := hb1833; simp at e; omega)
                refine cw_draw' 12 _ _ [fun v _ => v = Value.bool true, fun v _ => v = Value.bool true, fun v w => RdL Enc.u8 w (Bl0 ++ O) v (other), fun v w => RdL Enc.u8 w (Bl0 ++ O) v (xs), fun v _ => v = vI ((k : Nat) : Int), fun v w => ∃ a, v = .pointer (some a) ∧ PT Enc.u8 w (Bl0 ++ O) (.pointer (some a)) (xs[k]!), fun v _ => v = vB (xs[k]!), fun v _ => v = vB (pev other (xs[k]!)), fun v w => RdL Enc.u8 w (Bl0 ++ O) v (ys), fun v _ => v = vI ((k : Nat) : Int), fun v w => ∃ a, v = .pointer (some a) ∧ PT Enc.u8 w (Bl0 ++ O) (.pointer (some a)) (ys[k]!), fun v _ => v = vB (ys[k]!)] (by kernel_rfl) (by kernel_rfl) (by kernel_rfl) (by kernel_rfl) rfl rfl ⟨fun _ _ _ h _ => h, fun _ _ _ h _ => h, fun _ _ _ h k => h.mv (Mv.of_keep k), fun _ _ _ h k => h.mv (Mv.of_keep k), fun _ _ _ h _ => h, fun _ _ _ ⟨a, e, h⟩ k => ⟨a, e, h.mv (Mv.of_keep k)⟩, fun _ _ _ h _ => h, fun _ _ _ h _ => h, fun _ _ _ h k => h.mv (Mv.of_keep k), fun _ _ _ h _ => h, fun _ _ _ ⟨a, e, h⟩ k => ⟨a, e, h.mv (Mv.of_keep k)⟩, fun _ _ _ h _ => h, trivial⟩ ⟨?_, ?_, ?_, ?_, ?_, ?_, ?_, ?_, ?_, ?_, ?_, ?_, trivial⟩ ?_
                · intro F1 w1 k1 hf hd
                  have k0 := (Keep.drew [] w1805).trans k1
                  have s1 := s1808.call k0
                  have m1 : Mv Bl0 w1805 Bl0 w1 := Mv.of_keep k0
                  obtain ⟨F2, rfl⟩ := lit_of (F := F1) [(13, Value.bool true)] ⟨hf 13 (by kernel_rfl), trivial⟩
                  exact sp_plain rfl ((o_move (Value.bool true) rfl (⟨(Keep.refl _ _), rfl⟩)))
                · intro F1 w1 k1 hf hd
                  have k0 := (Keep.drew [] w1805).trans k1
                  have s1 := s1808.call k0
                  have m1 : Mv Bl0 w1805 Bl0 w1 := Mv.of_keep k0
                  obtain ⟨F2, rfl⟩ := lit_of (F := F1) [(128, Value.bool true)] ⟨hd 0 128 (by kernel_rfl), trivial⟩
                  exact sp_plain rfl ((o_move (Value.bool true) rfl (⟨(Keep.refl _ _), rfl⟩)))
                · intro F1 w1 k1 hf hd
                  have k0 := (Keep.drew [] w1805).trans k1
                  have s1 := s1808.call k0
                  have m1 : Mv Bl0 w1805 Bl0 w1 := Mv.of_keep k0
                  have h_other := h_other.mv m1
                  obtain ⟨F2, rfl⟩ := lit_of (F := F1) [(2, other_v), (129, Value.bool true)] ⟨hf 2 (by kernel_rfl), hd 1 129 (by kernel_rfl), trivial⟩
                  exact sp_take rfl rfl ((o_move (other_v) rfl (⟨(Keep.refl _ _), h_other⟩)))
                · intro F1 w1 k1 hf hd
                  have k0 := (Keep.drew [] w1805).trans k1
                  have s1 := s1808.call k0
                  have m1 : Mv Bl0 w1805 Bl0 w1 := Mv.of_keep k0
                  have h_xs := h_xs.mv m1
                  obtain ⟨F2, rfl⟩ := lit_of (F := F1) [(0, xs_v), (129, Value.bool true)] ⟨hf 0 (by kernel_rfl), hd 1 129 (by kernel_rfl), trivial⟩
                  exact sp_take rfl rfl ((o_move (xs_v) rfl (⟨(Keep.refl _ _), h_xs⟩)))
                · intro F1 w1 k1 hf hd
                  have k0 := (Keep.drew [] w1805).trans k1
                  have s1 := s1808.call k0
                  have m1 : Mv Bl0 w1805 Bl0 w1 := Mv.of_keep k0
                  obtain ⟨F2, rfl⟩ := lit_of (F := F1) [(14, vI ((k : Nat) : Int)), (129, Value.bool true)] ⟨hf 14 (by kernel_rfl), hd 1 129 (by kernel_rfl), trivial⟩
                  exact sp_take rfl rfl ((o_move (vI ((k : Nat) : Int)) rfl (⟨(Keep.refl _ _), rfl⟩)))
                · intro F1 w1 k1 hf hd
                  have k0 := (Keep.drew [] w1805).trans k1
                  have s1 := s1808.call k0
                  have m1 : Mv Bl0 w1805 Bl0 w1 := Mv.of_keep k0
                  obtain ⟨v1844, e1846, hl1845⟩ : ∃ v, F1 131 = v ∧ RdL Enc.u8 w1 (Bl0 ++ O) v (xs) := ⟨_, rfl, hd 3 131 (by kernel_rfl)⟩
                  have := hl1845.len_le
                  obtain ⟨F2, rfl⟩ := lit_of (F := F1) [(129, Value.bool true), (131, v1844), (132, vI ((k : Nat) : Int))] ⟨hd 1 129 (by kernel_rfl), e1846, hd 4 132 (by kernel_rfl), trivial⟩
                  exact sp_take rfl rfl ((o_idx Try.underlying28 s_5 .i64 ((k : Nat) : Int) k rfl rfl rfl hl1845 (by omega) fun a1847 hp1848 => (⟨(Keep.refl _ _), ⟨a1847, rfl, hp1848⟩⟩)))
                · intro F1 w1 k1 hf hd
                  have k0 := (Keep.drew [] w1805).trans k1
                  have s1 := s1808.call k0
                  have m1 : Mv Bl0 w1805 Bl0 w1 := Mv.of_keep k0
                  obtain ⟨a1849, e1851, hp1850⟩ : ∃ a, F1 133 = .pointer (some a) ∧ PT Enc.u8 w1 (Bl0 ++ O) (.pointer (some a)) (xs[k]!) := hd 5 133 (by kernel_rfl)
                  obtain ⟨F2, rfl⟩ := lit_of (F := F1) [(129, Value.bool true), (133, Value.pointer (some a1849))] ⟨hd 1 129 (by kernel_rfl), e1851, trivial⟩
                  exact sp_take rfl rfl ((o_loadB Try.underlying5 rfl rfl hp1850 (⟨(Keep.refl _ _), rfl⟩)))
                · intro F1 w1 k1 hf hd
                  have k0 := (Keep.drew [] w1805).trans k1
                  have s1 := s1808.call k0
                  have m1 : Mv Bl0 w1805 Bl0 w1 := Mv.of_keep k0
                  obtain ⟨v1852, e1854, hl1853⟩ : ∃ v, F1 130 = v ∧ RdL Enc.u8 w1 (Bl0 ++ O) v (other) := ⟨_, rfl, hd 2 130 (by kernel_rfl)⟩
                  have := hl1853.len_le
                  obtain ⟨F2, rfl⟩ := lit_of (F := F1) [(129, Value.bool true), (130, v1852), (134, vB (xs[k]!))] ⟨hd 1 129 (by kernel_rfl), e1854, hd 6 134 (by kernel_rfl), trivial⟩
                  refine sp_take rfl rfl ((o_callK (vs := [v1852, vB (xs[k]!)]) enter_26 (c_eval (O := Bl0 ++ O) v1852 other (xs[k]!) w1 hl1853 s1.lt) rfl s1 fun v1855 w1856 s1857 m1858 k1859 r1860 => (?_)))
                  obtain rfl := r1860
                  have hl1853 := hl1853.mv m1858
                  exact ⟨k1859, rfl⟩
                · intro F1 w1 k1 hf hd
                  have k0 := (Keep.drew [] w1805).trans k1
                  have s1 := s1808.call k0
                  have m1 : Mv Bl0 w1805 Bl0 w1 := Mv.of_keep k0
                  have h_ys := h_ys.mv m1
                  obtain ⟨F2, rfl⟩ := lit_of (F := F1) [(1, ys_v), (129, Value.bool true)] ⟨hf 1 (by kernel_rfl), hd 1 129 (by kernel_rfl), trivial⟩
                  exact sp_take rfl rfl ((o_move (ys_v) rfl (⟨(Keep.refl _ _), h_ys⟩)))
                · intro F1 w1 k1 hf hd
                  have k0 := (Keep.drew [] w1805).trans k1
                  have s1 := s1808.call k0
                  have m1 : Mv Bl0 w1805 Bl0 w1 := Mv.of_keep k0
                  obtain ⟨F2, rfl⟩ := lit_of (F := F1) [(14, vI ((k : Nat) : Int)), (129, Value.bool true)] ⟨hf 14 (by kernel_rfl), hd 1 129 (by kernel_rfl), trivial⟩
                  exact sp_take rfl rfl ((o_move (vI ((k : Nat) : Int)) rfl (⟨(Keep.refl _ _), rfl⟩)))
                · intro F1 w1 k1 hf hd
                  have k0 := (Keep.drew [] w1805).trans k1
                  have s1 := s1808.call k0
                  have m1 : Mv Bl0 w1805 Bl0 w1 := Mv.of_keep k0
                  obtain ⟨v1861, e1863, hl1862⟩ : ∃ v, F1 136 = v ∧ RdL Enc.u8 w1 (Bl0 ++ O) v (ys) := ⟨_, rfl, hd 8 136 (by kernel_rfl)⟩
                  have := hl1862.len_le
                  obtain ⟨F2, rfl⟩ := lit_of (F := F1) [(129, Value.bool true), (136, v1861), (137, vI ((k : Nat) : Int))] ⟨hd 1 129 (by kernel_rfl), e1863, hd 9 137 (by kernel_rfl), trivial⟩
                  exact sp_take rfl rfl ((o_idx Try.underlying28 s_5 .i64 ((k : Nat) : Int) k rfl rfl rfl hl1862 (by omega) fun a1864 hp1865 => (⟨(Keep.refl _ _), ⟨a1864, rfl, hp1865⟩⟩)))
                · intro F1 w1 k1 hf hd
                  have k0 := (Keep.drew [] w1805).trans k1
                  have s1 := s1808.call k0
                  have m1 : Mv Bl0 w1805 Bl0 w1 := Mv.of_keep k0
                  obtain ⟨a1866, e1868, hp1867⟩ : ∃ a, F1 138 = .pointer (some a) ∧ PT Enc.u8 w1 (Bl0 ++ O) (.pointer (some a)) (ys[k]!) := hd 10 138 (by kernel_rfl)
                  obtain ⟨F2, rfl⟩ := lit_of (F := F1) [(129, Value.bool true), (138, Value.pointer (some a1866))] ⟨hd 1 129 (by kernel_rfl), e1868, trivial⟩
                  exact sp_take rfl rfl ((o_loadB Try.underlying5 rfl rfl hp1867 (⟨(Keep.refl _ _), rfl⟩)))
                intro F1870 w1871 k1869 hT1872 hF1873
                have s1874 := s1808.call k1869
                have m1875 : Mv Bl0 w1805 Bl0 w1871 := Mv.of_keep k1869
                have h_xs := h_xs.mv m1875
                have h_ys := h_ys.mv m1875
                have h_other := h_other.mv m1875
                have hl1736 := hl1736.mv m1875
                have hp1761 := hp1761.mv m1875
                have hl1812 := hl1812.mv m1875
                have hp1815 := hp1815.mv m1875
                have hl1818 := hl1818.mv m1875
                have hl1821 := hl1821.mv m1875
                have hp1824 := hp1824.mv m1875
                have hl1827 := hl1827.mv m1875
                have hp1830 := hp1830.mv m1875
                obtain ⟨v1877, e1879, hl1878⟩ : ∃ v, F1870 130 = v ∧ RdL Enc.u8 w1871 (Bl0 ++ O) v (other) := ⟨_, rfl, hT1872 2 130 (by kernel_rfl) (by decide)⟩
                have := hl1878.len_le
                obtain ⟨v1880, e1882, hl1881⟩ : ∃ v, F1870 131 = v ∧ RdL Enc.u8 w1871 (Bl0 ++ O) v (xs) := ⟨_, rfl, hT1872 3 131 (by kernel_rfl) (by decide)⟩
                have := hl1881.len_le
                obtain ⟨a1883, e1885, hp1884⟩ : ∃ a, F1870 133 = .pointer (some a) ∧ PT Enc.u8 w1871 (Bl0 ++ O) (.pointer (some a)) (xs[k]!) := hT1872 5 133 (by kernel_rfl) (by decide)
                obtain ⟨v1886, e1888, hl1887⟩ : ∃ v, F1870 136 = v ∧ RdL Enc.u8 w1871 (Bl0 ++ O) v (ys) := ⟨_, rfl, hT1872 8 136 (by kernel_rfl) (by decide)⟩
                have := hl1887.len_le
                obtain ⟨a1889, e1891, hp1890⟩ : ∃ a, F1870 138 = .pointer (some a) ∧ PT Enc.u8 w1871 (Bl0 ++ O) (.pointer (some a)) (ys[k]!) := hT1872 10 138 (by kernel_rfl) (by decide)
                obtain ⟨F2, rfl⟩ := lit_of (F := F1870) [(0, xs_v), (1, ys_v), (2, other_v), (9, x1735), (13, Value.bool true), (14, vI ((k : Nat) : Int)), (15, vB ((through xs ys (xs[k]!)).1)), (16, vI ((through xs ys (xs[k]!)).2)), (89, vI ((k : Nat) : Int)), (90, xs_v), (91, vI (xs.length : Int)), (92, Value.bool (decide (((k : Nat) : Int) < (xs.length : Int)))), (95, Value.tuple #[vB ((through xs ys (xs[k]!)).1), vI ((through xs ys (xs[k]!)).2)]), (96, xs_v), (97, ys_v), (98, xs_v), (99, vI ((k : Nat) : Int)), (100, Value.pointer (some a1760)), (101, vB (xs[k]!)), (102, Value.tuple #[vB ((through xs ys (xs[k]!)).1), vI ((through xs ys (xs[k]!)).2)]), (103, vB ((through xs ys (xs[k]!)).1)), (104, vI ((through xs ys (xs[k]!)).2)), (105, vI ((through xs ys (xs[k]!)).2)), (106, Value.bool false), (107, Value.bool false), (108, vB ((through xs ys (xs[k]!)).1)), (109, v1811), (110, vI ((k : Nat) : Int)), (111, Value.pointer (some a1814)), (112, vB (ys[k]!)), (113, Value.bool false), (114, Value.bool false), (115, Value.bool false), (116, v1817), (117, v1820), (118, vI ((k : Nat) : Int)), (119, Value.pointer (some a1823)), (120, vB (xs[k]!)), (121, vB (pev ((coeff xs ys).1) (xs[k]!))), (122, v1826), (123, vI ((k : Nat) : Int)), (124, Value.pointer (some a1829)), (125, vB (ys[k]!)), (126, Value.bool false), (127, Value.bool false), (164, undef), (128, Value.bool true), (129, Value.bool true), (130, v1877), (131, v1880), (132, vI ((k : Nat) : Int)), (133, Value.pointer (some a1883)), (134, vB (xs[k]!)), (135, vB (pev other (xs[k]!))), (136, v1886), (137, vI ((k : Nat) : Int)), (138, Value.pointer (some a1889)), (139, vB (ys[k]!))] ⟨hF1873 0 (by kernel_rfl), hF1873 1 (by kernel_rfl), hF1873 2 (by kernel_rfl), hF1873 9 (by kernel_rfl), hF1873 13 (by kernel_rfl), hF1873 14 (by kernel_rfl), hF1873 15 (by kernel_rfl), hF1873 16 (by kernel_rfl), hF1873 89 (by kernel_rfl), hF1873 90 (by kernel_rfl), hF1873 91 (by kernel_rfl), hF1873 92 (by kernel_rfl), hF1873 95 (by kernel_rfl), hF1873 96 (by kernel_rfl), hF1873 97 (by kernel_rfl), hF1873 98 (by kernel_rfl), hF1873 99 (by kernel_rfl), hF1873 100 (by kernel_rfl), hF1873 101 (by kernel_rfl), hF1873 102 (by kernel_rfl), hF1873 103 (by kernel_rfl), hF1873 104 (by kernel_rfl), hF1873 105 (by kernel_rfl), hF1873 106 (by kernel_rfl), hF1873 107 (by kernel_rfl), hF1873 108 (by kernel_rfl), hF1873 109 (by kernel_rfl), hF1873 110 (by kernel_rfl), hF1873 111 (by kernel_rfl), hF1873 112 (by kernel_rfl), hF1873 113 (by kernel_rfl), hF1873 114 (by kernel_rfl), hF1873 115 (by kernel_rfl), hF1873 116 (by kernel_rfl), hF1873 117 (by kernel_rfl), hF1873 118 (by kernel_rfl), hF1873 119 (by kernel_rfl), hF1873 120 (by kernel_rfl), hF1873 121 (by kernel_rfl), hF1873 122 (by kernel_rfl), hF1873 123 (by kernel_rfl), hF1873 124 (by kernel_rfl), hF1873 125 (by kernel_rfl), hF1873 126 (by kernel_rfl), hF1873 127 (by kernel_rfl), hF1873 164 (by kernel_rfl), hT1872 0 128 (by kernel_rfl) (by decide), hT1872 1 129 (by kernel_rfl) (by decide), e1879, e1882, hT1872 4 132 (by kernel_rfl) (by decide), e1885, hT1872 6 134 (by kernel_rfl) (by decide), hT1872 7 135 (by kernel_rfl) (by decide), e1888, hT1872 9 137 (by kernel_rfl) (by decide), e1891, hT1872 11 139 (by kernel_rfl) (by decide), trivial⟩
                clear hT1872 hF1873
                refine wl_t rfl (o_eql8 (pev other (xs[k]!)) (ys[k]!) rfl rfl (wl_s (o_pickT (Value.bool ((pev other (xs[k]!)) == (ys[k]!))) rfl rfl (wl_s (o_assign (Value.bool ((pev other (xs[k]!)) == (ys[k]!))) rfl (wl_nil (blockQ_n (thenQ_n (?_)))))))))
                refine cw_region (by kernel_rfl) (wl_s (o_move (vI ((k : Nat) : Int)) rfl (wl_s (o_add .i64 ((k : Nat) : Int) (1 : Int) (((k + 1 : Nat) : Int)) rfl rfl (w64 (by omega) (by omega)) (wl_s (o_assign (vI ((k + 1 : Nat) : Int)) rfl (wl_nil (thenQ_n (?_)))))))))
                exact ⟨_, (by omega), (k + 1), Bl0, (by first | omega | (simp; done) | (simp; omega) | simp_all), rfl, ⟨_, upds_self _ ⟨rfl, rfl, rfl, rfl, (congrArg Value.bool (by first | rfl | (simp [sameS, *]))), (by first | rfl | exact congrArg (Value.int _) (by first | omega | (simp))), rfl, trivial⟩⟩, s1874, h_xs, h_ys, h_other, hl1736⟩
            · have hp1892 : (xs.length : Int) ≤ ((k : Nat) : Int) := by first | simpa using hc1758 | (have e := hc1758; simp at e; omega)
              obtain rfl : k = xs.length := by omega
              refine cw_exit (thenQ_x (thenQ_x (blockQ_x (thenQ_n (?_)))))
              refine cw_seq (?_)
              refine cw_seq (?_)
              refine cw_region (by kernel_rfl) (wl_s (o_move (Value.bool (sameS other xs ys xs.length)) rfl (wl_s (o_not (sameS other xs ys xs.length) rfl (wl_nil (thenQ_n (?_)))))))
              refine cw_cond (!(sameS other xs ys xs.length)) rfl rfl (fun hc1893 => ?_) (fun hc1893 => ?_)
              · have hp1894 : (sameS other xs ys xs.length) = false := by first | simpa using hc1893 | (have e := hc1893; simp at e; omega)
                refine cw_seq (?_)
                refine cw_region (by kernel_rfl) (wl_s (o_assign (Value.bool true) rfl (wl_nil (thenQ_n (?_)))))
                refine cw_ret (thenQ_r (end_r rfl (res1 rfl rfl rfl) (?_)))
                exact ⟨_, rfl, sl0.keep, rfl⟩
              · have hp1895 : (sameS other xs ys xs.length) = true := by first | simpa using hc1893 | (have e := hc1893; simp at e; omega)
                refine cw_skip (thenQ_n (?_))
                refine cw_seq (?_)
                refine cw_seq (?_)
                refine cw_region (by kernel_rfl) (wl_s (o_assign (vI (0 : Int)) rfl (wl_nil (thenQ_n (?_)))))
                refine cw_block (?_)
                refine cw_loop (fun mI FI wI => ∃ (j : Nat), j ≤ (coeff xs ys).1.length ∧ mI = (coeff xs ys).1.length - j ∧ (∃ F1, FI = upds F1 [(2, other_v), (9, x1735), (17, vI ((j : Nat) : Int)), (164, undef)]) ∧ wl0 = wI) ((coeff xs ys).1.length - (0)) ?_ ?_
                · exact ⟨(0), (by first | omega | (simp; done) | (simp; omega) | simp_all), rfl, ⟨_, upds_self _ ⟨rfl, rfl, (by first | rfl | exact congrArg (Value.int _) (by first | omega | (simp))), rfl, trivial⟩⟩, rfl⟩
                · rintro ml1 F wl1 ⟨j, hr1_0, hm1, ⟨Fl1, rfl⟩, rfl⟩
                  refine cw_seq (?_)
                  refine cw_seq (?_)
                  refine cw_region (by kernel_rfl) (wl_s (o_move (vI ((j : Nat) : Int)) rfl (wl_s (o_move (x1735) rfl (wl_s (o_lenR Try.underlying28 rfl hl1736 (wl_s (o_lss .i64 ((j : Nat) : Int) (((coeff xs ys).1).length : Int) rfl rfl (wl_nil (thenQ_n (?_)))))))))))
                  refine cw_cond (decide (((j : Nat) : Int) < (((coeff xs ys).1).length : Int))) rfl rfl (fun hc1896 => ?_) (fun hc1896 => ?_)
                  · have hp1897 : ((j : Nat) : Int) < (((coeff xs ys).1).length : Int) := by first | simpa using hc1896 | (have e := hc1896; simp at e; omega)
                    refine cw_skip (thenQ_n (?_))
                    refine cw_seq (?_)
                    refine cw_block (?_)
                    refine cw_seq (?_)
                    refine cw_region (by kernel_rfl) (wl_s (o_assign (vB (0 : UInt8)) rfl (wl_nil (thenQ_n (?_)))))
                    refine cw_seq (?_)
                    refine cw_seq (?_)
                    refine cw_region (by kernel_rfl) (wl_s (o_move (vI ((j : Nat) : Int)) rfl (wl_s (o_move (other_v) rfl (wl_s (o_lenR Try.underlying28 rfl h_other (wl_s (o_lss .i64 ((j : Nat) : Int) (other.length : Int) rfl rfl (wl_nil (thenQ_n (?_)))))))))))
                    refine cw_cond (decide (((j : Nat) : Int) < (other.length : Int))) rfl rfl (fun hc1898 => ?_) (fun hc1898 => ?_)
                    · have hp1899 : ((j : Nat) : Int) < (other.length : Int) := by first | simpa using hc1898 | (have e := hc1898; simp at e; omega)
                      refine cw_region (by kernel_rfl) (wl_s (o_move (other_v) rfl (wl_s (o_move (vI ((j : Nat) : Int)) rfl (wl_s (o_idx Try.underlying28 s_5 .i64 ((j : Nat) : Int) j rfl rfl rfl h_other (by omega) fun a1900 hp1901 => (wl_s (o_loadB Try.underlying5 rfl rfl hp1901 (wl_s (o_assign (vB (other[j]!)) rfl (wl_nil (thenQ_n (?_)))))))))))))
                      refine cw_seq (?_)
                      refine cw_region (by kernel_rfl) (wl_s (o_move (x1735) rfl (wl_s (o_move (vI ((j : Nat) : Int)) rfl (wl_s (o_idx Try.underlying28 s_5 .i64 ((j : Nat) : Int) j rfl rfl rfl hl1736 (by omega) fun a1902 hp1903 => (wl_s (o_loadB Try.underlying5 rfl rfl hp1903 (wl_s (o_move (vB (other[j]!)) rfl (wl_s (o_neq8 (((coeff xs ys).1)[j]!) (other[j]!) rfl rfl (wl_nil (thenQ_n (?_)))))))))))))))
                      have hb1904 : ((((coeff xs ys).1)[j]!) != (other[j]!)) = false := (by rw [same_coeff (m := other) hw (by assumption)]; simp)
                      rw [hb1904]
                      refine cw_cond false rfl rfl (fun h => by cases h) (fun _ => ?_)
                      refine cw_skip (blockQ_n (thenQ_n (?_)))
                      refine cw_region (by kernel_rfl) (wl_s (o_move (vI ((j : Nat) : Int)) rfl (wl_s (o_add .i64 ((j : Nat) : Int) (1 : Int) (((j + 1 : Nat) : Int)) rfl rfl (w64 (by omega) (by omega)) (wl_s (o_assign (vI ((j + 1 : Nat) : Int)) rfl (wl_nil (thenQ_n (?_)))))))))
                      exact ⟨_, (by omega), (j + 1), (by first | omega | (simp; done) | (simp; omega) | simp_all), rfl, ⟨_, upds_self _ ⟨rfl, rfl, (by first | rfl | exact congrArg (Value.int _) (by first | omega | (simp))), rfl, trivial⟩⟩, rfl⟩
                    · have hp1905 : (other.length : Int) ≤ ((j : Nat) : Int) := by first | simpa using hc1898 | (have e := hc1898; simp at e; omega)
                      refine cw_skip (thenQ_n (?_))
                      refine cw_seq (?_)
                      refine cw_region (by kernel_rfl) (wl_s (o_move (x1735) rfl (wl_s (o_move (vI ((j : Nat) : Int)) rfl (wl_s (o_idx Try.underlying28 s_5 .i64 ((j : Nat) : Int) j rfl rfl rfl hl1736 (by omega) fun a1906 hp1907 => (wl_s (o_loadB Try.underlying5 rfl rfl hp1907 (wl_s (o_move (vB (0 : UInt8)) rfl (wl_s (o_neq8 (((coeff xs ys).1)[j]!) (0 : UInt8) rfl rfl (wl_nil (thenQ_n (?_)))))))))))))))
                      have hb1908 : ((((coeff xs ys).1)[j]!) != (0 : UInt8)) = false := (by rw [same_coeff (m := other) hw (by assumption), get_out (by omega)]; simp)
                      rw [hb1908]
                      refine cw_cond false rfl rfl (fun h => by cases h) (fun _ => ?_)
                      refine cw_skip (blockQ_n (thenQ_n (?_)))
                      refine cw_region (by kernel_rfl) (wl_s (o_move (vI ((j : Nat) : Int)) rfl (wl_s (o_add .i64 ((j : Nat) : Int) (1 : Int) (((j + 1 : Nat) : Int)) rfl rfl (w64 (by omega) (by omega)) (wl_s (o_assign (vI ((j + 1 : Nat) : Int)) rfl (wl_nil (thenQ_n (?_)))))))))
                      exact ⟨_, (by omega), (j + 1), (by first | omega | (simp; done) | (simp; omega) | simp_all), rfl, ⟨_, upds_self _ ⟨rfl, rfl, (by first | rfl | exact congrArg (Value.int _) (by first | omega | (simp))), rfl, trivial⟩⟩, rfl⟩
                  · have hp1909 : (((coeff xs ys).1).length : Int) ≤ ((j : Nat) : Int) := by first | simpa using hc1896 | (have e := hc1896; simp at e; omega)
                    refine cw_exit (thenQ_x (thenQ_x (blockQ_x (thenQ_n (?_)))))
                    refine cw_seq (?_)
                    refine cw_region (by kernel_rfl) (wl_s (o_assign (Value.bool true) rfl (wl_nil (thenQ_n (?_)))))
                    refine cw_ret (end_r rfl (res1 rfl rfl rfl) (?_))
                    exact ⟨_, rfl, sl0.keep, rfl⟩
    · have hp1910 : (20 : Int) < (ys.length : Int) := by first | simpa using hb1724 | (have e := hb1724; simp at e; omega)
      refine wl_k rfl (wl_k rfl (wl_k rfl (wl_s (o_pickT (Value.bool true) rfl rfl (wl_nil (thenQ_n (?_)))))))
      refine cw_cond true rfl rfl (fun _ => ?_) (fun h => by cases h)
      refine cw_seq (?_)
      refine cw_region (by kernel_rfl) (wl_s (o_assign (Value.bool true) rfl (wl_nil (thenQ_n (?_)))))
      refine cw_ret (thenQ_r (end_r rfl (res1 rfl rfl rfl) (?_)))
      exact ⟨_, rfl, s1718.keep, rfl⟩
  · have hp1911 : (12 : Int) < (xs.length : Int) := by first | simpa using hb1722 | (have e := hb1722; simp at e; omega)
    refine wl_k rfl (wl_k rfl (wl_k rfl (wl_s (o_pickT (Value.bool true) rfl rfl (wl_s (o_move (Value.bool true) rfl (wl_k rfl (wl_k rfl (wl_k rfl (wl_s (o_pickT (Value.bool true) rfl rfl (wl_nil (thenQ_n (?_))))))))))))))
    refine cw_cond true rfl rfl (fun _ => ?_) (fun h => by cases h)
    refine cw_seq (?_)
    refine cw_region (by kernel_rfl) (wl_s (o_assign (Value.bool true) rfl (wl_nil (thenQ_n (?_)))))
    refine cw_ret (thenQ_r (end_r rfl (res1 rfl rfl rfl) (?_)))
    exact ⟨_, rfl, s1718.keep, rfl⟩

end Go.Proofs.Yteajcgfcnbdmgaa
