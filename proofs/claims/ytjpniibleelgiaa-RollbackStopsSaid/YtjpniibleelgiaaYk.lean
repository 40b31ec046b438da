/- Walks, printed by gen.py. -/
import Derived.Test.YtjpniibleelgiaaYb
import Derived.Test.YtjpniibleelgiaaYc
import Derived.Test.YtjpniibleelgiaaYq
set_option linter.unusedSimpArgs false
set_option linter.unusedVariables false
namespace Go.Proofs.Ytjpniibleelgiaa
open Go.Fw Go.RowKit

set_option maxHeartbeats 4000000 in
set_option maxRecDepth 100000 in
theorem c_show43 {O : List Nat} (no : Int) (copy : Int) (w : World) (hO : ∀ b ∈ O, b < w.heap.size) : CallsK Try.prog 77 [vI no, vI copy] w (fun v w' => ∃ (x0 : List Value), v = .agg x0.toArray ∧ Enc.devop.rd w' (O) x0 ((⟨0, no, 2, copy, 0, 1⟩ : DeviceOp))) :=  by
 have s0 : St w O w [] := St.start hO
 refine callsK_of 8 Try.func77 rfl rfl (of_decide_eq_true rfl) (fun F0 => ?_)
 refine cw_seq (?_)
 refine cw_region (by kernel_rfl) (wl_s (o_alloc [vI (0 : Int), vI (0 : Int), vI (0 : Int), vI (0 : Int), vI (0 : Int), vI (0 : Int)] z_40 rfl s0 fun b6255 w6256 e6261 s6257 m6258 k6259 bx6260 => (?_)))
 clear e6261
 refine wl_nil (thenQ_n (?_))
 refine cw_seq (?_)
 refine cw_region (by kernel_rfl) (wl_s (o_move (vI no) rfl (wl_s (o_move (vI copy) rfl (wl_s (o_build (l := [(1, .tmp 5), (2, .const (vI (2 : Int))), (3, .tmp 6), (5, .const (vI (1 : Int)))]) pl_40 z_40 rfl [(1, vI no, [vI no]), (2, vI (2 : Int), [vI (2 : Int)]), (3, vI copy, [vI copy]), (5, vI (1 : Int), [vI (1 : Int)])] [vI (0 : Int), vI no, vI (2 : Int), vI copy, vI (0 : Int), vI (1 : Int)] rfl ⟨_, rfl, rfl, (of_decide_eq_true rfl), ⟨_, rfl, rfl, (of_decide_eq_true rfl), ⟨_, rfl, rfl, (of_decide_eq_true rfl), ⟨_, rfl, rfl, (of_decide_eq_true rfl), rfl⟩⟩⟩⟩ (wl_n (o_store (vs := [vI (0 : Int), vI no, vI (2 : Int), vI copy, vI (0 : Int), vI (1 : Int)]) (.agg #[vI (0 : Int), vI no, vI (2 : Int), vI copy, vI (0 : Int), vI (1 : Int)]) rfl rfl rfl s_40 (fun u hu => by simp only [List.mem_cons, List.not_mem_nil, or_false] at hu; rcases hu with rfl | rfl | rfl | rfl | rfl | rfl <;> first | rfl) (by repeat (first | assumption | constructor)) bx6260 (of_decide_eq_true rfl) s6257 fun w6262 s6263 m6264 k6265 bx6266 => (?_)))))))))
 refine wl_nil (thenQ_n (?_))
 refine cw_ret (end_r rfl (rescA (vs := [vI (0 : Int), vI no, vI (2 : Int), vI copy, vI (0 : Int), vI (1 : Int)]) rfl rfl Try.underlying40 rfl s_40 rfl bx6266 rfl) (?_))
 have e : (⟨0, no, 2, copy, 0, 1⟩ : DeviceOp) = (⟨(0 : Int), no, (2 : Int), copy, (0 : Int), (1 : Int)⟩ : DeviceOp) := rfl
 exact ⟨_, rfl, s6263.keep, by rw [e]; first | done | exact ⟨[vI (0 : Int), vI no, vI (2 : Int), vI copy, vI (0 : Int), vI (1 : Int)], rfl, Enc.out (B := (b6255 :: [])) rfl⟩⟩
def rD : Device := (newM 0).1
def rE4 : Device := (newM 4).1
def rS : Device := (startM rD).1
def rE1 : Device := (actM rD ⟨0, 0, 0, 0, 0, 0⟩ 2).1
def rA : Device := (actM rD ⟨0, 1, 2, 3, 0, 1⟩ 2).1
def rE2 : Device := (actM rA ⟨0, 2, 2, 3, 0, 1⟩ 2).1
def rHalf : Device := (actM rD ⟨0, 1, 2, 3, 0, 1⟩ 1).1
def rE3 : Device := (startM rHalf).1
def rR : Device := restoreM rA rD.ops
def rBack : Device := (startM rR).1
def rE5 : Device := (actM rBack ⟨0, 2, 2, 4, 0, 1⟩ 2).1
set_option maxHeartbeats 4000000 in
set_option maxRecDepth 100000 in
theorem c_sane43 {O : List Nat} (w : World) (hO : ∀ b ∈ O, b < w.heap.size) : CallsK Try.prog 39 [] w (fun v _ => v = .bool (true)) :=  by
 have s0 : St w O w [] := St.start hO
 refine callsK_of 162 Try.func39 rfl rfl (of_decide_eq_true rfl) (fun F0 => ?_)
 refine cw_seq (?_)
 refine cw_region (by kernel_rfl) (wl_s (o_assign (Value.bool false) rfl (wl_nil (thenQ_n (?_)))))
 refine cw_seq (?_)
 refine cw_region (by kernel_rfl) (wl_s (o_callK (vs := [vI (0 : Int)]) enter_20 (c_new43 (O := [] ++ O) (0 : Int) w s0.lt) rfl s0 fun v6267 w6268 s6269 m6270 k6271 r6272 => (?_)))
 obtain ⟨cs6273, rfl, hs6274⟩ := r6272
 have hs6274 : Enc.device.rd w6268 ([] ++ O) cs6273 rD := hs6274
 refine wl_s (o_move (Value.tuple #[Value.agg cs6273.toArray, vI ((newM (0 : Int)).2)]) rfl (wl_s (o_extract (Value.agg cs6273.toArray) rfl rfl (wl_s (o_extract (vI ((newM (0 : Int)).2)) rfl rfl (wl_s (o_alloc [vI (0 : Int), vI (0 : Int), Value.slice none 0 0, Value.bool false] z_31 rfl s6269 fun b6275 w6276 e6281 s6277 m6278 k6279 bx6280 => (?_))))))))
 clear e6281
 have hs6274 : Enc.device.rd w6276 ((b6275 :: []) ++ O) cs6273 (rD) := Enc.mv Enc.device (x := rD) hs6274 m6278
 obtain ⟨d6287, rfl, hd6288⟩ := hs6274
 have := hd6288.len_le
 refine wl_n (o_store (vs := [vI rD.id, vI rD.counter, d6287, Value.bool rD.halted]) (.agg #[vI rD.id, vI rD.counter, d6287, Value.bool rD.halted]) rfl rfl rfl s_31 (fun u hu => by simp only [List.mem_cons, List.not_mem_nil, or_false] at hu; rcases hu with rfl | rfl | rfl | rfl <;> first | rfl | exact hd6288.oneCell) (by repeat (first | assumption | constructor)) bx6280 (of_decide_eq_true rfl) s6277 fun w6282 s6283 m6284 k6285 bx6286 => (?_))
 have hd6288 := hd6288.mv m6284
 refine wl_s (o_assign (vI ((newM (0 : Int)).2)) rfl (wl_nil (thenQ_n (?_))))
 refine cw_seq (?_)
 refine cw_region (by kernel_rfl) (wl_s (o_callK (vs := [vI (4 : Int)]) enter_20 (c_new43 (O := (b6275 :: []) ++ O) (4 : Int) w6282 s6283.lt) rfl s6283 fun v6289 w6290 s6291 m6292 k6293 r6294 => (?_)))
 obtain ⟨cs6295, rfl, hs6296⟩ := r6294
 have hs6296 : Enc.device.rd w6290 ((b6275 :: []) ++ O) cs6295 rE4 := hs6296
 have hd6288 := hd6288.mv m6292
 have bx6286 := bx6286.keep k6293 (by simp)
 refine wl_s (o_move (Value.tuple #[Value.agg cs6295.toArray, vI ((newM (4 : Int)).2)]) rfl (wl_s (o_extract (Value.agg cs6295.toArray) rfl rfl (wl_s (o_extract (vI ((newM (4 : Int)).2)) rfl rfl (wl_s (o_alloc [vI (0 : Int), vI (0 : Int), Value.slice none 0 0, Value.bool false] z_31 rfl s6291 fun b6297 w6298 e6303 s6299 m6300 k6301 bx6302 => (?_))))))))
 have ne6304 : NeB b6275 b6297 := by show b6275 ≠ b6297; have := bx6286.lt; omega
 clear e6303
 have hd6288 := hd6288.mv m6300
 have hs6296 : Enc.device.rd w6298 ((b6297 :: (b6275 :: [])) ++ O) cs6295 (rE4) := Enc.mv Enc.device (x := rE4) hs6296 m6300
 have bx6286 := bx6286.keep k6301 (by simp)
 obtain ⟨d6310, rfl, hd6311⟩ := hs6296
 have := hd6311.len_le
 refine wl_n (o_store (vs := [vI rE4.id, vI rE4.counter, d6310, Value.bool rE4.halted]) (.agg #[vI rE4.id, vI rE4.counter, d6310, Value.bool rE4.halted]) rfl rfl rfl s_31 (fun u hu => by simp only [List.mem_cons, List.not_mem_nil, or_false] at hu; rcases hu with rfl | rfl | rfl | rfl <;> first | rfl | exact hd6311.oneCell) (by repeat (first | assumption | constructor)) bx6302 (of_decide_eq_true rfl) s6299 fun w6305 s6306 m6307 k6308 bx6309 => (?_))
 have hd6288 := hd6288.mv m6307
 have bx6286 := bx6286.keep k6308 (nin1 ne6304)
 refine wl_s (o_assign (vI ((newM (4 : Int)).2)) rfl (wl_nil (thenQ_n (?_))))
 refine cw_seq (?_)
 refine cw_region (by kernel_rfl) (wl_s (o_loadBxA (vs := [vI rD.id, vI rD.counter, d6287, Value.bool rD.halted]) Try.underlying31 rfl s_31 rfl bx6286 rfl (wl_s (o_callK (vs := [Value.agg #[vI rD.id, vI rD.counter, d6287, Value.bool rD.halted]]) enter_44 (c_start (O := (b6297 :: (b6275 :: [])) ++ O) [vI rD.id, vI rD.counter, d6287, Value.bool rD.halted] rD w6305 ⟨_, rfl, hd6288⟩ s6306.lt) rfl s6306 fun v6312 w6313 s6314 m6315 k6316 r6317 => (?_)))))
 obtain ⟨cs6318, rfl, hs6319⟩ := r6317
 have hs6319 : Enc.device.rd w6313 ((b6297 :: (b6275 :: [])) ++ O) cs6318 rS := hs6319
 have hd6288 := hd6288.mv m6315
 have bx6286 := bx6286.keep k6316 (by simp)
 have bx6309 := bx6309.keep k6316 (by simp)
 refine wl_s (o_move (Value.tuple #[Value.agg cs6318.toArray, vI ((startM rD).2)]) rfl (wl_s (o_extract (Value.agg cs6318.toArray) rfl rfl (wl_s (o_extract (vI ((startM rD).2)) rfl rfl (wl_s (o_alloc [vI (0 : Int), vI (0 : Int), Value.slice none 0 0, Value.bool false] z_31 rfl s6314 fun b6320 w6321 e6326 s6322 m6323 k6324 bx6325 => (?_))))))))
 have ne6327 : NeB b6275 b6320 := by show b6275 ≠ b6320; have := bx6286.lt; omega
 have ne6328 : NeB b6297 b6320 := by show b6297 ≠ b6320; have := bx6309.lt; omega
 clear e6326
 have hd6288 := hd6288.mv m6323
 have hs6319 : Enc.device.rd w6321 ((b6320 :: (b6297 :: (b6275 :: []))) ++ O) cs6318 (rS) := Enc.mv Enc.device (x := rS) hs6319 m6323
 have bx6286 := bx6286.keep k6324 (by simp)
 have bx6309 := bx6309.keep k6324 (by simp)
 obtain ⟨d6334, rfl, hd6335⟩ := hs6319
 have := hd6335.len_le
 refine wl_n (o_store (vs := [vI rS.id, vI rS.counter, d6334, Value.bool rS.halted]) (.agg #[vI rS.id, vI rS.counter, d6334, Value.bool rS.halted]) rfl rfl rfl s_31 (fun u hu => by simp only [List.mem_cons, List.not_mem_nil, or_false] at hu; rcases hu with rfl | rfl | rfl | rfl <;> first | rfl | exact hd6335.oneCell) (by repeat (first | assumption | constructor)) bx6325 (of_decide_eq_true rfl) s6322 fun w6329 s6330 m6331 k6332 bx6333 => (?_))
 have hd6288 := hd6288.mv m6331
 have hd6335 := hd6335.mv m6331
 have bx6286 := bx6286.keep k6332 (nin1 ne6327)
 have bx6309 := bx6309.keep k6332 (nin1 ne6328)
 refine wl_s (o_assign (vI ((startM rD).2)) rfl (wl_nil (thenQ_n (?_))))
 refine cw_seq (?_)
 refine cw_region (by kernel_rfl) (wl_s (o_loadBxA (vs := [vI rD.id, vI rD.counter, d6287, Value.bool rD.halted]) Try.underlying31 rfl s_31 rfl bx6286 rfl (wl_s (o_build (l := []) pl_40 z_40 rfl [] [vI (0 : Int), vI (0 : Int), vI (0 : Int), vI (0 : Int), vI (0 : Int), vI (0 : Int)] rfl rfl (wl_s (o_callK (vs := [Value.agg #[vI rD.id, vI rD.counter, d6287, Value.bool rD.halted], Value.agg #[vI (0 : Int), vI (0 : Int), vI (0 : Int), vI (0 : Int), vI (0 : Int), vI (0 : Int)], vI (2 : Int)]) enter_40 (c_act (O := (b6320 :: (b6297 :: (b6275 :: []))) ++ O) [vI rD.id, vI rD.counter, d6287, Value.bool rD.halted] rD [vI (0 : Int), vI (0 : Int), vI (0 : Int), vI (0 : Int), vI (0 : Int), vI (0 : Int)] (⟨(0 : Int), (0 : Int), (0 : Int), (0 : Int), (0 : Int), (0 : Int)⟩ : DeviceOp) (2 : Int) w6329 ⟨_, rfl, hd6288⟩ rfl s6330.lt) rfl s6330 fun v6336 w6337 s6338 m6339 k6340 r6341 => (?_)))))))
 obtain ⟨cs6342, rfl, hs6343⟩ := r6341
 have hs6343 : Enc.device.rd w6337 ((b6320 :: (b6297 :: (b6275 :: []))) ++ O) cs6342 rE1 := hs6343
 have hd6288 := hd6288.mv m6339
 have hd6335 := hd6335.mv m6339
 have bx6286 := bx6286.keep k6340 (by simp)
 have bx6309 := bx6309.keep k6340 (by simp)
 have bx6333 := bx6333.keep k6340 (by simp)
 refine wl_s (o_move (Value.tuple #[Value.agg cs6342.toArray, vI ((actM rD (⟨(0 : Int), (0 : Int), (0 : Int), (0 : Int), (0 : Int), (0 : Int)⟩ : DeviceOp) (2 : Int)).2)]) rfl (wl_s (o_extract (Value.agg cs6342.toArray) rfl rfl (wl_s (o_extract (vI ((actM rD (⟨(0 : Int), (0 : Int), (0 : Int), (0 : Int), (0 : Int), (0 : Int)⟩ : DeviceOp) (2 : Int)).2)) rfl rfl (wl_s (o_alloc [vI (0 : Int), vI (0 : Int), Value.slice none 0 0, Value.bool false] z_31 rfl s6338 fun b6344 w6345 e6350 s6346 m6347 k6348 bx6349 => (?_))))))))
 have ne6351 : NeB b6275 b6344 := by show b6275 ≠ b6344; have := bx6286.lt; omega
 have ne6352 : NeB b6297 b6344 := by show b6297 ≠ b6344; have := bx6309.lt; omega
 have ne6353 : NeB b6320 b6344 := by show b6320 ≠ b6344; have := bx6333.lt; omega
 clear e6350
 have hd6288 := hd6288.mv m6347
 have hd6335 := hd6335.mv m6347
 have hs6343 : Enc.device.rd w6345 ((b6344 :: (b6320 :: (b6297 :: (b6275 :: [])))) ++ O) cs6342 (rE1) := Enc.mv Enc.device (x := rE1) hs6343 m6347
 have bx6286 := bx6286.keep k6348 (by simp)
 have bx6309 := bx6309.keep k6348 (by simp)
 have bx6333 := bx6333.keep k6348 (by simp)
 obtain ⟨d6359, rfl, hd6360⟩ := hs6343
 have := hd6360.len_le
 refine wl_n (o_store (vs := [vI rE1.id, vI rE1.counter, d6359, Value.bool rE1.halted]) (.agg #[vI rE1.id, vI rE1.counter, d6359, Value.bool rE1.halted]) rfl rfl rfl s_31 (fun u hu => by simp only [List.mem_cons, List.not_mem_nil, or_false] at hu; rcases hu with rfl | rfl | rfl | rfl <;> first | rfl | exact hd6360.oneCell) (by repeat (first | assumption | constructor)) bx6349 (of_decide_eq_true rfl) s6346 fun w6354 s6355 m6356 k6357 bx6358 => (?_))
 have hd6288 := hd6288.mv m6356
 have hd6335 := hd6335.mv m6356
 have bx6286 := bx6286.keep k6357 (nin1 ne6351)
 have bx6309 := bx6309.keep k6357 (nin1 ne6352)
 have bx6333 := bx6333.keep k6357 (nin1 ne6353)
 refine wl_s (o_assign (vI ((actM rD (⟨(0 : Int), (0 : Int), (0 : Int), (0 : Int), (0 : Int), (0 : Int)⟩ : DeviceOp) (2 : Int)).2)) rfl (wl_nil (thenQ_n (?_))))
 refine cw_cut (fun FI wI => ∃ (bnc47_9 : Nat) (vnc47_9_2 : Value) (B : List Nat), True ∧ (∃ F1, FI = upds F1 [(1, Value.pointer (some ⟨b6275, 0, none⟩)), (2, vI ((newM (0 : Int)).2)), (4, vI ((newM (4 : Int)).2)), (5, Value.pointer (some ⟨b6320, 0, none⟩)), (6, vI ((startM rD).2)), (8, vI ((actM rD (⟨(0 : Int), (0 : Int), (0 : Int), (0 : Int), (0 : Int), (0 : Int)⟩ : DeviceOp) (2 : Int)).2)), (9, Value.pointer (some ⟨bnc47_9, 0, none⟩)), (10, vI ((actM rD ⟨0, 1, 2, 3, 0, 1⟩ 2).2)), (162, undef)]) ∧ St w O wI B ∧ RdL Enc.devop wI (B ++ O) (d6287) (rD.ops) ∧ Box wI b6275 31 [vI rD.id, vI rD.counter, d6287, Value.bool rD.halted] ∧ b6275 ∈ B ∧ RdL Enc.devop wI (B ++ O) (d6334) (rS.ops) ∧ Box wI b6320 31 [vI rS.id, vI rS.counter, d6334, Value.bool rS.halted] ∧ b6320 ∈ B ∧ Box wI bnc47_9 31 [vI rA.id, vI rA.counter, vnc47_9_2, Value.bool rA.halted] ∧ RdL Enc.devop wI (B ++ O) vnc47_9_2 (rA.ops) ∧ bnc47_9 ∈ B ∧ NeB b6275 bnc47_9 ∧ NeB b6320 bnc47_9) ?_ ?_
 ·refine cw_drawUL 7 [5] _ _ _ [fun _ => isV (Value.agg #[vI rD.id, vI rD.counter, d6287, Value.bool rD.halted]), fun _ => isV (Value.agg #[vI (((⟨0, (1 : Int), 2, (3 : Int), 0, 1⟩ : DeviceOp)).device), vI (((⟨0, (1 : Int), 2, (3 : Int), 0, 1⟩ : DeviceOp)).no), vI (((⟨0, (1 : Int), 2, (3 : Int), 0, 1⟩ : DeviceOp)).kind), vI (((⟨0, (1 : Int), 2, (3 : Int), 0, 1⟩ : DeviceOp)).copy), vI (((⟨0, (1 : Int), 2, (3 : Int), 0, 1⟩ : DeviceOp)).to), vI (((⟨0, (1 : Int), 2, (3 : Int), 0, 1⟩ : DeviceOp)).token)]), fun (BT : List Nat) (vT : Value) (wT : World) => ∃ (xT0 : List Value), vT = .tuple #[.agg xT0.toArray, vI ((actM rD ((⟨0, (1 : Int), 2, (3 : Int), 0, 1⟩ : DeviceOp)) (2 : Int)).2)] ∧ Enc.device.rd wT (BT ++ O) xT0 (rA), fun (BT : List Nat) (vT : Value) (wT : World) => ∃ (xT0 : List Value), vT = .tuple #[.agg xT0.toArray, vI ((actM rD ((⟨0, (1 : Int), 2, (3 : Int), 0, 1⟩ : DeviceOp)) (2 : Int)).2)] ∧ Enc.device.rd wT (BT ++ O) xT0 (rA), fun (BT : List Nat) (vT : Value) (wT : World) => ∃ csT : List Value, vT = .agg csT.toArray ∧ Enc.device.rd wT (BT ++ O) csT (rA), fun _ => isV (vI ((actM rD ((⟨0, (1 : Int), 2, (3 : Int), 0, 1⟩ : DeviceOp)) (2 : Int)).2)), TBx w6354 31 [vI (0 : Int), vI (0 : Int), Value.slice none 0 0, Value.bool false]] [⟨0, [], [], [], false, []⟩, ⟨0, [], [], [], false, []⟩, ⟨1, [], [], [], false, [0, 1]⟩, ⟨1, [1], [], [], false, [2]⟩, ⟨1, [1], [], [], false, [3]⟩, ⟨0, [1], [], [], false, [3]⟩, ⟨2, [], [], [], false, []⟩] (b6344 :: (b6320 :: (b6297 :: (b6275 :: [])))) (by kernel_rfl) (by kernel_rfl) (by kernel_rfl) (by kernel_rfl) (by kernel_rfl) (by decide) rfl rfl rfl ⟨fun _ _ _ _ _ h => h, fun _ _ _ _ _ h => h, (show ∀ B B2 v w w2, (fun (BT : List Nat) (vT : Value) (wT : World) => ∃ (xT0 : List Value), vT = .tuple #[.agg xT0.toArray, vI ((actM rD ((⟨0, (1 : Int), 2, (3 : Int), 0, 1⟩ : DeviceOp)) (2 : Int)).2)] ∧ Enc.device.rd wT (BT ++ O) xT0 (rA)) B v w → Mv B w B2 w2 → (fun (BT : List Nat) (vT : Value) (wT : World) => ∃ (xT0 : List Value), vT = .tuple #[.agg xT0.toArray, vI ((actM rD ((⟨0, (1 : Int), 2, (3 : Int), 0, 1⟩ : DeviceOp)) (2 : Int)).2)] ∧ Enc.device.rd wT (BT ++ O) xT0 (rA)) B2 v w2 from fun _ _ _ _ _ ⟨y0, e, h0⟩ m => ⟨y0, e, Enc.mv _ h0 m⟩), (show ∀ B B2 v w w2, (fun (BT : List Nat) (vT : Value) (wT : World) => ∃ (xT0 : List Value), vT = .tuple #[.agg xT0.toArray, vI ((actM rD ((⟨0, (1 : Int), 2, (3 : Int), 0, 1⟩ : DeviceOp)) (2 : Int)).2)] ∧ Enc.device.rd wT (BT ++ O) xT0 (rA)) B v w → Mv B w B2 w2 → (fun (BT : List Nat) (vT : Value) (wT : World) => ∃ (xT0 : List Value), vT = .tuple #[.agg xT0.toArray, vI ((actM rD ((⟨0, (1 : Int), 2, (3 : Int), 0, 1⟩ : DeviceOp)) (2 : Int)).2)] ∧ Enc.device.rd wT (BT ++ O) xT0 (rA)) B2 v w2 from fun _ _ _ _ _ ⟨y0, e, h0⟩ m => ⟨y0, e, Enc.mv _ h0 m⟩), (show ∀ B B2 v w w2, (fun (BT : List Nat) (vT : Value) (wT : World) => ∃ csT : List Value, vT = .agg csT.toArray ∧ Enc.device.rd wT (BT ++ O) csT (rA)) B v w → Mv B w B2 w2 → (fun (BT : List Nat) (vT : Value) (wT : World) => ∃ csT : List Value, vT = .agg csT.toArray ∧ Enc.device.rd wT (BT ++ O) csT (rA)) B2 v w2 from fun _ _ _ _ _ ⟨a, e, h⟩ m => ⟨a, e, Enc.mv _ h m⟩), fun _ _ _ _ _ h => h, TBx.st, trivial⟩ ⟨?_, ?_, ?_, ?_, ?_, ?_, ?_, trivial⟩ ?_ ?_
  ·intro F1 w1 B1_ Bs_ k1 hs_ hl_ hr_ hsep_ hf hd
   have k0 := (Keep.drew [] w6354).trans k1
   have bx6286 := bx6286.keep k0 (by simp)
   obtain ⟨F2, rfl⟩ := lit_of (F := F1) [(1, Value.pointer (some ⟨b6275, 0, none⟩))] ⟨hf 1 (by kernel_rfl), trivial⟩
   exact sp_plain rfl ((o_loadBxA (vs := [vI rD.id, vI rD.counter, d6287, Value.bool rD.halted]) Try.underlying31 rfl s_31 rfl bx6286 rfl (⟨[], (Keep.refl _ _), noC, rfl⟩)))
  ·intro F1 w1 B1_ Bs_ k1 hs_ hl_ hr_ hsep_ hf hd
   have k0 := (Keep.drew [] w6354).trans k1
   have s1 := s6355.call k0
   obtain ⟨F2, rfl⟩ := lit_of (F := F1) [] trivial
   refine sp_plain rfl ((o_callK (vs := [vI (1 : Int), vI (3 : Int)]) enter_77 (c_show43 (O := (b6344 :: (b6320 :: (b6297 :: (b6275 :: [])))) ++ O) (1 : Int) (3 : Int) w1 s1.lt) rfl s1 fun v6361 w6362 s6363 m6364 k6365 r6366 => (?_)))
   obtain ⟨cs6367, rfl, hs6368⟩ := r6366
   obtain rfl := hs6368
   exact ⟨[], k6365, noC, rfl⟩
  ·intro F1 w1 B1_ Bs_ k1 hs_ hl_ hr_ hsep_ hf hd
   have k0 := (Keep.drew [] w6354).trans k1
   have s1 := s6355.adoptL k0 hl_
   have m1 : Mv (b6344 :: (b6320 :: (b6297 :: (b6275 :: [])))) w6354 B1_ w1 := Mv.adoptL k0 hl_
   have hd6288 := hd6288.mv m1
   obtain ⟨F2, rfl⟩ := lit_of (F := F1) [(41, Value.agg #[vI rD.id, vI rD.counter, d6287, Value.bool rD.halted]), (42, Value.agg #[vI (((⟨0, (1 : Int), 2, (3 : Int), 0, 1⟩ : DeviceOp)).device), vI (((⟨0, (1 : Int), 2, (3 : Int), 0, 1⟩ : DeviceOp)).no), vI (((⟨0, (1 : Int), 2, (3 : Int), 0, 1⟩ : DeviceOp)).kind), vI (((⟨0, (1 : Int), 2, (3 : Int), 0, 1⟩ : DeviceOp)).copy), vI (((⟨0, (1 : Int), 2, (3 : Int), 0, 1⟩ : DeviceOp)).to), vI (((⟨0, (1 : Int), 2, (3 : Int), 0, 1⟩ : DeviceOp)).token)])] ⟨hd 0 41 (by kernel_rfl) (by kernel_rfl), hd 1 42 (by kernel_rfl) (by kernel_rfl), trivial⟩
   refine sp_plain rfl ((o_callK (vs := [Value.agg #[vI rD.id, vI rD.counter, d6287, Value.bool rD.halted], Value.agg #[vI (((⟨0, (1 : Int), 2, (3 : Int), 0, 1⟩ : DeviceOp)).device), vI (((⟨0, (1 : Int), 2, (3 : Int), 0, 1⟩ : DeviceOp)).no), vI (((⟨0, (1 : Int), 2, (3 : Int), 0, 1⟩ : DeviceOp)).kind), vI (((⟨0, (1 : Int), 2, (3 : Int), 0, 1⟩ : DeviceOp)).copy), vI (((⟨0, (1 : Int), 2, (3 : Int), 0, 1⟩ : DeviceOp)).to), vI (((⟨0, (1 : Int), 2, (3 : Int), 0, 1⟩ : DeviceOp)).token)], vI (2 : Int)]) enter_40 (c_act (O := B1_ ++ O) [vI rD.id, vI rD.counter, d6287, Value.bool rD.halted] rD [vI (((⟨0, (1 : Int), 2, (3 : Int), 0, 1⟩ : DeviceOp)).device), vI (((⟨0, (1 : Int), 2, (3 : Int), 0, 1⟩ : DeviceOp)).no), vI (((⟨0, (1 : Int), 2, (3 : Int), 0, 1⟩ : DeviceOp)).kind), vI (((⟨0, (1 : Int), 2, (3 : Int), 0, 1⟩ : DeviceOp)).copy), vI (((⟨0, (1 : Int), 2, (3 : Int), 0, 1⟩ : DeviceOp)).to), vI (((⟨0, (1 : Int), 2, (3 : Int), 0, 1⟩ : DeviceOp)).token)] ((⟨0, (1 : Int), 2, (3 : Int), 0, 1⟩ : DeviceOp)) (2 : Int) w1 ⟨_, rfl, hd6288⟩ rfl s1.lt) rfl s1 fun v6369 w6370 s6371 m6372 k6373 r6374 => (?_)))
   obtain ⟨cs6375, rfl, hs6376⟩ := r6374
   have hs6376 : Enc.device.rd w6370 (B1_ ++ O) cs6375 rA := hs6376
   exact ⟨[], k6373, noC, ⟨cs6375, rfl, hs6376⟩⟩
  ·intro F1 w1 B1_ Bs_ k1 hs_ hl_ hr_ hsep_ hf hd
   obtain ⟨cs6377, e6379, hs6378⟩ : (fun (vT : Value) (wT : World) => ∃ (xT0 : List Value), vT = .tuple #[.agg xT0.toArray, vI ((actM rD ((⟨0, (1 : Int), 2, (3 : Int), 0, 1⟩ : DeviceOp)) (2 : Int)).2)] ∧ Enc.device.rd wT ((Bs_ 1) ++ O) xT0 (rA)) (F1 43) w1 := hd 2 43 (by kernel_rfl) (by kernel_rfl)
   have hs6378 : Enc.device.rd w1 (B1_ ++ O) cs6377 (rA) := Enc.mv Enc.device (x := rA) hs6378 (Mv.at_ (hr_ 1 (by kernel_rfl)))
   obtain ⟨F2, rfl⟩ := lit_of (F := F1) [(43, Value.tuple #[Value.agg cs6377.toArray, vI ((actM rD ((⟨0, (1 : Int), 2, (3 : Int), 0, 1⟩ : DeviceOp)) (2 : Int)).2)])] ⟨e6379, trivial⟩
   exact sp_plain rfl ((o_move (Value.tuple #[Value.agg cs6377.toArray, vI ((actM rD ((⟨0, (1 : Int), 2, (3 : Int), 0, 1⟩ : DeviceOp)) (2 : Int)).2)]) rfl (⟨[], (Keep.refl _ _), noC, ⟨cs6377, rfl, hs6378⟩⟩)))
  ·intro F1 w1 B1_ Bs_ k1 hs_ hl_ hr_ hsep_ hf hd
   obtain ⟨cs6380, e6382, hs6381⟩ : (fun (vT : Value) (wT : World) => ∃ (xT0 : List Value), vT = .tuple #[.agg xT0.toArray, vI ((actM rD ((⟨0, (1 : Int), 2, (3 : Int), 0, 1⟩ : DeviceOp)) (2 : Int)).2)] ∧ Enc.device.rd wT ((Bs_ 1) ++ O) xT0 (rA)) (F1 40) w1 := hd 3 40 (by kernel_rfl) (by kernel_rfl)
   have hs6381 : Enc.device.rd w1 (B1_ ++ O) cs6380 (rA) := Enc.mv Enc.device (x := rA) hs6381 (Mv.at_ (hr_ 1 (by kernel_rfl)))
   obtain ⟨F2, rfl⟩ := lit_of (F := F1) [(40, Value.tuple #[Value.agg cs6380.toArray, vI ((actM rD ((⟨0, (1 : Int), 2, (3 : Int), 0, 1⟩ : DeviceOp)) (2 : Int)).2)])] ⟨e6382, trivial⟩
   exact sp_plain rfl ((o_extract (Value.agg cs6380.toArray) rfl rfl (⟨[], (Keep.refl _ _), noC, ⟨cs6380, rfl, hs6381⟩⟩)))
  ·intro F1 w1 B1_ Bs_ k1 hs_ hl_ hr_ hsep_ hf hd
   obtain ⟨cs6383, e6385, hs6384⟩ : (fun (vT : Value) (wT : World) => ∃ (xT0 : List Value), vT = .tuple #[.agg xT0.toArray, vI ((actM rD ((⟨0, (1 : Int), 2, (3 : Int), 0, 1⟩ : DeviceOp)) (2 : Int)).2)] ∧ Enc.device.rd wT ((Bs_ 1) ++ O) xT0 (rA)) (F1 40) w1 := hd 3 40 (by kernel_rfl) (by kernel_rfl)
   obtain ⟨F2, rfl⟩ := lit_of (F := F1) [(40, Value.tuple #[Value.agg cs6383.toArray, vI ((actM rD ((⟨0, (1 : Int), 2, (3 : Int), 0, 1⟩ : DeviceOp)) (2 : Int)).2)])] ⟨e6385, trivial⟩
   exact sp_plain rfl ((o_extract (vI ((actM rD ((⟨0, (1 : Int), 2, (3 : Int), 0, 1⟩ : DeviceOp)) (2 : Int)).2)) rfl rfl (⟨[], (Keep.refl _ _), noC, rfl⟩)))
  ·intro F1 w1 B1_ Bs_ k1 hs_ hl_ hr_ hsep_ hf hd
   have k0 := (Keep.drew [] w6354).trans k1
   have s1 := s6355.adoptL k0 hl_
   obtain ⟨F2, rfl⟩ := lit_of (F := F1) [] trivial
   refine sp_plain rfl ((o_alloc [vI (0 : Int), vI (0 : Int), Value.slice none 0 0, Value.bool false] z_31 rfl s1 fun b6386 w6387 e6392 s6388 m6389 k6390 bx6391 => (?_)))
   have lo6393 : w6354.heap.size ≤ b6386 := by have := k0.size; omega
   exact ⟨[], k6390, noC, ⟨_, rfl, lo6393, (by intro h; have := lt_of s1 _ h; omega), bx6391⟩⟩
  ·intro F6395 w6396 Bs6401 k6394 hB6402 hl6403 sep6404 hT6397 hF6398
   obtain ⟨b6405, e6409, lo6406, hn6407, bx6410⟩ : (TBx w6354 31 [vI (0 : Int), vI (0 : Int), Value.slice none 0 0, Value.bool false]) (Bs6401 2) (F6395 9) w6396 := hT6397 6 9 (by kernel_rfl) (by decide) (by kernel_rfl) (by kernel_rfl)
   have hi6408 := bx6410.lt
   have hl6411 : ∀ x ∈ (b6344 :: (b6320 :: (b6297 :: (b6275 :: [])))), x ∈ (b6344 :: (b6320 :: (b6297 :: (b6275 :: [])))) ∨ (w6354.heap.size ≤ x ∧ x < w6396.heap.size) := fun x hx => .inl hx
   have hsu6412 : ∀ x ∈ (b6344 :: (b6320 :: (b6297 :: (b6275 :: [])))), x ∈ (b6344 :: (b6320 :: (b6297 :: (b6275 :: [])))) := fun x hx => hx
   have hq6413 : ∀ x ∈ (b6344 :: (b6320 :: (b6297 :: (b6275 :: [])))), x ∈ Bs6401 1 := fun x hx => hB6402 1 x hx
   have hq6414 : ∀ x ∈ (b6344 :: (b6320 :: (b6297 :: (b6275 :: [])))), x ∈ Bs6401 2 := fun x hx => hB6402 2 x hx
   have hl6415 : ∀ x ∈ (b6405 :: (b6344 :: (b6320 :: (b6297 :: (b6275 :: []))))), x ∈ (b6344 :: (b6320 :: (b6297 :: (b6275 :: [])))) ∨ (w6354.heap.size ≤ x ∧ x < w6396.heap.size) := fun x hx => by rcases List.mem_cons.1 hx with rfl | hx; exact .inr ⟨lo6406, hi6408⟩; exact hl6411 x hx
   have hsu6416 : ∀ x ∈ (b6344 :: (b6320 :: (b6297 :: (b6275 :: [])))), x ∈ (b6405 :: (b6344 :: (b6320 :: (b6297 :: (b6275 :: []))))) := fun x hx => List.mem_cons_of_mem _ (hsu6412 x hx)
   have hq6417 : ∀ x ∈ (b6405 :: (b6344 :: (b6320 :: (b6297 :: (b6275 :: []))))), x ∈ Bs6401 1 := fun x hx => by rcases List.mem_cons.1 hx with rfl | hx; exact sep6404 2 1 _ (by decide) lo6406 hi6408 hn6407; exact hq6413 x hx
   have s6399 := s6355.adoptL k6394 hl6415
   have m6400 : Mv (b6344 :: (b6320 :: (b6297 :: (b6275 :: [])))) w6354 (b6405 :: (b6344 :: (b6320 :: (b6297 :: (b6275 :: []))))) w6396 := Mv.adoptL k6394 hl6415
   have ne6418 : NeB b6275 b6405 := by show b6275 ≠ b6405; have := bx6286.lt; omega
   have ne6419 : NeB b6297 b6405 := by show b6297 ≠ b6405; have := bx6309.lt; omega
   have ne6420 : NeB b6320 b6405 := by show b6320 ≠ b6405; have := bx6333.lt; omega
   have ne6421 : NeB b6344 b6405 := by show b6344 ≠ b6405; have := bx6358.lt; omega
   obtain ⟨cs6422, e6424, hs6423⟩ : ∃ cs : List Value, F6395 44 = .agg cs.toArray ∧ Enc.device.rd w6396 ((Bs6401 1) ++ O) cs (rA) := hT6397 4 44 (by kernel_rfl) (by decide) (by kernel_rfl) (by kernel_rfl)
   have hs6423 : Enc.device.rd w6396 ((b6405 :: (b6344 :: (b6320 :: (b6297 :: (b6275 :: []))))) ++ O) cs6422 (rA) := Enc.mv Enc.device (x := rA) hs6423 (Mv.at_ hq6417)
   have hd6288 := hd6288.mv m6400
   have hd6335 := hd6335.mv m6400
   have bx6286 := bx6286.keep k6394 (by simp)
   have bx6333 := bx6333.keep k6394 (by simp)
   obtain ⟨F2, rfl⟩ := lit_of (F := F6395) [(1, Value.pointer (some ⟨b6275, 0, none⟩)), (2, vI ((newM (0 : Int)).2)), (4, vI ((newM (4 : Int)).2)), (5, Value.pointer (some ⟨b6320, 0, none⟩)), (6, vI ((startM rD).2)), (8, vI ((actM rD (⟨(0 : Int), (0 : Int), (0 : Int), (0 : Int), (0 : Int), (0 : Int)⟩ : DeviceOp) (2 : Int)).2)), (162, undef), (9, Value.pointer (some ⟨b6405, 0, none⟩)), (44, Value.agg cs6422.toArray), (45, vI ((actM rD ((⟨0, (1 : Int), 2, (3 : Int), 0, 1⟩ : DeviceOp)) (2 : Int)).2))] ⟨hF6398 1 (by kernel_rfl), hF6398 2 (by kernel_rfl), hF6398 4 (by kernel_rfl), hF6398 5 (by kernel_rfl), hF6398 6 (by kernel_rfl), hF6398 8 (by kernel_rfl), hF6398 162 (by kernel_rfl), e6409, e6424, hT6397 5 45 (by kernel_rfl) (by decide) (by kernel_rfl) (by kernel_rfl), trivial⟩
   clear hT6397 hF6398 hB6402 hl6403 sep6404
   obtain ⟨d6430, rfl, hd6431⟩ := hs6423
   have := hd6431.len_le
   refine wl_n (o_store (vs := [vI rA.id, vI rA.counter, d6430, Value.bool rA.halted]) (.agg #[vI rA.id, vI rA.counter, d6430, Value.bool rA.halted]) rfl rfl rfl s_31 (fun u hu => by simp only [List.mem_cons, List.not_mem_nil, or_false] at hu; rcases hu with rfl | rfl | rfl | rfl <;> first | rfl | exact hd6431.oneCell) (by repeat (first | assumption | constructor)) bx6410 (of_decide_eq_true rfl) s6399 fun w6425 s6426 m6427 k6428 bx6429 => (?_))
   have hd6431 := hd6431.mv m6427
   have hd6288 := hd6288.mv m6427
   have bx6286 := bx6286.keep k6428 (nin1 ne6418)
   have hd6335 := hd6335.mv m6427
   have bx6333 := bx6333.keep k6428 (nin1 ne6420)
   refine wl_s (o_assign (vI ((actM rD ((⟨0, (1 : Int), 2, (3 : Int), 0, 1⟩ : DeviceOp)) (2 : Int)).2)) rfl (wl_nil (thenQ_n (?_))))
   exact ⟨b6405, d6430, (b6405 :: (b6344 :: (b6320 :: (b6297 :: (b6275 :: []))))), trivial, ⟨_, upds_self _ ⟨rfl, rfl, rfl, rfl, rfl, rfl, rfl, (by first | rfl | exact congrArg (Value.int _) (by first | omega | (rfl))), rfl, trivial⟩⟩, s6426, hd6288, bx6286, (by first | assumption | (repeat (first | exact List.mem_cons_self | assumption | apply List.mem_cons_of_mem)) | (apply_assumption; assumption)), hd6335, bx6333, (by first | assumption | (repeat (first | exact List.mem_cons_self | assumption | apply List.mem_cons_of_mem)) | (apply_assumption; assumption)), bx6429, hd6431, (by repeat (first | assumption | constructor)), ne6418, ne6420⟩
  ·intro cx_ hcx_
   match cx_, hcx_ with
   | 0, _ =>
    intro F6433 w6434 Bs6439 k6432 hB6440 hl6441 sep6442 hT6435 hF6436
    obtain ⟨b6443, e6447, lo6444, hn6445, bx6448⟩ : (TBx w6354 31 [vI (0 : Int), vI (0 : Int), Value.slice none 0 0, Value.bool false]) (Bs6439 2) (F6433 9) w6434 := hT6435 6 9 (by kernel_rfl) (by decide) (by kernel_rfl) (by kernel_rfl)
    have hi6446 := bx6448.lt
    have hl6449 : ∀ x ∈ (b6344 :: (b6320 :: (b6297 :: (b6275 :: [])))), x ∈ (b6344 :: (b6320 :: (b6297 :: (b6275 :: [])))) ∨ (w6354.heap.size ≤ x ∧ x < w6434.heap.size) := fun x hx => .inl hx
    have hsu6450 : ∀ x ∈ (b6344 :: (b6320 :: (b6297 :: (b6275 :: [])))), x ∈ (b6344 :: (b6320 :: (b6297 :: (b6275 :: [])))) := fun x hx => hx
    have hq6451 : ∀ x ∈ (b6344 :: (b6320 :: (b6297 :: (b6275 :: [])))), x ∈ Bs6439 1 := fun x hx => hB6440 1 x hx
    have hq6452 : ∀ x ∈ (b6344 :: (b6320 :: (b6297 :: (b6275 :: [])))), x ∈ Bs6439 2 := fun x hx => hB6440 2 x hx
    have hl6453 : ∀ x ∈ (b6443 :: (b6344 :: (b6320 :: (b6297 :: (b6275 :: []))))), x ∈ (b6344 :: (b6320 :: (b6297 :: (b6275 :: [])))) ∨ (w6354.heap.size ≤ x ∧ x < w6434.heap.size) := fun x hx => by rcases List.mem_cons.1 hx with rfl | hx; exact .inr ⟨lo6444, hi6446⟩; exact hl6449 x hx
    have hsu6454 : ∀ x ∈ (b6344 :: (b6320 :: (b6297 :: (b6275 :: [])))), x ∈ (b6443 :: (b6344 :: (b6320 :: (b6297 :: (b6275 :: []))))) := fun x hx => List.mem_cons_of_mem _ (hsu6450 x hx)
    have hq6455 : ∀ x ∈ (b6443 :: (b6344 :: (b6320 :: (b6297 :: (b6275 :: []))))), x ∈ Bs6439 1 := fun x hx => by rcases List.mem_cons.1 hx with rfl | hx; exact sep6442 2 1 _ (by decide) lo6444 hi6446 hn6445; exact hq6451 x hx
    have s6437 := s6355.adoptL k6432 hl6453
    have m6438 : Mv (b6344 :: (b6320 :: (b6297 :: (b6275 :: [])))) w6354 (b6443 :: (b6344 :: (b6320 :: (b6297 :: (b6275 :: []))))) w6434 := Mv.adoptL k6432 hl6453
    have ne6456 : NeB b6275 b6443 := by show b6275 ≠ b6443; have := bx6286.lt; omega
    have ne6457 : NeB b6297 b6443 := by show b6297 ≠ b6443; have := bx6309.lt; omega
    have ne6458 : NeB b6320 b6443 := by show b6320 ≠ b6443; have := bx6333.lt; omega
    have ne6459 : NeB b6344 b6443 := by show b6344 ≠ b6443; have := bx6358.lt; omega
    obtain ⟨cs6460, e6462, hs6461⟩ : (fun (vT : Value) (wT : World) => ∃ (xT0 : List Value), vT = .tuple #[.agg xT0.toArray, vI ((actM rD ((⟨0, (1 : Int), 2, (3 : Int), 0, 1⟩ : DeviceOp)) (2 : Int)).2)] ∧ Enc.device.rd wT ((Bs6439 1) ++ O) xT0 (rA)) (F6433 40) w6434 := hT6435 3 40 (by kernel_rfl) (by decide) (by kernel_rfl) (by kernel_rfl)
    obtain ⟨cs6463, e6465, hs6464⟩ : ∃ cs : List Value, F6433 44 = .agg cs.toArray ∧ Enc.device.rd w6434 ((Bs6439 1) ++ O) cs (rA) := hT6435 4 44 (by kernel_rfl) (by decide) (by kernel_rfl) (by kernel_rfl)
    have hs6464 : Enc.device.rd w6434 ((b6443 :: (b6344 :: (b6320 :: (b6297 :: (b6275 :: []))))) ++ O) cs6463 (rA) := Enc.mv Enc.device (x := rA) hs6464 (Mv.at_ hq6455)
    have hd6288 := hd6288.mv m6438
    have hd6335 := hd6335.mv m6438
    have bx6286 := bx6286.keep k6432 (by simp)
    have bx6333 := bx6333.keep k6432 (by simp)
    obtain ⟨F2, rfl⟩ := lit_of (F := F6433) [(1, Value.pointer (some ⟨b6275, 0, none⟩)), (2, vI ((newM (0 : Int)).2)), (4, vI ((newM (4 : Int)).2)), (5, Value.pointer (some ⟨b6320, 0, none⟩)), (6, vI ((startM rD).2)), (8, vI ((actM rD (⟨(0 : Int), (0 : Int), (0 : Int), (0 : Int), (0 : Int), (0 : Int)⟩ : DeviceOp) (2 : Int)).2)), (162, undef), (9, Value.pointer (some ⟨b6443, 0, none⟩)), (40, Value.tuple #[Value.agg cs6460.toArray, vI ((actM rD ((⟨0, (1 : Int), 2, (3 : Int), 0, 1⟩ : DeviceOp)) (2 : Int)).2)]), (44, Value.agg cs6463.toArray)] ⟨hF6436 1 (by kernel_rfl), hF6436 2 (by kernel_rfl), hF6436 4 (by kernel_rfl), hF6436 5 (by kernel_rfl), hF6436 6 (by kernel_rfl), hF6436 8 (by kernel_rfl), hF6436 162 (by kernel_rfl), e6447, e6462, e6465, trivial⟩
    clear hT6435 hF6436 hB6440 hl6441 sep6442
    obtain ⟨d6471, rfl, hd6472⟩ := hs6464
    have := hd6472.len_le
    refine wl_n (o_store (vs := [vI rA.id, vI rA.counter, d6471, Value.bool rA.halted]) (.agg #[vI rA.id, vI rA.counter, d6471, Value.bool rA.halted]) rfl rfl rfl s_31 (fun u hu => by simp only [List.mem_cons, List.not_mem_nil, or_false] at hu; rcases hu with rfl | rfl | rfl | rfl <;> first | rfl | exact hd6472.oneCell) (by repeat (first | assumption | constructor)) bx6448 (of_decide_eq_true rfl) s6437 fun w6466 s6467 m6468 k6469 bx6470 => (?_))
    have hd6472 := hd6472.mv m6468
    have hd6288 := hd6288.mv m6468
    have bx6286 := bx6286.keep k6469 (nin1 ne6456)
    have hd6335 := hd6335.mv m6468
    have bx6333 := bx6333.keep k6469 (nin1 ne6458)
    refine wl_s (o_extract (vI ((actM rD ((⟨0, (1 : Int), 2, (3 : Int), 0, 1⟩ : DeviceOp)) (2 : Int)).2)) rfl rfl (wl_s (o_assign (vI ((actM rD ((⟨0, (1 : Int), 2, (3 : Int), 0, 1⟩ : DeviceOp)) (2 : Int)).2)) rfl (wl_nil (thenQ_n (?_))))))
    exact ⟨b6443, d6471, (b6443 :: (b6344 :: (b6320 :: (b6297 :: (b6275 :: []))))), trivial, ⟨_, upds_self _ ⟨rfl, rfl, rfl, rfl, rfl, rfl, rfl, (by first | rfl | exact congrArg (Value.int _) (by first | omega | (rfl))), rfl, trivial⟩⟩, s6467, hd6288, bx6286, (by first | assumption | (repeat (first | exact List.mem_cons_self | assumption | apply List.mem_cons_of_mem)) | (apply_assumption; assumption)), hd6335, bx6333, (by first | assumption | (repeat (first | exact List.mem_cons_self | assumption | apply List.mem_cons_of_mem)) | (apply_assumption; assumption)), bx6470, hd6472, (by repeat (first | assumption | constructor)), ne6456, ne6458⟩
 ·intro F wlc47 hI
  clear hd6288 bx6286 hd6335 bx6333
  obtain ⟨bnc47_9, vnc47_9_2, Blc47, hmc47, ⟨Flc47, rfl⟩, slc47, hd6288, bx6286, hin_b6275, hd6335, bx6333, hin_b6320, hbn_bnc47_9, hvnc47_9_2, hin_bnc47_9, nebnc47_9_b6275, nebnc47_9_b6320⟩ := hI
  have := hvnc47_9_2.len_le
  refine cw_cut (fun FI wI => ∃ (B : List Nat), True ∧ (∃ F1, FI = upds F1 [(1, Value.pointer (some ⟨b6275, 0, none⟩)), (2, vI ((newM (0 : Int)).2)), (4, vI ((newM (4 : Int)).2)), (5, Value.pointer (some ⟨b6320, 0, none⟩)), (6, vI ((startM rD).2)), (8, vI ((actM rD (⟨(0 : Int), (0 : Int), (0 : Int), (0 : Int), (0 : Int), (0 : Int)⟩ : DeviceOp) (2 : Int)).2)), (9, Value.pointer (some ⟨bnc47_9, 0, none⟩)), (10, vI ((actM rD ⟨0, 1, 2, 3, 0, 1⟩ 2).2)), (12, vI ((actM rA ⟨0, 2, 2, 3, 0, 1⟩ 2).2)), (162, undef)]) ∧ St w O wI B ∧ RdL Enc.devop wI (B ++ O) (d6287) (rD.ops) ∧ Box wI b6275 31 [vI rD.id, vI rD.counter, d6287, Value.bool rD.halted] ∧ b6275 ∈ B ∧ RdL Enc.devop wI (B ++ O) (d6334) (rS.ops) ∧ Box wI b6320 31 [vI rS.id, vI rS.counter, d6334, Value.bool rS.halted] ∧ b6320 ∈ B ∧ RdL Enc.devop wI (B ++ O) (vnc47_9_2) (rA.ops) ∧ Box wI bnc47_9 31 [vI rA.id, vI rA.counter, vnc47_9_2, Value.bool rA.halted] ∧ bnc47_9 ∈ B) ?_ ?_
  ·refine cw_drawUL 7 [5] _ _ _ [fun _ => isV (Value.agg #[vI rA.id, vI rA.counter, vnc47_9_2, Value.bool rA.halted]), fun _ => isV (Value.agg #[vI (((⟨0, (2 : Int), 2, (3 : Int), 0, 1⟩ : DeviceOp)).device), vI (((⟨0, (2 : Int), 2, (3 : Int), 0, 1⟩ : DeviceOp)).no), vI (((⟨0, (2 : Int), 2, (3 : Int), 0, 1⟩ : DeviceOp)).kind), vI (((⟨0, (2 : Int), 2, (3 : Int), 0, 1⟩ : DeviceOp)).copy), vI (((⟨0, (2 : Int), 2, (3 : Int), 0, 1⟩ : DeviceOp)).to), vI (((⟨0, (2 : Int), 2, (3 : Int), 0, 1⟩ : DeviceOp)).token)]), fun (BT : List Nat) (vT : Value) (wT : World) => ∃ (xT0 : List Value), vT = .tuple #[.agg xT0.toArray, vI ((actM rA ((⟨0, (2 : Int), 2, (3 : Int), 0, 1⟩ : DeviceOp)) (2 : Int)).2)] ∧ Enc.device.rd wT (BT ++ O) xT0 (rE2), fun (BT : List Nat) (vT : Value) (wT : World) => ∃ (xT0 : List Value), vT = .tuple #[.agg xT0.toArray, vI ((actM rA ((⟨0, (2 : Int), 2, (3 : Int), 0, 1⟩ : DeviceOp)) (2 : Int)).2)] ∧ Enc.device.rd wT (BT ++ O) xT0 (rE2), fun (BT : List Nat) (vT : Value) (wT : World) => ∃ csT : List Value, vT = .agg csT.toArray ∧ Enc.device.rd wT (BT ++ O) csT (rE2), fun _ => isV (vI ((actM rA ((⟨0, (2 : Int), 2, (3 : Int), 0, 1⟩ : DeviceOp)) (2 : Int)).2)), TBx wlc47 31 [vI (0 : Int), vI (0 : Int), Value.slice none 0 0, Value.bool false]] [⟨0, [], [], [], false, []⟩, ⟨0, [], [], [], false, []⟩, ⟨1, [], [], [], false, [0, 1]⟩, ⟨1, [1], [], [], false, [2]⟩, ⟨1, [1], [], [], false, [3]⟩, ⟨0, [1], [], [], false, [3]⟩, ⟨2, [], [], [], false, []⟩] Blc47 (by kernel_rfl) (by kernel_rfl) (by kernel_rfl) (by kernel_rfl) (by kernel_rfl) (by decide) rfl rfl rfl ⟨fun _ _ _ _ _ h => h, fun _ _ _ _ _ h => h, (show ∀ B B2 v w w2, (fun (BT : List Nat) (vT : Value) (wT : World) => ∃ (xT0 : List Value), vT = .tuple #[.agg xT0.toArray, vI ((actM rA ((⟨0, (2 : Int), 2, (3 : Int), 0, 1⟩ : DeviceOp)) (2 : Int)).2)] ∧ Enc.device.rd wT (BT ++ O) xT0 (rE2)) B v w → Mv B w B2 w2 → (fun (BT : List Nat) (vT : Value) (wT : World) => ∃ (xT0 : List Value), vT = .tuple #[.agg xT0.toArray, vI ((actM rA ((⟨0, (2 : Int), 2, (3 : Int), 0, 1⟩ : DeviceOp)) (2 : Int)).2)] ∧ Enc.device.rd wT (BT ++ O) xT0 (rE2)) B2 v w2 from fun _ _ _ _ _ ⟨y0, e, h0⟩ m => ⟨y0, e, Enc.mv _ h0 m⟩), (show ∀ B B2 v w w2, (fun (BT : List Nat) (vT : Value) (wT : World) => ∃ (xT0 : List Value), vT = .tuple #[.agg xT0.toArray, vI ((actM rA ((⟨0, (2 : Int), 2, (3 : Int), 0, 1⟩ : DeviceOp)) (2 : Int)).2)] ∧ Enc.device.rd wT (BT ++ O) xT0 (rE2)) B v w → Mv B w B2 w2 → (fun (BT : List Nat) (vT : Value) (wT : World) => ∃ (xT0 : List Value), vT = .tuple #[.agg xT0.toArray, vI ((actM rA ((⟨0, (2 : Int), 2, (3 : Int), 0, 1⟩ : DeviceOp)) (2 : Int)).2)] ∧ Enc.device.rd wT (BT ++ O) xT0 (rE2)) B2 v w2 from fun _ _ _ _ _ ⟨y0, e, h0⟩ m => ⟨y0, e, Enc.mv _ h0 m⟩), (show ∀ B B2 v w w2, (fun (BT : List Nat) (vT : Value) (wT : World) => ∃ csT : List Value, vT = .agg csT.toArray ∧ Enc.device.rd wT (BT ++ O) csT (rE2)) B v w → Mv B w B2 w2 → (fun (BT : List Nat) (vT : Value) (wT : World) => ∃ csT : List Value, vT = .agg csT.toArray ∧ Enc.device.rd wT (BT ++ O) csT (rE2)) B2 v w2 from fun _ _ _ _ _ ⟨a, e, h⟩ m => ⟨a, e, Enc.mv _ h m⟩), fun _ _ _ _ _ h => h, TBx.st, trivial⟩ ⟨?_, ?_, ?_, ?_, ?_, ?_, ?_, trivial⟩ ?_ ?_
   ·intro F1 w1 B1_ Bs_ k1 hs_ hl_ hr_ hsep_ hf hd
    have k0 := (Keep.drew [] wlc47).trans k1
    have hbn_bnc47_9 := hbn_bnc47_9.keep k0 (by simp)
    obtain ⟨F2, rfl⟩ := lit_of (F := F1) [(9, Value.pointer (some ⟨bnc47_9, 0, none⟩))] ⟨hf 9 (by kernel_rfl), trivial⟩
    exact sp_plain rfl ((o_loadBxA (vs := [vI rA.id, vI rA.counter, vnc47_9_2, Value.bool rA.halted]) Try.underlying31 rfl s_31 rfl hbn_bnc47_9 rfl (⟨[], (Keep.refl _ _), noC, rfl⟩)))
   ·intro F1 w1 B1_ Bs_ k1 hs_ hl_ hr_ hsep_ hf hd
    have k0 := (Keep.drew [] wlc47).trans k1
    have s1 := slc47.call k0
    obtain ⟨F2, rfl⟩ := lit_of (F := F1) [] trivial
    refine sp_plain rfl ((o_callK (vs := [vI (2 : Int), vI (3 : Int)]) enter_77 (c_show43 (O := Blc47 ++ O) (2 : Int) (3 : Int) w1 s1.lt) rfl s1 fun v6473 w6474 s6475 m6476 k6477 r6478 => (?_)))
    obtain ⟨cs6479, rfl, hs6480⟩ := r6478
    obtain rfl := hs6480
    exact ⟨[], k6477, noC, rfl⟩
   ·intro F1 w1 B1_ Bs_ k1 hs_ hl_ hr_ hsep_ hf hd
    have k0 := (Keep.drew [] wlc47).trans k1
    have s1 := slc47.adoptL k0 hl_
    have m1 : Mv Blc47 wlc47 B1_ w1 := Mv.adoptL k0 hl_
    have hvnc47_9_2 := hvnc47_9_2.mv m1
    obtain ⟨F2, rfl⟩ := lit_of (F := F1) [(47, Value.agg #[vI rA.id, vI rA.counter, vnc47_9_2, Value.bool rA.halted]), (48, Value.agg #[vI (((⟨0, (2 : Int), 2, (3 : Int), 0, 1⟩ : DeviceOp)).device), vI (((⟨0, (2 : Int), 2, (3 : Int), 0, 1⟩ : DeviceOp)).no), vI (((⟨0, (2 : Int), 2, (3 : Int), 0, 1⟩ : DeviceOp)).kind), vI (((⟨0, (2 : Int), 2, (3 : Int), 0, 1⟩ : DeviceOp)).copy), vI (((⟨0, (2 : Int), 2, (3 : Int), 0, 1⟩ : DeviceOp)).to), vI (((⟨0, (2 : Int), 2, (3 : Int), 0, 1⟩ : DeviceOp)).token)])] ⟨hd 0 47 (by kernel_rfl) (by kernel_rfl), hd 1 48 (by kernel_rfl) (by kernel_rfl), trivial⟩
    refine sp_plain rfl ((o_callK (vs := [Value.agg #[vI rA.id, vI rA.counter, vnc47_9_2, Value.bool rA.halted], Value.agg #[vI (((⟨0, (2 : Int), 2, (3 : Int), 0, 1⟩ : DeviceOp)).device), vI (((⟨0, (2 : Int), 2, (3 : Int), 0, 1⟩ : DeviceOp)).no), vI (((⟨0, (2 : Int), 2, (3 : Int), 0, 1⟩ : DeviceOp)).kind), vI (((⟨0, (2 : Int), 2, (3 : Int), 0, 1⟩ : DeviceOp)).copy), vI (((⟨0, (2 : Int), 2, (3 : Int), 0, 1⟩ : DeviceOp)).to), vI (((⟨0, (2 : Int), 2, (3 : Int), 0, 1⟩ : DeviceOp)).token)], vI (2 : Int)]) enter_40 (c_act (O := B1_ ++ O) [vI rA.id, vI rA.counter, vnc47_9_2, Value.bool rA.halted] rA [vI (((⟨0, (2 : Int), 2, (3 : Int), 0, 1⟩ : DeviceOp)).device), vI (((⟨0, (2 : Int), 2, (3 : Int), 0, 1⟩ : DeviceOp)).no), vI (((⟨0, (2 : Int), 2, (3 : Int), 0, 1⟩ : DeviceOp)).kind), vI (((⟨0, (2 : Int), 2, (3 : Int), 0, 1⟩ : DeviceOp)).copy), vI (((⟨0, (2 : Int), 2, (3 : Int), 0, 1⟩ : DeviceOp)).to), vI (((⟨0, (2 : Int), 2, (3 : Int), 0, 1⟩ : DeviceOp)).token)] ((⟨0, (2 : Int), 2, (3 : Int), 0, 1⟩ : DeviceOp)) (2 : Int) w1 ⟨_, rfl, hvnc47_9_2⟩ rfl s1.lt) rfl s1 fun v6481 w6482 s6483 m6484 k6485 r6486 => (?_)))
    obtain ⟨cs6487, rfl, hs6488⟩ := r6486
    have hs6488 : Enc.device.rd w6482 (B1_ ++ O) cs6487 rE2 := hs6488
    exact ⟨[], k6485, noC, ⟨cs6487, rfl, hs6488⟩⟩
   ·intro F1 w1 B1_ Bs_ k1 hs_ hl_ hr_ hsep_ hf hd
    obtain ⟨cs6489, e6491, hs6490⟩ : (fun (vT : Value) (wT : World) => ∃ (xT0 : List Value), vT = .tuple #[.agg xT0.toArray, vI ((actM rA ((⟨0, (2 : Int), 2, (3 : Int), 0, 1⟩ : DeviceOp)) (2 : Int)).2)] ∧ Enc.device.rd wT ((Bs_ 1) ++ O) xT0 (rE2)) (F1 49) w1 := hd 2 49 (by kernel_rfl) (by kernel_rfl)
    have hs6490 : Enc.device.rd w1 (B1_ ++ O) cs6489 (rE2) := Enc.mv Enc.device (x := rE2) hs6490 (Mv.at_ (hr_ 1 (by kernel_rfl)))
    obtain ⟨F2, rfl⟩ := lit_of (F := F1) [(49, Value.tuple #[Value.agg cs6489.toArray, vI ((actM rA ((⟨0, (2 : Int), 2, (3 : Int), 0, 1⟩ : DeviceOp)) (2 : Int)).2)])] ⟨e6491, trivial⟩
    exact sp_plain rfl ((o_move (Value.tuple #[Value.agg cs6489.toArray, vI ((actM rA ((⟨0, (2 : Int), 2, (3 : Int), 0, 1⟩ : DeviceOp)) (2 : Int)).2)]) rfl (⟨[], (Keep.refl _ _), noC, ⟨cs6489, rfl, hs6490⟩⟩)))
   ·intro F1 w1 B1_ Bs_ k1 hs_ hl_ hr_ hsep_ hf hd
    obtain ⟨cs6492, e6494, hs6493⟩ : (fun (vT : Value) (wT : World) => ∃ (xT0 : List Value), vT = .tuple #[.agg xT0.toArray, vI ((actM rA ((⟨0, (2 : Int), 2, (3 : Int), 0, 1⟩ : DeviceOp)) (2 : Int)).2)] ∧ Enc.device.rd wT ((Bs_ 1) ++ O) xT0 (rE2)) (F1 46) w1 := hd 3 46 (by kernel_rfl) (by kernel_rfl)
    have hs6493 : Enc.device.rd w1 (B1_ ++ O) cs6492 (rE2) := Enc.mv Enc.device (x := rE2) hs6493 (Mv.at_ (hr_ 1 (by kernel_rfl)))
    obtain ⟨F2, rfl⟩ := lit_of (F := F1) [(46, Value.tuple #[Value.agg cs6492.toArray, vI ((actM rA ((⟨0, (2 : Int), 2, (3 : Int), 0, 1⟩ : DeviceOp)) (2 : Int)).2)])] ⟨e6494, trivial⟩
    exact sp_plain rfl ((o_extract (Value.agg cs6492.toArray) rfl rfl (⟨[], (Keep.refl _ _), noC, ⟨cs6492, rfl, hs6493⟩⟩)))
   ·intro F1 w1 B1_ Bs_ k1 hs_ hl_ hr_ hsep_ hf hd
    obtain ⟨cs6495, e6497, hs6496⟩ : (fun (vT : Value) (wT : World) => ∃ (xT0 : List Value), vT = .tuple #[.agg xT0.toArray, vI ((actM rA ((⟨0, (2 : Int), 2, (3 : Int), 0, 1⟩ : DeviceOp)) (2 : Int)).2)] ∧ Enc.device.rd wT ((Bs_ 1) ++ O) xT0 (rE2)) (F1 46) w1 := hd 3 46 (by kernel_rfl) (by kernel_rfl)
    obtain ⟨F2, rfl⟩ := lit_of (F := F1) [(46, Value.tuple #[Value.agg cs6495.toArray, vI ((actM rA ((⟨0, (2 : Int), 2, (3 : Int), 0, 1⟩ : DeviceOp)) (2 : Int)).2)])] ⟨e6497, trivial⟩
    exact sp_plain rfl ((o_extract (vI ((actM rA ((⟨0, (2 : Int), 2, (3 : Int), 0, 1⟩ : DeviceOp)) (2 : Int)).2)) rfl rfl (⟨[], (Keep.refl _ _), noC, rfl⟩)))
   ·intro F1 w1 B1_ Bs_ k1 hs_ hl_ hr_ hsep_ hf hd
    have k0 := (Keep.drew [] wlc47).trans k1
    have s1 := slc47.adoptL k0 hl_
    obtain ⟨F2, rfl⟩ := lit_of (F := F1) [] trivial
    refine sp_plain rfl ((o_alloc [vI (0 : Int), vI (0 : Int), Value.slice none 0 0, Value.bool false] z_31 rfl s1 fun b6498 w6499 e6504 s6500 m6501 k6502 bx6503 => (?_)))
    have lo6505 : wlc47.heap.size ≤ b6498 := by have := k0.size; omega
    exact ⟨[], k6502, noC, ⟨_, rfl, lo6505, (by intro h; have := lt_of s1 _ h; omega), bx6503⟩⟩
   ·intro F6507 w6508 Bs6513 k6506 hB6514 hl6515 sep6516 hT6509 hF6510
    obtain ⟨b6517, e6521, lo6518, hn6519, bx6522⟩ : (TBx wlc47 31 [vI (0 : Int), vI (0 : Int), Value.slice none 0 0, Value.bool false]) (Bs6513 2) (F6507 11) w6508 := hT6509 6 11 (by kernel_rfl) (by decide) (by kernel_rfl) (by kernel_rfl)
    have hi6520 := bx6522.lt
    have hl6523 : ∀ x ∈ Blc47, x ∈ Blc47 ∨ (wlc47.heap.size ≤ x ∧ x < w6508.heap.size) := fun x hx => .inl hx
    have hsu6524 : ∀ x ∈ Blc47, x ∈ Blc47 := fun x hx => hx
    have hq6525 : ∀ x ∈ Blc47, x ∈ Bs6513 1 := fun x hx => hB6514 1 x hx
    have hq6526 : ∀ x ∈ Blc47, x ∈ Bs6513 2 := fun x hx => hB6514 2 x hx
    have hl6527 : ∀ x ∈ (b6517 :: Blc47), x ∈ Blc47 ∨ (wlc47.heap.size ≤ x ∧ x < w6508.heap.size) := fun x hx => by rcases List.mem_cons.1 hx with rfl | hx; exact .inr ⟨lo6518, hi6520⟩; exact hl6523 x hx
    have hsu6528 : ∀ x ∈ Blc47, x ∈ (b6517 :: Blc47) := fun x hx => List.mem_cons_of_mem _ (hsu6524 x hx)
    have hq6529 : ∀ x ∈ (b6517 :: Blc47), x ∈ Bs6513 1 := fun x hx => by rcases List.mem_cons.1 hx with rfl | hx; exact sep6516 2 1 _ (by decide) lo6518 hi6520 hn6519; exact hq6525 x hx
    have s6511 := slc47.adoptL k6506 hl6527
    have m6512 : Mv Blc47 wlc47 (b6517 :: Blc47) w6508 := Mv.adoptL k6506 hl6527
    have ne6530 : NeB b6275 b6517 := by show b6275 ≠ b6517; have := bx6286.lt; omega
    have ne6531 : NeB b6320 b6517 := by show b6320 ≠ b6517; have := bx6333.lt; omega
    have ne6532 : NeB bnc47_9 b6517 := by show bnc47_9 ≠ b6517; have := hbn_bnc47_9.lt; omega
    obtain ⟨cs6533, e6535, hs6534⟩ : ∃ cs : List Value, F6507 50 = .agg cs.toArray ∧ Enc.device.rd w6508 ((Bs6513 1) ++ O) cs (rE2) := hT6509 4 50 (by kernel_rfl) (by decide) (by kernel_rfl) (by kernel_rfl)
    have hs6534 : Enc.device.rd w6508 ((b6517 :: Blc47) ++ O) cs6533 (rE2) := Enc.mv Enc.device (x := rE2) hs6534 (Mv.at_ hq6529)
    have hd6288 := hd6288.mv m6512
    have bx6286 := bx6286.keep k6506 (by simp)
    have hd6335 := hd6335.mv m6512
    have bx6333 := bx6333.keep k6506 (by simp)
    have hvnc47_9_2 := hvnc47_9_2.mv m6512
    have hbn_bnc47_9 := hbn_bnc47_9.keep k6506 (by simp)
    obtain ⟨F2, rfl⟩ := lit_of (F := F6507) [(1, Value.pointer (some ⟨b6275, 0, none⟩)), (2, vI ((newM (0 : Int)).2)), (4, vI ((newM (4 : Int)).2)), (5, Value.pointer (some ⟨b6320, 0, none⟩)), (6, vI ((startM rD).2)), (8, vI ((actM rD (⟨(0 : Int), (0 : Int), (0 : Int), (0 : Int), (0 : Int), (0 : Int)⟩ : DeviceOp) (2 : Int)).2)), (9, Value.pointer (some ⟨bnc47_9, 0, none⟩)), (10, vI ((actM rD ⟨0, 1, 2, 3, 0, 1⟩ 2).2)), (162, undef), (11, Value.pointer (some ⟨b6517, 0, none⟩)), (50, Value.agg cs6533.toArray), (51, vI ((actM rA ((⟨0, (2 : Int), 2, (3 : Int), 0, 1⟩ : DeviceOp)) (2 : Int)).2))] ⟨hF6510 1 (by kernel_rfl), hF6510 2 (by kernel_rfl), hF6510 4 (by kernel_rfl), hF6510 5 (by kernel_rfl), hF6510 6 (by kernel_rfl), hF6510 8 (by kernel_rfl), hF6510 9 (by kernel_rfl), hF6510 10 (by kernel_rfl), hF6510 162 (by kernel_rfl), e6521, e6535, hT6509 5 51 (by kernel_rfl) (by decide) (by kernel_rfl) (by kernel_rfl), trivial⟩
    clear hT6509 hF6510 hB6514 hl6515 sep6516
    obtain ⟨d6541, rfl, hd6542⟩ := hs6534
    have := hd6542.len_le
    refine wl_n (o_store (vs := [vI rE2.id, vI rE2.counter, d6541, Value.bool rE2.halted]) (.agg #[vI rE2.id, vI rE2.counter, d6541, Value.bool rE2.halted]) rfl rfl rfl s_31 (fun u hu => by simp only [List.mem_cons, List.not_mem_nil, or_false] at hu; rcases hu with rfl | rfl | rfl | rfl <;> first | rfl | exact hd6542.oneCell) (by repeat (first | assumption | constructor)) bx6522 (of_decide_eq_true rfl) s6511 fun w6536 s6537 m6538 k6539 bx6540 => (?_))
    have hd6288 := hd6288.mv m6538
    have bx6286 := bx6286.keep k6539 (nin1 ne6530)
    have hd6335 := hd6335.mv m6538
    have bx6333 := bx6333.keep k6539 (nin1 ne6531)
    have hvnc47_9_2 := hvnc47_9_2.mv m6538
    have hbn_bnc47_9 := hbn_bnc47_9.keep k6539 (nin1 ne6532)
    refine wl_s (o_assign (vI ((actM rA ((⟨0, (2 : Int), 2, (3 : Int), 0, 1⟩ : DeviceOp)) (2 : Int)).2)) rfl (wl_nil (thenQ_n (?_))))
    exact ⟨(b6517 :: Blc47), trivial, ⟨_, upds_self _ ⟨rfl, rfl, rfl, rfl, rfl, rfl, rfl, rfl, (by first | rfl | exact congrArg (Value.int _) (by first | omega | (rfl))), rfl, trivial⟩⟩, s6537, hd6288, bx6286, (by first | assumption | (repeat (first | exact List.mem_cons_self | assumption | apply List.mem_cons_of_mem)) | (apply_assumption; assumption)), hd6335, bx6333, (by first | assumption | (repeat (first | exact List.mem_cons_self | assumption | apply List.mem_cons_of_mem)) | (apply_assumption; assumption)), hvnc47_9_2, hbn_bnc47_9, (by first | assumption | (repeat (first | exact List.mem_cons_self | assumption | apply List.mem_cons_of_mem)) | (apply_assumption; assumption))⟩
   ·intro cx_ hcx_
    match cx_, hcx_ with
    | 0, _ =>
     intro F6544 w6545 Bs6550 k6543 hB6551 hl6552 sep6553 hT6546 hF6547
     obtain ⟨b6554, e6558, lo6555, hn6556, bx6559⟩ : (TBx wlc47 31 [vI (0 : Int), vI (0 : Int), Value.slice none 0 0, Value.bool false]) (Bs6550 2) (F6544 11) w6545 := hT6546 6 11 (by kernel_rfl) (by decide) (by kernel_rfl) (by kernel_rfl)
     have hi6557 := bx6559.lt
     have hl6560 : ∀ x ∈ Blc47, x ∈ Blc47 ∨ (wlc47.heap.size ≤ x ∧ x < w6545.heap.size) := fun x hx => .inl hx
     have hsu6561 : ∀ x ∈ Blc47, x ∈ Blc47 := fun x hx => hx
     have hq6562 : ∀ x ∈ Blc47, x ∈ Bs6550 1 := fun x hx => hB6551 1 x hx
     have hq6563 : ∀ x ∈ Blc47, x ∈ Bs6550 2 := fun x hx => hB6551 2 x hx
     have hl6564 : ∀ x ∈ (b6554 :: Blc47), x ∈ Blc47 ∨ (wlc47.heap.size ≤ x ∧ x < w6545.heap.size) := fun x hx => by rcases List.mem_cons.1 hx with rfl | hx; exact .inr ⟨lo6555, hi6557⟩; exact hl6560 x hx
     have hsu6565 : ∀ x ∈ Blc47, x ∈ (b6554 :: Blc47) := fun x hx => List.mem_cons_of_mem _ (hsu6561 x hx)
     have hq6566 : ∀ x ∈ (b6554 :: Blc47), x ∈ Bs6550 1 := fun x hx => by rcases List.mem_cons.1 hx with rfl | hx; exact sep6553 2 1 _ (by decide) lo6555 hi6557 hn6556; exact hq6562 x hx
     have s6548 := slc47.adoptL k6543 hl6564
     have m6549 : Mv Blc47 wlc47 (b6554 :: Blc47) w6545 := Mv.adoptL k6543 hl6564
     have ne6567 : NeB b6275 b6554 := by show b6275 ≠ b6554; have := bx6286.lt; omega
     have ne6568 : NeB b6320 b6554 := by show b6320 ≠ b6554; have := bx6333.lt; omega
     have ne6569 : NeB bnc47_9 b6554 := by show bnc47_9 ≠ b6554; have := hbn_bnc47_9.lt; omega
     obtain ⟨cs6570, e6572, hs6571⟩ : (fun (vT : Value) (wT : World) => ∃ (xT0 : List Value), vT = .tuple #[.agg xT0.toArray, vI ((actM rA ((⟨0, (2 : Int), 2, (3 : Int), 0, 1⟩ : DeviceOp)) (2 : Int)).2)] ∧ Enc.device.rd wT ((Bs6550 1) ++ O) xT0 (rE2)) (F6544 46) w6545 := hT6546 3 46 (by kernel_rfl) (by decide) (by kernel_rfl) (by kernel_rfl)
     obtain ⟨cs6573, e6575, hs6574⟩ : ∃ cs : List Value, F6544 50 = .agg cs.toArray ∧ Enc.device.rd w6545 ((Bs6550 1) ++ O) cs (rE2) := hT6546 4 50 (by kernel_rfl) (by decide) (by kernel_rfl) (by kernel_rfl)
     have hs6574 : Enc.device.rd w6545 ((b6554 :: Blc47) ++ O) cs6573 (rE2) := Enc.mv Enc.device (x := rE2) hs6574 (Mv.at_ hq6566)
     have hd6288 := hd6288.mv m6549
     have bx6286 := bx6286.keep k6543 (by simp)
     have hd6335 := hd6335.mv m6549
     have bx6333 := bx6333.keep k6543 (by simp)
     have hvnc47_9_2 := hvnc47_9_2.mv m6549
     have hbn_bnc47_9 := hbn_bnc47_9.keep k6543 (by simp)
     obtain ⟨F2, rfl⟩ := lit_of (F := F6544) [(1, Value.pointer (some ⟨b6275, 0, none⟩)), (2, vI ((newM (0 : Int)).2)), (4, vI ((newM (4 : Int)).2)), (5, Value.pointer (some ⟨b6320, 0, none⟩)), (6, vI ((startM rD).2)), (8, vI ((actM rD (⟨(0 : Int), (0 : Int), (0 : Int), (0 : Int), (0 : Int), (0 : Int)⟩ : DeviceOp) (2 : Int)).2)), (9, Value.pointer (some ⟨bnc47_9, 0, none⟩)), (10, vI ((actM rD ⟨0, 1, 2, 3, 0, 1⟩ 2).2)), (162, undef), (11, Value.pointer (some ⟨b6554, 0, none⟩)), (46, Value.tuple #[Value.agg cs6570.toArray, vI ((actM rA ((⟨0, (2 : Int), 2, (3 : Int), 0, 1⟩ : DeviceOp)) (2 : Int)).2)]), (50, Value.agg cs6573.toArray)] ⟨hF6547 1 (by kernel_rfl), hF6547 2 (by kernel_rfl), hF6547 4 (by kernel_rfl), hF6547 5 (by kernel_rfl), hF6547 6 (by kernel_rfl), hF6547 8 (by kernel_rfl), hF6547 9 (by kernel_rfl), hF6547 10 (by kernel_rfl), hF6547 162 (by kernel_rfl), e6558, e6572, e6575, trivial⟩
     clear hT6546 hF6547 hB6551 hl6552 sep6553
     obtain ⟨d6581, rfl, hd6582⟩ := hs6574
     have := hd6582.len_le
     refine wl_n (o_store (vs := [vI rE2.id, vI rE2.counter, d6581, Value.bool rE2.halted]) (.agg #[vI rE2.id, vI rE2.counter, d6581, Value.bool rE2.halted]) rfl rfl rfl s_31 (fun u hu => by simp only [List.mem_cons, List.not_mem_nil, or_false] at hu; rcases hu with rfl | rfl | rfl | rfl <;> first | rfl | exact hd6582.oneCell) (by repeat (first | assumption | constructor)) bx6559 (of_decide_eq_true rfl) s6548 fun w6576 s6577 m6578 k6579 bx6580 => (?_))
     have hd6288 := hd6288.mv m6578
     have bx6286 := bx6286.keep k6579 (nin1 ne6567)
     have hd6335 := hd6335.mv m6578
     have bx6333 := bx6333.keep k6579 (nin1 ne6568)
     have hvnc47_9_2 := hvnc47_9_2.mv m6578
     have hbn_bnc47_9 := hbn_bnc47_9.keep k6579 (nin1 ne6569)
     refine wl_s (o_extract (vI ((actM rA ((⟨0, (2 : Int), 2, (3 : Int), 0, 1⟩ : DeviceOp)) (2 : Int)).2)) rfl rfl (wl_s (o_assign (vI ((actM rA ((⟨0, (2 : Int), 2, (3 : Int), 0, 1⟩ : DeviceOp)) (2 : Int)).2)) rfl (wl_nil (thenQ_n (?_))))))
     exact ⟨(b6554 :: Blc47), trivial, ⟨_, upds_self _ ⟨rfl, rfl, rfl, rfl, rfl, rfl, rfl, rfl, (by first | rfl | exact congrArg (Value.int _) (by first | omega | (rfl))), rfl, trivial⟩⟩, s6577, hd6288, bx6286, (by first | assumption | (repeat (first | exact List.mem_cons_self | assumption | apply List.mem_cons_of_mem)) | (apply_assumption; assumption)), hd6335, bx6333, (by first | assumption | (repeat (first | exact List.mem_cons_self | assumption | apply List.mem_cons_of_mem)) | (apply_assumption; assumption)), hvnc47_9_2, hbn_bnc47_9, (by first | assumption | (repeat (first | exact List.mem_cons_self | assumption | apply List.mem_cons_of_mem)) | (apply_assumption; assumption))⟩
  ·intro F wlc53 hI
   clear hd6288 bx6286 hd6335 bx6333 hvnc47_9_2 hbn_bnc47_9
   obtain ⟨Blc53, hmc53, ⟨Flc53, rfl⟩, slc53, hd6288, bx6286, hin_b6275, hd6335, bx6333, hin_b6320, hvnc47_9_2, hbn_bnc47_9, hin_bnc47_9⟩ := hI
   refine cw_cut (fun FI wI => ∃ (bnc59_13 : Nat) (vnc59_13_2 : Value) (B : List Nat), True ∧ (∃ F1, FI = upds F1 [(1, Value.pointer (some ⟨b6275, 0, none⟩)), (2, vI ((newM (0 : Int)).2)), (4, vI ((newM (4 : Int)).2)), (5, Value.pointer (some ⟨b6320, 0, none⟩)), (6, vI ((startM rD).2)), (8, vI ((actM rD (⟨(0 : Int), (0 : Int), (0 : Int), (0 : Int), (0 : Int), (0 : Int)⟩ : DeviceOp) (2 : Int)).2)), (9, Value.pointer (some ⟨bnc47_9, 0, none⟩)), (10, vI ((actM rD ⟨0, 1, 2, 3, 0, 1⟩ 2).2)), (12, vI ((actM rA ⟨0, 2, 2, 3, 0, 1⟩ 2).2)), (13, Value.pointer (some ⟨bnc59_13, 0, none⟩)), (14, vI ((actM rD ⟨0, 1, 2, 3, 0, 1⟩ 1).2)), (162, undef)]) ∧ St w O wI B ∧ RdL Enc.devop wI (B ++ O) (d6287) (rD.ops) ∧ Box wI b6275 31 [vI rD.id, vI rD.counter, d6287, Value.bool rD.halted] ∧ b6275 ∈ B ∧ RdL Enc.devop wI (B ++ O) (d6334) (rS.ops) ∧ Box wI b6320 31 [vI rS.id, vI rS.counter, d6334, Value.bool rS.halted] ∧ b6320 ∈ B ∧ RdL Enc.devop wI (B ++ O) (vnc47_9_2) (rA.ops) ∧ Box wI bnc47_9 31 [vI rA.id, vI rA.counter, vnc47_9_2, Value.bool rA.halted] ∧ bnc47_9 ∈ B ∧ Box wI bnc59_13 31 [vI rHalf.id, vI rHalf.counter, vnc59_13_2, Value.bool rHalf.halted] ∧ RdL Enc.devop wI (B ++ O) vnc59_13_2 (rHalf.ops) ∧ bnc59_13 ∈ B ∧ NeB b6275 bnc59_13 ∧ NeB b6320 bnc59_13 ∧ NeB bnc47_9 bnc59_13) ?_ ?_
   ·refine cw_drawUL 7 [5] _ _ _ [fun _ => isV (Value.agg #[vI rD.id, vI rD.counter, d6287, Value.bool rD.halted]), fun _ => isV (Value.agg #[vI (((⟨0, (1 : Int), 2, (3 : Int), 0, 1⟩ : DeviceOp)).device), vI (((⟨0, (1 : Int), 2, (3 : Int), 0, 1⟩ : DeviceOp)).no), vI (((⟨0, (1 : Int), 2, (3 : Int), 0, 1⟩ : DeviceOp)).kind), vI (((⟨0, (1 : Int), 2, (3 : Int), 0, 1⟩ : DeviceOp)).copy), vI (((⟨0, (1 : Int), 2, (3 : Int), 0, 1⟩ : DeviceOp)).to), vI (((⟨0, (1 : Int), 2, (3 : Int), 0, 1⟩ : DeviceOp)).token)]), fun (BT : List Nat) (vT : Value) (wT : World) => ∃ (xT0 : List Value), vT = .tuple #[.agg xT0.toArray, vI ((actM rD ((⟨0, (1 : Int), 2, (3 : Int), 0, 1⟩ : DeviceOp)) (1 : Int)).2)] ∧ Enc.device.rd wT (BT ++ O) xT0 (rHalf), fun (BT : List Nat) (vT : Value) (wT : World) => ∃ (xT0 : List Value), vT = .tuple #[.agg xT0.toArray, vI ((actM rD ((⟨0, (1 : Int), 2, (3 : Int), 0, 1⟩ : DeviceOp)) (1 : Int)).2)] ∧ Enc.device.rd wT (BT ++ O) xT0 (rHalf), fun (BT : List Nat) (vT : Value) (wT : World) => ∃ csT : List Value, vT = .agg csT.toArray ∧ Enc.device.rd wT (BT ++ O) csT (rHalf), fun _ => isV (vI ((actM rD ((⟨0, (1 : Int), 2, (3 : Int), 0, 1⟩ : DeviceOp)) (1 : Int)).2)), TBx wlc53 31 [vI (0 : Int), vI (0 : Int), Value.slice none 0 0, Value.bool false]] [⟨0, [], [], [], false, []⟩, ⟨0, [], [], [], false, []⟩, ⟨1, [], [], [], false, [0, 1]⟩, ⟨1, [1], [], [], false, [2]⟩, ⟨1, [1], [], [], false, [3]⟩, ⟨0, [1], [], [], false, [3]⟩, ⟨2, [], [], [], false, []⟩] Blc53 (by kernel_rfl) (by kernel_rfl) (by kernel_rfl) (by kernel_rfl) (by kernel_rfl) (by decide) rfl rfl rfl ⟨fun _ _ _ _ _ h => h, fun _ _ _ _ _ h => h, (show ∀ B B2 v w w2, (fun (BT : List Nat) (vT : Value) (wT : World) => ∃ (xT0 : List Value), vT = .tuple #[.agg xT0.toArray, vI ((actM rD ((⟨0, (1 : Int), 2, (3 : Int), 0, 1⟩ : DeviceOp)) (1 : Int)).2)] ∧ Enc.device.rd wT (BT ++ O) xT0 (rHalf)) B v w → Mv B w B2 w2 → (fun (BT : List Nat) (vT : Value) (wT : World) => ∃ (xT0 : List Value), vT = .tuple #[.agg xT0.toArray, vI ((actM rD ((⟨0, (1 : Int), 2, (3 : Int), 0, 1⟩ : DeviceOp)) (1 : Int)).2)] ∧ Enc.device.rd wT (BT ++ O) xT0 (rHalf)) B2 v w2 from fun _ _ _ _ _ ⟨y0, e, h0⟩ m => ⟨y0, e, Enc.mv _ h0 m⟩), (show ∀ B B2 v w w2, (fun (BT : List Nat) (vT : Value) (wT : World) => ∃ (xT0 : List Value), vT = .tuple #[.agg xT0.toArray, vI ((actM rD ((⟨0, (1 : Int), 2, (3 : Int), 0, 1⟩ : DeviceOp)) (1 : Int)).2)] ∧ Enc.device.rd wT (BT ++ O) xT0 (rHalf)) B v w → Mv B w B2 w2 → (fun (BT : List Nat) (vT : Value) (wT : World) => ∃ (xT0 : List Value), vT = .tuple #[.agg xT0.toArray, vI ((actM rD ((⟨0, (1 : Int), 2, (3 : Int), 0, 1⟩ : DeviceOp)) (1 : Int)).2)] ∧ Enc.device.rd wT (BT ++ O) xT0 (rHalf)) B2 v w2 from fun _ _ _ _ _ ⟨y0, e, h0⟩ m => ⟨y0, e, Enc.mv _ h0 m⟩), (show ∀ B B2 v w w2, (fun (BT : List Nat) (vT : Value) (wT : World) => ∃ csT : List Value, vT = .agg csT.toArray ∧ Enc.device.rd wT (BT ++ O) csT (rHalf)) B v w → Mv B w B2 w2 → (fun (BT : List Nat) (vT : Value) (wT : World) => ∃ csT : List Value, vT = .agg csT.toArray ∧ Enc.device.rd wT (BT ++ O) csT (rHalf)) B2 v w2 from fun _ _ _ _ _ ⟨a, e, h⟩ m => ⟨a, e, Enc.mv _ h m⟩), fun _ _ _ _ _ h => h, TBx.st, trivial⟩ ⟨?_, ?_, ?_, ?_, ?_, ?_, ?_, trivial⟩ ?_ ?_
    ·intro F1 w1 B1_ Bs_ k1 hs_ hl_ hr_ hsep_ hf hd
     have k0 := (Keep.drew [] wlc53).trans k1
     have bx6286 := bx6286.keep k0 (by simp)
     obtain ⟨F2, rfl⟩ := lit_of (F := F1) [(1, Value.pointer (some ⟨b6275, 0, none⟩))] ⟨hf 1 (by kernel_rfl), trivial⟩
     exact sp_plain rfl ((o_loadBxA (vs := [vI rD.id, vI rD.counter, d6287, Value.bool rD.halted]) Try.underlying31 rfl s_31 rfl bx6286 rfl (⟨[], (Keep.refl _ _), noC, rfl⟩)))
    ·intro F1 w1 B1_ Bs_ k1 hs_ hl_ hr_ hsep_ hf hd
     have k0 := (Keep.drew [] wlc53).trans k1
     have s1 := slc53.call k0
     obtain ⟨F2, rfl⟩ := lit_of (F := F1) [] trivial
     refine sp_plain rfl ((o_callK (vs := [vI (1 : Int), vI (3 : Int)]) enter_77 (c_show43 (O := Blc53 ++ O) (1 : Int) (3 : Int) w1 s1.lt) rfl s1 fun v6583 w6584 s6585 m6586 k6587 r6588 => (?_)))
     obtain ⟨cs6589, rfl, hs6590⟩ := r6588
     obtain rfl := hs6590
     exact ⟨[], k6587, noC, rfl⟩
    ·intro F1 w1 B1_ Bs_ k1 hs_ hl_ hr_ hsep_ hf hd
     have k0 := (Keep.drew [] wlc53).trans k1
     have s1 := slc53.adoptL k0 hl_
     have m1 : Mv Blc53 wlc53 B1_ w1 := Mv.adoptL k0 hl_
     have hd6288 := hd6288.mv m1
     obtain ⟨F2, rfl⟩ := lit_of (F := F1) [(53, Value.agg #[vI rD.id, vI rD.counter, d6287, Value.bool rD.halted]), (54, Value.agg #[vI (((⟨0, (1 : Int), 2, (3 : Int), 0, 1⟩ : DeviceOp)).device), vI (((⟨0, (1 : Int), 2, (3 : Int), 0, 1⟩ : DeviceOp)).no), vI (((⟨0, (1 : Int), 2, (3 : Int), 0, 1⟩ : DeviceOp)).kind), vI (((⟨0, (1 : Int), 2, (3 : Int), 0, 1⟩ : DeviceOp)).copy), vI (((⟨0, (1 : Int), 2, (3 : Int), 0, 1⟩ : DeviceOp)).to), vI (((⟨0, (1 : Int), 2, (3 : Int), 0, 1⟩ : DeviceOp)).token)])] ⟨hd 0 53 (by kernel_rfl) (by kernel_rfl), hd 1 54 (by kernel_rfl) (by kernel_rfl), trivial⟩
     refine sp_plain rfl ((o_callK (vs := [Value.agg #[vI rD.id, vI rD.counter, d6287, Value.bool rD.halted], Value.agg #[vI (((⟨0, (1 : Int), 2, (3 : Int), 0, 1⟩ : DeviceOp)).device), vI (((⟨0, (1 : Int), 2, (3 : Int), 0, 1⟩ : DeviceOp)).no), vI (((⟨0, (1 : Int), 2, (3 : Int), 0, 1⟩ : DeviceOp)).kind), vI (((⟨0, (1 : Int), 2, (3 : Int), 0, 1⟩ : DeviceOp)).copy), vI (((⟨0, (1 : Int), 2, (3 : Int), 0, 1⟩ : DeviceOp)).to), vI (((⟨0, (1 : Int), 2, (3 : Int), 0, 1⟩ : DeviceOp)).token)], vI (1 : Int)]) enter_40 (c_act (O := B1_ ++ O) [vI rD.id, vI rD.counter, d6287, Value.bool rD.halted] rD [vI (((⟨0, (1 : Int), 2, (3 : Int), 0, 1⟩ : DeviceOp)).device), vI (((⟨0, (1 : Int), 2, (3 : Int), 0, 1⟩ : DeviceOp)).no), vI (((⟨0, (1 : Int), 2, (3 : Int), 0, 1⟩ : DeviceOp)).kind), vI (((⟨0, (1 : Int), 2, (3 : Int), 0, 1⟩ : DeviceOp)).copy), vI (((⟨0, (1 : Int), 2, (3 : Int), 0, 1⟩ : DeviceOp)).to), vI (((⟨0, (1 : Int), 2, (3 : Int), 0, 1⟩ : DeviceOp)).token)] ((⟨0, (1 : Int), 2, (3 : Int), 0, 1⟩ : DeviceOp)) (1 : Int) w1 ⟨_, rfl, hd6288⟩ rfl s1.lt) rfl s1 fun v6591 w6592 s6593 m6594 k6595 r6596 => (?_)))
     obtain ⟨cs6597, rfl, hs6598⟩ := r6596
     have hs6598 : Enc.device.rd w6592 (B1_ ++ O) cs6597 rHalf := hs6598
     exact ⟨[], k6595, noC, ⟨cs6597, rfl, hs6598⟩⟩
    ·intro F1 w1 B1_ Bs_ k1 hs_ hl_ hr_ hsep_ hf hd
     obtain ⟨cs6599, e6601, hs6600⟩ : (fun (vT : Value) (wT : World) => ∃ (xT0 : List Value), vT = .tuple #[.agg xT0.toArray, vI ((actM rD ((⟨0, (1 : Int), 2, (3 : Int), 0, 1⟩ : DeviceOp)) (1 : Int)).2)] ∧ Enc.device.rd wT ((Bs_ 1) ++ O) xT0 (rHalf)) (F1 55) w1 := hd 2 55 (by kernel_rfl) (by kernel_rfl)
     have hs6600 : Enc.device.rd w1 (B1_ ++ O) cs6599 (rHalf) := Enc.mv Enc.device (x := rHalf) hs6600 (Mv.at_ (hr_ 1 (by kernel_rfl)))
     obtain ⟨F2, rfl⟩ := lit_of (F := F1) [(55, Value.tuple #[Value.agg cs6599.toArray, vI ((actM rD ((⟨0, (1 : Int), 2, (3 : Int), 0, 1⟩ : DeviceOp)) (1 : Int)).2)])] ⟨e6601, trivial⟩
     exact sp_plain rfl ((o_move (Value.tuple #[Value.agg cs6599.toArray, vI ((actM rD ((⟨0, (1 : Int), 2, (3 : Int), 0, 1⟩ : DeviceOp)) (1 : Int)).2)]) rfl (⟨[], (Keep.refl _ _), noC, ⟨cs6599, rfl, hs6600⟩⟩)))
    ·intro F1 w1 B1_ Bs_ k1 hs_ hl_ hr_ hsep_ hf hd
     obtain ⟨cs6602, e6604, hs6603⟩ : (fun (vT : Value) (wT : World) => ∃ (xT0 : List Value), vT = .tuple #[.agg xT0.toArray, vI ((actM rD ((⟨0, (1 : Int), 2, (3 : Int), 0, 1⟩ : DeviceOp)) (1 : Int)).2)] ∧ Enc.device.rd wT ((Bs_ 1) ++ O) xT0 (rHalf)) (F1 52) w1 := hd 3 52 (by kernel_rfl) (by kernel_rfl)
     have hs6603 : Enc.device.rd w1 (B1_ ++ O) cs6602 (rHalf) := Enc.mv Enc.device (x := rHalf) hs6603 (Mv.at_ (hr_ 1 (by kernel_rfl)))
     obtain ⟨F2, rfl⟩ := lit_of (F := F1) [(52, Value.tuple #[Value.agg cs6602.toArray, vI ((actM rD ((⟨0, (1 : Int), 2, (3 : Int), 0, 1⟩ : DeviceOp)) (1 : Int)).2)])] ⟨e6604, trivial⟩
     exact sp_plain rfl ((o_extract (Value.agg cs6602.toArray) rfl rfl (⟨[], (Keep.refl _ _), noC, ⟨cs6602, rfl, hs6603⟩⟩)))
    ·intro F1 w1 B1_ Bs_ k1 hs_ hl_ hr_ hsep_ hf hd
     obtain ⟨cs6605, e6607, hs6606⟩ : (fun (vT : Value) (wT : World) => ∃ (xT0 : List Value), vT = .tuple #[.agg xT0.toArray, vI ((actM rD ((⟨0, (1 : Int), 2, (3 : Int), 0, 1⟩ : DeviceOp)) (1 : Int)).2)] ∧ Enc.device.rd wT ((Bs_ 1) ++ O) xT0 (rHalf)) (F1 52) w1 := hd 3 52 (by kernel_rfl) (by kernel_rfl)
     obtain ⟨F2, rfl⟩ := lit_of (F := F1) [(52, Value.tuple #[Value.agg cs6605.toArray, vI ((actM rD ((⟨0, (1 : Int), 2, (3 : Int), 0, 1⟩ : DeviceOp)) (1 : Int)).2)])] ⟨e6607, trivial⟩
     exact sp_plain rfl ((o_extract (vI ((actM rD ((⟨0, (1 : Int), 2, (3 : Int), 0, 1⟩ : DeviceOp)) (1 : Int)).2)) rfl rfl (⟨[], (Keep.refl _ _), noC, rfl⟩)))
    ·intro F1 w1 B1_ Bs_ k1 hs_ hl_ hr_ hsep_ hf hd
     have k0 := (Keep.drew [] wlc53).trans k1
     have s1 := slc53.adoptL k0 hl_
     obtain ⟨F2, rfl⟩ := lit_of (F := F1) [] trivial
     refine sp_plain rfl ((o_alloc [vI (0 : Int), vI (0 : Int), Value.slice none 0 0, Value.bool false] z_31 rfl s1 fun b6608 w6609 e6614 s6610 m6611 k6612 bx6613 => (?_)))
     have lo6615 : wlc53.heap.size ≤ b6608 := by have := k0.size; omega
     exact ⟨[], k6612, noC, ⟨_, rfl, lo6615, (by intro h; have := lt_of s1 _ h; omega), bx6613⟩⟩
    ·intro F6617 w6618 Bs6623 k6616 hB6624 hl6625 sep6626 hT6619 hF6620
     obtain ⟨b6627, e6631, lo6628, hn6629, bx6632⟩ : (TBx wlc53 31 [vI (0 : Int), vI (0 : Int), Value.slice none 0 0, Value.bool false]) (Bs6623 2) (F6617 13) w6618 := hT6619 6 13 (by kernel_rfl) (by decide) (by kernel_rfl) (by kernel_rfl)
     have hi6630 := bx6632.lt
     have hl6633 : ∀ x ∈ Blc53, x ∈ Blc53 ∨ (wlc53.heap.size ≤ x ∧ x < w6618.heap.size) := fun x hx => .inl hx
     have hsu6634 : ∀ x ∈ Blc53, x ∈ Blc53 := fun x hx => hx
     have hq6635 : ∀ x ∈ Blc53, x ∈ Bs6623 1 := fun x hx => hB6624 1 x hx
     have hq6636 : ∀ x ∈ Blc53, x ∈ Bs6623 2 := fun x hx => hB6624 2 x hx
     have hl6637 : ∀ x ∈ (b6627 :: Blc53), x ∈ Blc53 ∨ (wlc53.heap.size ≤ x ∧ x < w6618.heap.size) := fun x hx => by rcases List.mem_cons.1 hx with rfl | hx; exact .inr ⟨lo6628, hi6630⟩; exact hl6633 x hx
     have hsu6638 : ∀ x ∈ Blc53, x ∈ (b6627 :: Blc53) := fun x hx => List.mem_cons_of_mem _ (hsu6634 x hx)
     have hq6639 : ∀ x ∈ (b6627 :: Blc53), x ∈ Bs6623 1 := fun x hx => by rcases List.mem_cons.1 hx with rfl | hx; exact sep6626 2 1 _ (by decide) lo6628 hi6630 hn6629; exact hq6635 x hx
     have s6621 := slc53.adoptL k6616 hl6637
     have m6622 : Mv Blc53 wlc53 (b6627 :: Blc53) w6618 := Mv.adoptL k6616 hl6637
     have ne6640 : NeB b6275 b6627 := by show b6275 ≠ b6627; have := bx6286.lt; omega
     have ne6641 : NeB b6320 b6627 := by show b6320 ≠ b6627; have := bx6333.lt; omega
     have ne6642 : NeB bnc47_9 b6627 := by show bnc47_9 ≠ b6627; have := hbn_bnc47_9.lt; omega
     obtain ⟨cs6643, e6645, hs6644⟩ : ∃ cs : List Value, F6617 56 = .agg cs.toArray ∧ Enc.device.rd w6618 ((Bs6623 1) ++ O) cs (rHalf) := hT6619 4 56 (by kernel_rfl) (by decide) (by kernel_rfl) (by kernel_rfl)
     have hs6644 : Enc.device.rd w6618 ((b6627 :: Blc53) ++ O) cs6643 (rHalf) := Enc.mv Enc.device (x := rHalf) hs6644 (Mv.at_ hq6639)
     have hd6288 := hd6288.mv m6622
     have bx6286 := bx6286.keep k6616 (by simp)
     have hd6335 := hd6335.mv m6622
     have bx6333 := bx6333.keep k6616 (by simp)
     have hvnc47_9_2 := hvnc47_9_2.mv m6622
     have hbn_bnc47_9 := hbn_bnc47_9.keep k6616 (by simp)
     obtain ⟨F2, rfl⟩ := lit_of (F := F6617) [(1, Value.pointer (some ⟨b6275, 0, none⟩)), (2, vI ((newM (0 : Int)).2)), (4, vI ((newM (4 : Int)).2)), (5, Value.pointer (some ⟨b6320, 0, none⟩)), (6, vI ((startM rD).2)), (8, vI ((actM rD (⟨(0 : Int), (0 : Int), (0 : Int), (0 : Int), (0 : Int), (0 : Int)⟩ : DeviceOp) (2 : Int)).2)), (9, Value.pointer (some ⟨bnc47_9, 0, none⟩)), (10, vI ((actM rD ⟨0, 1, 2, 3, 0, 1⟩ 2).2)), (12, vI ((actM rA ⟨0, 2, 2, 3, 0, 1⟩ 2).2)), (162, undef), (13, Value.pointer (some ⟨b6627, 0, none⟩)), (56, Value.agg cs6643.toArray), (57, vI ((actM rD ((⟨0, (1 : Int), 2, (3 : Int), 0, 1⟩ : DeviceOp)) (1 : Int)).2))] ⟨hF6620 1 (by kernel_rfl), hF6620 2 (by kernel_rfl), hF6620 4 (by kernel_rfl), hF6620 5 (by kernel_rfl), hF6620 6 (by kernel_rfl), hF6620 8 (by kernel_rfl), hF6620 9 (by kernel_rfl), hF6620 10 (by kernel_rfl), hF6620 12 (by kernel_rfl), hF6620 162 (by kernel_rfl), e6631, e6645, hT6619 5 57 (by kernel_rfl) (by decide) (by kernel_rfl) (by kernel_rfl), trivial⟩
     clear hT6619 hF6620 hB6624 hl6625 sep6626
     obtain ⟨d6651, rfl, hd6652⟩ := hs6644
     have := hd6652.len_le
     refine wl_n (o_store (vs := [vI rHalf.id, vI rHalf.counter, d6651, Value.bool rHalf.halted]) (.agg #[vI rHalf.id, vI rHalf.counter, d6651, Value.bool rHalf.halted]) rfl rfl rfl s_31 (fun u hu => by simp only [List.mem_cons, List.not_mem_nil, or_false] at hu; rcases hu with rfl | rfl | rfl | rfl <;> first | rfl | exact hd6652.oneCell) (by repeat (first | assumption | constructor)) bx6632 (of_decide_eq_true rfl) s6621 fun w6646 s6647 m6648 k6649 bx6650 => (?_))
     have hd6652 := hd6652.mv m6648
     have hd6288 := hd6288.mv m6648
     have bx6286 := bx6286.keep k6649 (nin1 ne6640)
     have hd6335 := hd6335.mv m6648
     have bx6333 := bx6333.keep k6649 (nin1 ne6641)
     have hvnc47_9_2 := hvnc47_9_2.mv m6648
     have hbn_bnc47_9 := hbn_bnc47_9.keep k6649 (nin1 ne6642)
     refine wl_s (o_assign (vI ((actM rD ((⟨0, (1 : Int), 2, (3 : Int), 0, 1⟩ : DeviceOp)) (1 : Int)).2)) rfl (wl_nil (thenQ_n (?_))))
     exact ⟨b6627, d6651, (b6627 :: Blc53), trivial, ⟨_, upds_self _ ⟨rfl, rfl, rfl, rfl, rfl, rfl, rfl, rfl, rfl, rfl, (by first | rfl | exact congrArg (Value.int _) (by first | omega | (rfl))), rfl, trivial⟩⟩, s6647, hd6288, bx6286, (by first | assumption | (repeat (first | exact List.mem_cons_self | assumption | apply List.mem_cons_of_mem)) | (apply_assumption; assumption)), hd6335, bx6333, (by first | assumption | (repeat (first | exact List.mem_cons_self | assumption | apply List.mem_cons_of_mem)) | (apply_assumption; assumption)), hvnc47_9_2, hbn_bnc47_9, (by first | assumption | (repeat (first | exact List.mem_cons_self | assumption | apply List.mem_cons_of_mem)) | (apply_assumption; assumption)), bx6650, hd6652, (by repeat (first | assumption | constructor)), ne6640, ne6641, ne6642⟩
    ·intro cx_ hcx_
     match cx_, hcx_ with
     | 0, _ =>
      intro F6654 w6655 Bs6660 k6653 hB6661 hl6662 sep6663 hT6656 hF6657
      obtain ⟨b6664, e6668, lo6665, hn6666, bx6669⟩ : (TBx wlc53 31 [vI (0 : Int), vI (0 : Int), Value.slice none 0 0, Value.bool false]) (Bs6660 2) (F6654 13) w6655 := hT6656 6 13 (by kernel_rfl) (by decide) (by kernel_rfl) (by kernel_rfl)
      have hi6667 := bx6669.lt
      have hl6670 : ∀ x ∈ Blc53, x ∈ Blc53 ∨ (wlc53.heap.size ≤ x ∧ x < w6655.heap.size) := fun x hx => .inl hx
      have hsu6671 : ∀ x ∈ Blc53, x ∈ Blc53 := fun x hx => hx
      have hq6672 : ∀ x ∈ Blc53, x ∈ Bs6660 1 := fun x hx => hB6661 1 x hx
      have hq6673 : ∀ x ∈ Blc53, x ∈ Bs6660 2 := fun x hx => hB6661 2 x hx
      have hl6674 : ∀ x ∈ (b6664 :: Blc53), x ∈ Blc53 ∨ (wlc53.heap.size ≤ x ∧ x < w6655.heap.size) := fun x hx => by rcases List.mem_cons.1 hx with rfl | hx; exact .inr ⟨lo6665, hi6667⟩; exact hl6670 x hx
      have hsu6675 : ∀ x ∈ Blc53, x ∈ (b6664 :: Blc53) := fun x hx => List.mem_cons_of_mem _ (hsu6671 x hx)
      have hq6676 : ∀ x ∈ (b6664 :: Blc53), x ∈ Bs6660 1 := fun x hx => by rcases List.mem_cons.1 hx with rfl | hx; exact sep6663 2 1 _ (by decide) lo6665 hi6667 hn6666; exact hq6672 x hx
      have s6658 := slc53.adoptL k6653 hl6674
      have m6659 : Mv Blc53 wlc53 (b6664 :: Blc53) w6655 := Mv.adoptL k6653 hl6674
      have ne6677 : NeB b6275 b6664 := by show b6275 ≠ b6664; have := bx6286.lt; omega
      have ne6678 : NeB b6320 b6664 := by show b6320 ≠ b6664; have := bx6333.lt; omega
      have ne6679 : NeB bnc47_9 b6664 := by show bnc47_9 ≠ b6664; have := hbn_bnc47_9.lt; omega
      obtain ⟨cs6680, e6682, hs6681⟩ : (fun (vT : Value) (wT : World) => ∃ (xT0 : List Value), vT = .tuple #[.agg xT0.toArray, vI ((actM rD ((⟨0, (1 : Int), 2, (3 : Int), 0, 1⟩ : DeviceOp)) (1 : Int)).2)] ∧ Enc.device.rd wT ((Bs6660 1) ++ O) xT0 (rHalf)) (F6654 52) w6655 := hT6656 3 52 (by kernel_rfl) (by decide) (by kernel_rfl) (by kernel_rfl)
      obtain ⟨cs6683, e6685, hs6684⟩ : ∃ cs : List Value, F6654 56 = .agg cs.toArray ∧ Enc.device.rd w6655 ((Bs6660 1) ++ O) cs (rHalf) := hT6656 4 56 (by kernel_rfl) (by decide) (by kernel_rfl) (by kernel_rfl)
      have hs6684 : Enc.device.rd w6655 ((b6664 :: Blc53) ++ O) cs6683 (rHalf) := Enc.mv Enc.device (x := rHalf) hs6684 (Mv.at_ hq6676)
      have hd6288 := hd6288.mv m6659
      have bx6286 := bx6286.keep k6653 (by simp)
      have hd6335 := hd6335.mv m6659
      have bx6333 := bx6333.keep k6653 (by simp)
      have hvnc47_9_2 := hvnc47_9_2.mv m6659
      have hbn_bnc47_9 := hbn_bnc47_9.keep k6653 (by simp)
      obtain ⟨F2, rfl⟩ := lit_of (F := F6654) [(1, Value.pointer (some ⟨b6275, 0, none⟩)), (2, vI ((newM (0 : Int)).2)), (4, vI ((newM (4 : Int)).2)), (5, Value.pointer (some ⟨b6320, 0, none⟩)), (6, vI ((startM rD).2)), (8, vI ((actM rD (⟨(0 : Int), (0 : Int), (0 : Int), (0 : Int), (0 : Int), (0 : Int)⟩ : DeviceOp) (2 : Int)).2)), (9, Value.pointer (some ⟨bnc47_9, 0, none⟩)), (10, vI ((actM rD ⟨0, 1, 2, 3, 0, 1⟩ 2).2)), (12, vI ((actM rA ⟨0, 2, 2, 3, 0, 1⟩ 2).2)), (162, undef), (13, Value.pointer (some ⟨b6664, 0, none⟩)), (52, Value.tuple #[Value.agg cs6680.toArray, vI ((actM rD ((⟨0, (1 : Int), 2, (3 : Int), 0, 1⟩ : DeviceOp)) (1 : Int)).2)]), (56, Value.agg cs6683.toArray)] ⟨hF6657 1 (by kernel_rfl), hF6657 2 (by kernel_rfl), hF6657 4 (by kernel_rfl), hF6657 5 (by kernel_rfl), hF6657 6 (by kernel_rfl), hF6657 8 (by kernel_rfl), hF6657 9 (by kernel_rfl), hF6657 10 (by kernel_rfl), hF6657 12 (by kernel_rfl), hF6657 162 (by kernel_rfl), e6668, e6682, e6685, trivial⟩
      clear hT6656 hF6657 hB6661 hl6662 sep6663
      obtain ⟨d6691, rfl, hd6692⟩ := hs6684
      have := hd6692.len_le
      refine wl_n (o_store (vs := [vI rHalf.id, vI rHalf.counter, d6691, Value.bool rHalf.halted]) (.agg #[vI rHalf.id, vI rHalf.counter, d6691, Value.bool rHalf.halted]) rfl rfl rfl s_31 (fun u hu => by simp only [List.mem_cons, List.not_mem_nil, or_false] at hu; rcases hu with rfl | rfl | rfl | rfl <;> first | rfl | exact hd6692.oneCell) (by repeat (first | assumption | constructor)) bx6669 (of_decide_eq_true rfl) s6658 fun w6686 s6687 m6688 k6689 bx6690 => (?_))
      have hd6692 := hd6692.mv m6688
      have hd6288 := hd6288.mv m6688
      have bx6286 := bx6286.keep k6689 (nin1 ne6677)
      have hd6335 := hd6335.mv m6688
      have bx6333 := bx6333.keep k6689 (nin1 ne6678)
      have hvnc47_9_2 := hvnc47_9_2.mv m6688
      have hbn_bnc47_9 := hbn_bnc47_9.keep k6689 (nin1 ne6679)
      refine wl_s (o_extract (vI ((actM rD ((⟨0, (1 : Int), 2, (3 : Int), 0, 1⟩ : DeviceOp)) (1 : Int)).2)) rfl rfl (wl_s (o_assign (vI ((actM rD ((⟨0, (1 : Int), 2, (3 : Int), 0, 1⟩ : DeviceOp)) (1 : Int)).2)) rfl (wl_nil (thenQ_n (?_))))))
      exact ⟨b6664, d6691, (b6664 :: Blc53), trivial, ⟨_, upds_self _ ⟨rfl, rfl, rfl, rfl, rfl, rfl, rfl, rfl, rfl, rfl, (by first | rfl | exact congrArg (Value.int _) (by first | omega | (rfl))), rfl, trivial⟩⟩, s6687, hd6288, bx6286, (by first | assumption | (repeat (first | exact List.mem_cons_self | assumption | apply List.mem_cons_of_mem)) | (apply_assumption; assumption)), hd6335, bx6333, (by first | assumption | (repeat (first | exact List.mem_cons_self | assumption | apply List.mem_cons_of_mem)) | (apply_assumption; assumption)), hvnc47_9_2, hbn_bnc47_9, (by first | assumption | (repeat (first | exact List.mem_cons_self | assumption | apply List.mem_cons_of_mem)) | (apply_assumption; assumption)), bx6690, hd6692, (by repeat (first | assumption | constructor)), ne6677, ne6678, ne6679⟩
   ·intro F wlc59 hI
    clear hd6288 bx6286 hd6335 bx6333 hvnc47_9_2 hbn_bnc47_9
    obtain ⟨bnc59_13, vnc59_13_2, Blc59, hmc59, ⟨Flc59, rfl⟩, slc59, hd6288, bx6286, hin_b6275, hd6335, bx6333, hin_b6320, hvnc47_9_2, hbn_bnc47_9, hin_bnc47_9, hbn_bnc59_13, hvnc59_13_2, hin_bnc59_13, nebnc59_13_b6275, nebnc59_13_b6320, nebnc59_13_bnc47_9⟩ := hI
    have := hvnc59_13_2.len_le
    refine cw_seq (?_)
    refine cw_region (by kernel_rfl) (wl_s (o_loadBxA (vs := [vI rHalf.id, vI rHalf.counter, vnc59_13_2, Value.bool rHalf.halted]) Try.underlying31 rfl s_31 rfl hbn_bnc59_13 rfl (wl_s (o_callK (vs := [Value.agg #[vI rHalf.id, vI rHalf.counter, vnc59_13_2, Value.bool rHalf.halted]]) enter_44 (c_start (O := Blc59 ++ O) [vI rHalf.id, vI rHalf.counter, vnc59_13_2, Value.bool rHalf.halted] rHalf wlc59 ⟨_, rfl, hvnc59_13_2⟩ slc59.lt) rfl slc59 fun v6693 w6694 s6695 m6696 k6697 r6698 => (?_)))))
    obtain ⟨cs6699, rfl, hs6700⟩ := r6698
    have hs6700 : Enc.device.rd w6694 (Blc59 ++ O) cs6699 rE3 := hs6700
    have hvnc59_13_2 := hvnc59_13_2.mv m6696
    have hd6288 := hd6288.mv m6696
    have bx6286 := bx6286.keep k6697 (by simp)
    have hd6335 := hd6335.mv m6696
    have bx6333 := bx6333.keep k6697 (by simp)
    have hvnc47_9_2 := hvnc47_9_2.mv m6696
    have hbn_bnc47_9 := hbn_bnc47_9.keep k6697 (by simp)
    have hbn_bnc59_13 := hbn_bnc59_13.keep k6697 (by simp)
    refine wl_s (o_move (Value.tuple #[Value.agg cs6699.toArray, vI ((startM rHalf).2)]) rfl (wl_s (o_extract (Value.agg cs6699.toArray) rfl rfl (wl_s (o_extract (vI ((startM rHalf).2)) rfl rfl (wl_s (o_alloc [vI (0 : Int), vI (0 : Int), Value.slice none 0 0, Value.bool false] z_31 rfl s6695 fun b6701 w6702 e6707 s6703 m6704 k6705 bx6706 => (?_))))))))
    have ne6708 : NeB b6275 b6701 := by show b6275 ≠ b6701; have := bx6286.lt; omega
    have ne6709 : NeB b6320 b6701 := by show b6320 ≠ b6701; have := bx6333.lt; omega
    have ne6710 : NeB bnc47_9 b6701 := by show bnc47_9 ≠ b6701; have := hbn_bnc47_9.lt; omega
    have ne6711 : NeB bnc59_13 b6701 := by show bnc59_13 ≠ b6701; have := hbn_bnc59_13.lt; omega
    clear e6707
    have hs6700 : Enc.device.rd w6702 ((b6701 :: Blc59) ++ O) cs6699 (rE3) := Enc.mv Enc.device (x := rE3) hs6700 m6704
    have hvnc59_13_2 := hvnc59_13_2.mv m6704
    have hd6288 := hd6288.mv m6704
    have bx6286 := bx6286.keep k6705 (by simp)
    have hd6335 := hd6335.mv m6704
    have bx6333 := bx6333.keep k6705 (by simp)
    have hvnc47_9_2 := hvnc47_9_2.mv m6704
    have hbn_bnc47_9 := hbn_bnc47_9.keep k6705 (by simp)
    have hbn_bnc59_13 := hbn_bnc59_13.keep k6705 (by simp)
    obtain ⟨d6717, rfl, hd6718⟩ := hs6700
    have := hd6718.len_le
    refine wl_n (o_store (vs := [vI rE3.id, vI rE3.counter, d6717, Value.bool rE3.halted]) (.agg #[vI rE3.id, vI rE3.counter, d6717, Value.bool rE3.halted]) rfl rfl rfl s_31 (fun u hu => by simp only [List.mem_cons, List.not_mem_nil, or_false] at hu; rcases hu with rfl | rfl | rfl | rfl <;> first | rfl | exact hd6718.oneCell) (by repeat (first | assumption | constructor)) bx6706 (of_decide_eq_true rfl) s6703 fun w6712 s6713 m6714 k6715 bx6716 => (?_))
    have hvnc59_13_2 := hvnc59_13_2.mv m6714
    have hd6288 := hd6288.mv m6714
    have bx6286 := bx6286.keep k6715 (nin1 ne6708)
    have hd6335 := hd6335.mv m6714
    have bx6333 := bx6333.keep k6715 (nin1 ne6709)
    have hvnc47_9_2 := hvnc47_9_2.mv m6714
    have hbn_bnc47_9 := hbn_bnc47_9.keep k6715 (nin1 ne6710)
    have hbn_bnc59_13 := hbn_bnc59_13.keep k6715 (nin1 ne6711)
    refine wl_s (o_assign (vI ((startM rHalf).2)) rfl (wl_nil (thenQ_n (?_))))
    refine cw_cut (fun FI wI => ∃ (bnc72_17 : Nat) (vnc72_17_2 : Value) (B : List Nat), True ∧ (∃ F1, FI = upds F1 [(1, Value.pointer (some ⟨b6275, 0, none⟩)), (2, vI ((newM (0 : Int)).2)), (4, vI ((newM (4 : Int)).2)), (5, Value.pointer (some ⟨b6320, 0, none⟩)), (6, vI ((startM rD).2)), (8, vI ((actM rD (⟨(0 : Int), (0 : Int), (0 : Int), (0 : Int), (0 : Int), (0 : Int)⟩ : DeviceOp) (2 : Int)).2)), (9, Value.pointer (some ⟨bnc47_9, 0, none⟩)), (10, vI ((actM rD ⟨0, 1, 2, 3, 0, 1⟩ 2).2)), (12, vI ((actM rA ⟨0, 2, 2, 3, 0, 1⟩ 2).2)), (13, Value.pointer (some ⟨bnc59_13, 0, none⟩)), (14, vI ((actM rD ⟨0, 1, 2, 3, 0, 1⟩ 1).2)), (16, vI ((startM rHalf).2)), (17, Value.pointer (some ⟨bnc72_17, 0, none⟩)), (18, vI ((startM rR).2)), (162, undef)]) ∧ St w O wI B ∧ RdL Enc.devop wI (B ++ O) (d6287) (rD.ops) ∧ Box wI b6275 31 [vI rD.id, vI rD.counter, d6287, Value.bool rD.halted] ∧ b6275 ∈ B ∧ RdL Enc.devop wI (B ++ O) (d6334) (rS.ops) ∧ Box wI b6320 31 [vI rS.id, vI rS.counter, d6334, Value.bool rS.halted] ∧ b6320 ∈ B ∧ RdL Enc.devop wI (B ++ O) (vnc47_9_2) (rA.ops) ∧ Box wI bnc47_9 31 [vI rA.id, vI rA.counter, vnc47_9_2, Value.bool rA.halted] ∧ bnc47_9 ∈ B ∧ RdL Enc.devop wI (B ++ O) (vnc59_13_2) (rHalf.ops) ∧ Box wI bnc59_13 31 [vI rHalf.id, vI rHalf.counter, vnc59_13_2, Value.bool rHalf.halted] ∧ bnc59_13 ∈ B ∧ Box wI bnc72_17 31 [vI rBack.id, vI rBack.counter, vnc72_17_2, Value.bool rBack.halted] ∧ RdL Enc.devop wI (B ++ O) vnc72_17_2 (rBack.ops) ∧ bnc72_17 ∈ B ∧ NeB b6275 bnc72_17 ∧ NeB b6320 bnc72_17 ∧ NeB bnc47_9 bnc72_17 ∧ NeB bnc59_13 bnc72_17) ?_ ?_
    ·refine cw_drawUL 9 [7] _ _ _ [fun _ => isV (Value.agg #[vI rA.id, vI rA.counter, vnc47_9_2, Value.bool rA.halted]), fun _ => isV (Value.agg #[vI rD.id, vI rD.counter, d6287, Value.bool rD.halted]), fun (BT : List Nat) (vT : Value) (wT : World) => RdL Enc.devop wT (BT ++ O) vT (rD.ops), fun (BT : List Nat) (vT : Value) (wT : World) => ∃ csT : List Value, vT = .agg csT.toArray ∧ Enc.device.rd wT (BT ++ O) csT (rR), fun (BT : List Nat) (vT : Value) (wT : World) => ∃ (xT0 : List Value), vT = .tuple #[.agg xT0.toArray, vI ((startM rR).2)] ∧ Enc.device.rd wT (BT ++ O) xT0 (rBack), fun (BT : List Nat) (vT : Value) (wT : World) => ∃ (xT0 : List Value), vT = .tuple #[.agg xT0.toArray, vI ((startM rR).2)] ∧ Enc.device.rd wT (BT ++ O) xT0 (rBack), fun (BT : List Nat) (vT : Value) (wT : World) => ∃ csT : List Value, vT = .agg csT.toArray ∧ Enc.device.rd wT (BT ++ O) csT (rBack), fun _ => isV (vI ((startM rR).2)), TBx w6712 31 [vI (0 : Int), vI (0 : Int), Value.slice none 0 0, Value.bool false]] [⟨0, [], [], [], false, []⟩, ⟨0, [], [], [], false, []⟩, ⟨1, [], [], [], false, [1]⟩, ⟨1, [1], [], [], false, [0, 2]⟩, ⟨1, [1], [], [], false, [3]⟩, ⟨1, [1], [], [], false, [4]⟩, ⟨1, [1], [], [], false, [5]⟩, ⟨0, [1], [], [], false, [5]⟩, ⟨2, [], [], [], false, []⟩] (b6701 :: Blc59) (by kernel_rfl) (by kernel_rfl) (by kernel_rfl) (by kernel_rfl) (by kernel_rfl) (by decide) rfl rfl rfl ⟨fun _ _ _ _ _ h => h, fun _ _ _ _ _ h => h, (show ∀ B B2 v w w2, (fun (BT : List Nat) (vT : Value) (wT : World) => RdL Enc.devop wT (BT ++ O) vT (rD.ops)) B v w → Mv B w B2 w2 → (fun (BT : List Nat) (vT : Value) (wT : World) => RdL Enc.devop wT (BT ++ O) vT (rD.ops)) B2 v w2 from fun _ _ _ _ _ h m => h.mv m), (show ∀ B B2 v w w2, (fun (BT : List Nat) (vT : Value) (wT : World) => ∃ csT : List Value, vT = .agg csT.toArray ∧ Enc.device.rd wT (BT ++ O) csT (rR)) B v w → Mv B w B2 w2 → (fun (BT : List Nat) (vT : Value) (wT : World) => ∃ csT : List Value, vT = .agg csT.toArray ∧ Enc.device.rd wT (BT ++ O) csT (rR)) B2 v w2 from fun _ _ _ _ _ ⟨a, e, h⟩ m => ⟨a, e, Enc.mv _ h m⟩), (show ∀ B B2 v w w2, (fun (BT : List Nat) (vT : Value) (wT : World) => ∃ (xT0 : List Value), vT = .tuple #[.agg xT0.toArray, vI ((startM rR).2)] ∧ Enc.device.rd wT (BT ++ O) xT0 (rBack)) B v w → Mv B w B2 w2 → (fun (BT : List Nat) (vT : Value) (wT : World) => ∃ (xT0 : List Value), vT = .tuple #[.agg xT0.toArray, vI ((startM rR).2)] ∧ Enc.device.rd wT (BT ++ O) xT0 (rBack)) B2 v w2 from fun _ _ _ _ _ ⟨y0, e, h0⟩ m => ⟨y0, e, Enc.mv _ h0 m⟩), (show ∀ B B2 v w w2, (fun (BT : List Nat) (vT : Value) (wT : World) => ∃ (xT0 : List Value), vT = .tuple #[.agg xT0.toArray, vI ((startM rR).2)] ∧ Enc.device.rd wT (BT ++ O) xT0 (rBack)) B v w → Mv B w B2 w2 → (fun (BT : List Nat) (vT : Value) (wT : World) => ∃ (xT0 : List Value), vT = .tuple #[.agg xT0.toArray, vI ((startM rR).2)] ∧ Enc.device.rd wT (BT ++ O) xT0 (rBack)) B2 v w2 from fun _ _ _ _ _ ⟨y0, e, h0⟩ m => ⟨y0, e, Enc.mv _ h0 m⟩), (show ∀ B B2 v w w2, (fun (BT : List Nat) (vT : Value) (wT : World) => ∃ csT : List Value, vT = .agg csT.toArray ∧ Enc.device.rd wT (BT ++ O) csT (rBack)) B v w → Mv B w B2 w2 → (fun (BT : List Nat) (vT : Value) (wT : World) => ∃ csT : List Value, vT = .agg csT.toArray ∧ Enc.device.rd wT (BT ++ O) csT (rBack)) B2 v w2 from fun _ _ _ _ _ ⟨a, e, h⟩ m => ⟨a, e, Enc.mv _ h m⟩), fun _ _ _ _ _ h => h, TBx.st, trivial⟩ ⟨?_, ?_, ?_, ?_, ?_, ?_, ?_, ?_, ?_, trivial⟩ ?_ ?_
     ·intro F1 w1 B1_ Bs_ k1 hs_ hl_ hr_ hsep_ hf hd
      have k0 := (Keep.drew [] w6712).trans k1
      have hbn_bnc47_9 := hbn_bnc47_9.keep k0 (by simp)
      obtain ⟨F2, rfl⟩ := lit_of (F := F1) [(9, Value.pointer (some ⟨bnc47_9, 0, none⟩))] ⟨hf 9 (by kernel_rfl), trivial⟩
      exact sp_plain rfl ((o_loadBxA (vs := [vI rA.id, vI rA.counter, vnc47_9_2, Value.bool rA.halted]) Try.underlying31 rfl s_31 rfl hbn_bnc47_9 rfl (⟨[], (Keep.refl _ _), noC, rfl⟩)))
     ·intro F1 w1 B1_ Bs_ k1 hs_ hl_ hr_ hsep_ hf hd
      have k0 := (Keep.drew [] w6712).trans k1
      have bx6286 := bx6286.keep k0 (by simp)
      obtain ⟨F2, rfl⟩ := lit_of (F := F1) [(1, Value.pointer (some ⟨b6275, 0, none⟩))] ⟨hf 1 (by kernel_rfl), trivial⟩
      exact sp_plain rfl ((o_loadBxA (vs := [vI rD.id, vI rD.counter, d6287, Value.bool rD.halted]) Try.underlying31 rfl s_31 rfl bx6286 rfl (⟨[], (Keep.refl _ _), noC, rfl⟩)))
     ·intro F1 w1 B1_ Bs_ k1 hs_ hl_ hr_ hsep_ hf hd
      have k0 := (Keep.drew [] w6712).trans k1
      have s1 := s6713.adoptL k0 hl_
      have m1 : Mv (b6701 :: Blc59) w6712 B1_ w1 := Mv.adoptL k0 hl_
      have hd6288 := hd6288.mv m1
      obtain ⟨F2, rfl⟩ := lit_of (F := F1) [(65, Value.agg #[vI rD.id, vI rD.counter, d6287, Value.bool rD.halted])] ⟨hd 1 65 (by kernel_rfl) (by kernel_rfl), trivial⟩
      refine sp_plain rfl ((o_callK (vs := [Value.agg #[vI rD.id, vI rD.counter, d6287, Value.bool rD.halted]]) enter_46 (c_backup (O := B1_ ++ O) [vI rD.id, vI rD.counter, d6287, Value.bool rD.halted] rD w1 ⟨_, rfl, hd6288⟩ (by decide +kernel) s1.lt) rfl s1 fun v6719 w6720 s6721 m6722 k6723 r6724 => (?_)))
      obtain ⟨_, rfl, hl6725⟩ := r6724
      have := hl6725.len_le
      exact ⟨[], k6723, noC, hl6725⟩
     ·intro F1 w1 B1_ Bs_ k1 hs_ hl_ hr_ hsep_ hf hd
      have k0 := (Keep.drew [] w6712).trans k1
      have s1 := s6713.adoptL k0 hl_
      have m1 : Mv (b6701 :: Blc59) w6712 B1_ w1 := Mv.adoptL k0 hl_
      have hvnc47_9_2 := hvnc47_9_2.mv m1
      obtain ⟨v6726, e6728, hl6727⟩ : ∃ v, F1 66 = v ∧ RdL Enc.devop w1 ((Bs_ 1) ++ O) v (rD.ops) := ⟨_, rfl, hd 2 66 (by kernel_rfl) (by kernel_rfl)⟩
      have := hl6727.len_le
      have hl6727 := hl6727.mv (Mv.at_ (hr_ 1 (by kernel_rfl)))
      obtain ⟨F2, rfl⟩ := lit_of (F := F1) [(64, Value.agg #[vI rA.id, vI rA.counter, vnc47_9_2, Value.bool rA.halted]), (66, v6726)] ⟨hd 0 64 (by kernel_rfl) (by kernel_rfl), e6728, trivial⟩
      refine sp_plain rfl ((o_callK (vs := [Value.agg #[vI rA.id, vI rA.counter, vnc47_9_2, Value.bool rA.halted], v6726]) enter_47 (c_restore (O := B1_ ++ O) [vI rA.id, vI rA.counter, vnc47_9_2, Value.bool rA.halted] rA v6726 rD.ops w1 ⟨_, rfl, hvnc47_9_2⟩ hl6727 (by decide +kernel) s1.lt) rfl s1 fun v6729 w6730 s6731 m6732 k6733 r6734 => (?_)))
      obtain ⟨cs6735, rfl, hs6736⟩ := r6734
      have hs6736 : Enc.device.rd w6730 (B1_ ++ O) cs6735 rR := hs6736
      exact ⟨[], k6733, noC, ⟨cs6735, rfl, hs6736⟩⟩
     ·intro F1 w1 B1_ Bs_ k1 hs_ hl_ hr_ hsep_ hf hd
      have k0 := (Keep.drew [] w6712).trans k1
      have s1 := s6713.adoptL k0 hl_
      obtain ⟨cs6737, e6739, hs6738⟩ : ∃ cs : List Value, F1 67 = .agg cs.toArray ∧ Enc.device.rd w1 ((Bs_ 1) ++ O) cs (rR) := hd 3 67 (by kernel_rfl) (by kernel_rfl)
      have hs6738 : Enc.device.rd w1 (B1_ ++ O) cs6737 (rR) := Enc.mv Enc.device (x := rR) hs6738 (Mv.at_ (hr_ 1 (by kernel_rfl)))
      obtain ⟨F2, rfl⟩ := lit_of (F := F1) [(67, Value.agg cs6737.toArray)] ⟨e6739, trivial⟩
      refine sp_plain rfl ((o_callK (vs := [Value.agg cs6737.toArray]) enter_44 (c_start (O := B1_ ++ O) cs6737 rR w1 hs6738 s1.lt) rfl s1 fun v6740 w6741 s6742 m6743 k6744 r6745 => (?_)))
      obtain ⟨cs6746, rfl, hs6747⟩ := r6745
      have hs6747 : Enc.device.rd w6741 (B1_ ++ O) cs6746 rBack := hs6747
      exact ⟨[], k6744, noC, ⟨cs6746, rfl, hs6747⟩⟩
     ·intro F1 w1 B1_ Bs_ k1 hs_ hl_ hr_ hsep_ hf hd
      obtain ⟨cs6748, e6750, hs6749⟩ : (fun (vT : Value) (wT : World) => ∃ (xT0 : List Value), vT = .tuple #[.agg xT0.toArray, vI ((startM rR).2)] ∧ Enc.device.rd wT ((Bs_ 1) ++ O) xT0 (rBack)) (F1 68) w1 := hd 4 68 (by kernel_rfl) (by kernel_rfl)
      have hs6749 : Enc.device.rd w1 (B1_ ++ O) cs6748 (rBack) := Enc.mv Enc.device (x := rBack) hs6749 (Mv.at_ (hr_ 1 (by kernel_rfl)))
      obtain ⟨F2, rfl⟩ := lit_of (F := F1) [(68, Value.tuple #[Value.agg cs6748.toArray, vI ((startM rR).2)])] ⟨e6750, trivial⟩
      exact sp_plain rfl ((o_move (Value.tuple #[Value.agg cs6748.toArray, vI ((startM rR).2)]) rfl (⟨[], (Keep.refl _ _), noC, ⟨cs6748, rfl, hs6749⟩⟩)))
     ·intro F1 w1 B1_ Bs_ k1 hs_ hl_ hr_ hsep_ hf hd
      obtain ⟨cs6751, e6753, hs6752⟩ : (fun (vT : Value) (wT : World) => ∃ (xT0 : List Value), vT = .tuple #[.agg xT0.toArray, vI ((startM rR).2)] ∧ Enc.device.rd wT ((Bs_ 1) ++ O) xT0 (rBack)) (F1 63) w1 := hd 5 63 (by kernel_rfl) (by kernel_rfl)
      have hs6752 : Enc.device.rd w1 (B1_ ++ O) cs6751 (rBack) := Enc.mv Enc.device (x := rBack) hs6752 (Mv.at_ (hr_ 1 (by kernel_rfl)))
      obtain ⟨F2, rfl⟩ := lit_of (F := F1) [(63, Value.tuple #[Value.agg cs6751.toArray, vI ((startM rR).2)])] ⟨e6753, trivial⟩
      exact sp_plain rfl ((o_extract (Value.agg cs6751.toArray) rfl rfl (⟨[], (Keep.refl _ _), noC, ⟨cs6751, rfl, hs6752⟩⟩)))
     ·intro F1 w1 B1_ Bs_ k1 hs_ hl_ hr_ hsep_ hf hd
      obtain ⟨cs6754, e6756, hs6755⟩ : (fun (vT : Value) (wT : World) => ∃ (xT0 : List Value), vT = .tuple #[.agg xT0.toArray, vI ((startM rR).2)] ∧ Enc.device.rd wT ((Bs_ 1) ++ O) xT0 (rBack)) (F1 63) w1 := hd 5 63 (by kernel_rfl) (by kernel_rfl)
      obtain ⟨F2, rfl⟩ := lit_of (F := F1) [(63, Value.tuple #[Value.agg cs6754.toArray, vI ((startM rR).2)])] ⟨e6756, trivial⟩
      exact sp_plain rfl ((o_extract (vI ((startM rR).2)) rfl rfl (⟨[], (Keep.refl _ _), noC, rfl⟩)))
     ·intro F1 w1 B1_ Bs_ k1 hs_ hl_ hr_ hsep_ hf hd
      have k0 := (Keep.drew [] w6712).trans k1
      have s1 := s6713.adoptL k0 hl_
      obtain ⟨F2, rfl⟩ := lit_of (F := F1) [] trivial
      refine sp_plain rfl ((o_alloc [vI (0 : Int), vI (0 : Int), Value.slice none 0 0, Value.bool false] z_31 rfl s1 fun b6757 w6758 e6763 s6759 m6760 k6761 bx6762 => (?_)))
      have lo6764 : w6712.heap.size ≤ b6757 := by have := k0.size; omega
      exact ⟨[], k6761, noC, ⟨_, rfl, lo6764, (by intro h; have := lt_of s1 _ h; omega), bx6762⟩⟩
     ·intro F6766 w6767 Bs6772 k6765 hB6773 hl6774 sep6775 hT6768 hF6769
      obtain ⟨b6776, e6780, lo6777, hn6778, bx6781⟩ : (TBx w6712 31 [vI (0 : Int), vI (0 : Int), Value.slice none 0 0, Value.bool false]) (Bs6772 2) (F6766 17) w6767 := hT6768 8 17 (by kernel_rfl) (by decide) (by kernel_rfl) (by kernel_rfl)
      have hi6779 := bx6781.lt
      have hl6782 : ∀ x ∈ (b6701 :: Blc59), x ∈ (b6701 :: Blc59) ∨ (w6712.heap.size ≤ x ∧ x < w6767.heap.size) := fun x hx => .inl hx
      have hsu6783 : ∀ x ∈ (b6701 :: Blc59), x ∈ (b6701 :: Blc59) := fun x hx => hx
      have hq6784 : ∀ x ∈ (b6701 :: Blc59), x ∈ Bs6772 1 := fun x hx => hB6773 1 x hx
      have hq6785 : ∀ x ∈ (b6701 :: Blc59), x ∈ Bs6772 2 := fun x hx => hB6773 2 x hx
      have hl6786 : ∀ x ∈ (b6776 :: (b6701 :: Blc59)), x ∈ (b6701 :: Blc59) ∨ (w6712.heap.size ≤ x ∧ x < w6767.heap.size) := fun x hx => by rcases List.mem_cons.1 hx with rfl | hx; exact .inr ⟨lo6777, hi6779⟩; exact hl6782 x hx
      have hsu6787 : ∀ x ∈ (b6701 :: Blc59), x ∈ (b6776 :: (b6701 :: Blc59)) := fun x hx => List.mem_cons_of_mem _ (hsu6783 x hx)
      have hq6788 : ∀ x ∈ (b6776 :: (b6701 :: Blc59)), x ∈ Bs6772 1 := fun x hx => by rcases List.mem_cons.1 hx with rfl | hx; exact sep6775 2 1 _ (by decide) lo6777 hi6779 hn6778; exact hq6784 x hx
      have s6770 := s6713.adoptL k6765 hl6786
      have m6771 : Mv (b6701 :: Blc59) w6712 (b6776 :: (b6701 :: Blc59)) w6767 := Mv.adoptL k6765 hl6786
      have ne6789 : NeB b6275 b6776 := by show b6275 ≠ b6776; have := bx6286.lt; omega
      have ne6790 : NeB b6320 b6776 := by show b6320 ≠ b6776; have := bx6333.lt; omega
      have ne6791 : NeB bnc47_9 b6776 := by show bnc47_9 ≠ b6776; have := hbn_bnc47_9.lt; omega
      have ne6792 : NeB bnc59_13 b6776 := by show bnc59_13 ≠ b6776; have := hbn_bnc59_13.lt; omega
      have ne6793 : NeB b6701 b6776 := by show b6701 ≠ b6776; have := bx6716.lt; omega
      obtain ⟨cs6794, e6796, hs6795⟩ : ∃ cs : List Value, F6766 69 = .agg cs.toArray ∧ Enc.device.rd w6767 ((Bs6772 1) ++ O) cs (rBack) := hT6768 6 69 (by kernel_rfl) (by decide) (by kernel_rfl) (by kernel_rfl)
      have hs6795 : Enc.device.rd w6767 ((b6776 :: (b6701 :: Blc59)) ++ O) cs6794 (rBack) := Enc.mv Enc.device (x := rBack) hs6795 (Mv.at_ hq6788)
      have hvnc59_13_2 := hvnc59_13_2.mv m6771
      have hd6288 := hd6288.mv m6771
      have bx6286 := bx6286.keep k6765 (by simp)
      have hd6335 := hd6335.mv m6771
      have bx6333 := bx6333.keep k6765 (by simp)
      have hvnc47_9_2 := hvnc47_9_2.mv m6771
      have hbn_bnc47_9 := hbn_bnc47_9.keep k6765 (by simp)
      have hbn_bnc59_13 := hbn_bnc59_13.keep k6765 (by simp)
      obtain ⟨F2, rfl⟩ := lit_of (F := F6766) [(1, Value.pointer (some ⟨b6275, 0, none⟩)), (2, vI ((newM (0 : Int)).2)), (4, vI ((newM (4 : Int)).2)), (5, Value.pointer (some ⟨b6320, 0, none⟩)), (6, vI ((startM rD).2)), (8, vI ((actM rD (⟨(0 : Int), (0 : Int), (0 : Int), (0 : Int), (0 : Int), (0 : Int)⟩ : DeviceOp) (2 : Int)).2)), (9, Value.pointer (some ⟨bnc47_9, 0, none⟩)), (10, vI ((actM rD ⟨0, 1, 2, 3, 0, 1⟩ 2).2)), (12, vI ((actM rA ⟨0, 2, 2, 3, 0, 1⟩ 2).2)), (13, Value.pointer (some ⟨bnc59_13, 0, none⟩)), (14, vI ((actM rD ⟨0, 1, 2, 3, 0, 1⟩ 1).2)), (16, vI ((startM rHalf).2)), (162, undef), (17, Value.pointer (some ⟨b6776, 0, none⟩)), (69, Value.agg cs6794.toArray), (70, vI ((startM rR).2))] ⟨hF6769 1 (by kernel_rfl), hF6769 2 (by kernel_rfl), hF6769 4 (by kernel_rfl), hF6769 5 (by kernel_rfl), hF6769 6 (by kernel_rfl), hF6769 8 (by kernel_rfl), hF6769 9 (by kernel_rfl), hF6769 10 (by kernel_rfl), hF6769 12 (by kernel_rfl), hF6769 13 (by kernel_rfl), hF6769 14 (by kernel_rfl), hF6769 16 (by kernel_rfl), hF6769 162 (by kernel_rfl), e6780, e6796, hT6768 7 70 (by kernel_rfl) (by decide) (by kernel_rfl) (by kernel_rfl), trivial⟩
      clear hT6768 hF6769 hB6773 hl6774 sep6775
      obtain ⟨d6802, rfl, hd6803⟩ := hs6795
      have := hd6803.len_le
      refine wl_n (o_store (vs := [vI rBack.id, vI rBack.counter, d6802, Value.bool rBack.halted]) (.agg #[vI rBack.id, vI rBack.counter, d6802, Value.bool rBack.halted]) rfl rfl rfl s_31 (fun u hu => by simp only [List.mem_cons, List.not_mem_nil, or_false] at hu; rcases hu with rfl | rfl | rfl | rfl <;> first | rfl | exact hd6803.oneCell) (by repeat (first | assumption | constructor)) bx6781 (of_decide_eq_true rfl) s6770 fun w6797 s6798 m6799 k6800 bx6801 => (?_))
      have hd6803 := hd6803.mv m6799
      have hd6288 := hd6288.mv m6799
      have bx6286 := bx6286.keep k6800 (nin1 ne6789)
      have hd6335 := hd6335.mv m6799
      have bx6333 := bx6333.keep k6800 (nin1 ne6790)
      have hvnc47_9_2 := hvnc47_9_2.mv m6799
      have hbn_bnc47_9 := hbn_bnc47_9.keep k6800 (nin1 ne6791)
      have hvnc59_13_2 := hvnc59_13_2.mv m6799
      have hbn_bnc59_13 := hbn_bnc59_13.keep k6800 (nin1 ne6792)
      refine wl_s (o_assign (vI ((startM rR).2)) rfl (wl_nil (thenQ_n (?_))))
      exact ⟨b6776, d6802, (b6776 :: (b6701 :: Blc59)), trivial, ⟨_, upds_self _ ⟨rfl, rfl, rfl, rfl, rfl, rfl, rfl, rfl, rfl, rfl, rfl, rfl, rfl, rfl, rfl, trivial⟩⟩, s6798, hd6288, bx6286, (by first | assumption | (repeat (first | exact List.mem_cons_self | assumption | apply List.mem_cons_of_mem)) | (apply_assumption; assumption)), hd6335, bx6333, (by first | assumption | (repeat (first | exact List.mem_cons_self | assumption | apply List.mem_cons_of_mem)) | (apply_assumption; assumption)), hvnc47_9_2, hbn_bnc47_9, (by first | assumption | (repeat (first | exact List.mem_cons_self | assumption | apply List.mem_cons_of_mem)) | (apply_assumption; assumption)), hvnc59_13_2, hbn_bnc59_13, (by first | assumption | (repeat (first | exact List.mem_cons_self | assumption | apply List.mem_cons_of_mem)) | (apply_assumption; assumption)), bx6801, hd6803, (by repeat (first | assumption | constructor)), ne6789, ne6790, ne6791, ne6792⟩
     ·intro cx_ hcx_
      match cx_, hcx_ with
      | 0, _ =>
       intro F6805 w6806 Bs6811 k6804 hB6812 hl6813 sep6814 hT6807 hF6808
       obtain ⟨b6815, e6819, lo6816, hn6817, bx6820⟩ : (TBx w6712 31 [vI (0 : Int), vI (0 : Int), Value.slice none 0 0, Value.bool false]) (Bs6811 2) (F6805 17) w6806 := hT6807 8 17 (by kernel_rfl) (by decide) (by kernel_rfl) (by kernel_rfl)
       have hi6818 := bx6820.lt
       have hl6821 : ∀ x ∈ (b6701 :: Blc59), x ∈ (b6701 :: Blc59) ∨ (w6712.heap.size ≤ x ∧ x < w6806.heap.size) := fun x hx => .inl hx
       have hsu6822 : ∀ x ∈ (b6701 :: Blc59), x ∈ (b6701 :: Blc59) := fun x hx => hx
       have hq6823 : ∀ x ∈ (b6701 :: Blc59), x ∈ Bs6811 1 := fun x hx => hB6812 1 x hx
       have hq6824 : ∀ x ∈ (b6701 :: Blc59), x ∈ Bs6811 2 := fun x hx => hB6812 2 x hx
       have hl6825 : ∀ x ∈ (b6815 :: (b6701 :: Blc59)), x ∈ (b6701 :: Blc59) ∨ (w6712.heap.size ≤ x ∧ x < w6806.heap.size) := fun x hx => by rcases List.mem_cons.1 hx with rfl | hx; exact .inr ⟨lo6816, hi6818⟩; exact hl6821 x hx
       have hsu6826 : ∀ x ∈ (b6701 :: Blc59), x ∈ (b6815 :: (b6701 :: Blc59)) := fun x hx => List.mem_cons_of_mem _ (hsu6822 x hx)
       have hq6827 : ∀ x ∈ (b6815 :: (b6701 :: Blc59)), x ∈ Bs6811 1 := fun x hx => by rcases List.mem_cons.1 hx with rfl | hx; exact sep6814 2 1 _ (by decide) lo6816 hi6818 hn6817; exact hq6823 x hx
       have s6809 := s6713.adoptL k6804 hl6825
       have m6810 : Mv (b6701 :: Blc59) w6712 (b6815 :: (b6701 :: Blc59)) w6806 := Mv.adoptL k6804 hl6825
       have ne6828 : NeB b6275 b6815 := by show b6275 ≠ b6815; have := bx6286.lt; omega
       have ne6829 : NeB b6320 b6815 := by show b6320 ≠ b6815; have := bx6333.lt; omega
       have ne6830 : NeB bnc47_9 b6815 := by show bnc47_9 ≠ b6815; have := hbn_bnc47_9.lt; omega
       have ne6831 : NeB bnc59_13 b6815 := by show bnc59_13 ≠ b6815; have := hbn_bnc59_13.lt; omega
       have ne6832 : NeB b6701 b6815 := by show b6701 ≠ b6815; have := bx6716.lt; omega
       obtain ⟨cs6833, e6835, hs6834⟩ : (fun (vT : Value) (wT : World) => ∃ (xT0 : List Value), vT = .tuple #[.agg xT0.toArray, vI ((startM rR).2)] ∧ Enc.device.rd wT ((Bs6811 1) ++ O) xT0 (rBack)) (F6805 63) w6806 := hT6807 5 63 (by kernel_rfl) (by decide) (by kernel_rfl) (by kernel_rfl)
       obtain ⟨cs6836, e6838, hs6837⟩ : ∃ cs : List Value, F6805 69 = .agg cs.toArray ∧ Enc.device.rd w6806 ((Bs6811 1) ++ O) cs (rBack) := hT6807 6 69 (by kernel_rfl) (by decide) (by kernel_rfl) (by kernel_rfl)
       have hs6837 : Enc.device.rd w6806 ((b6815 :: (b6701 :: Blc59)) ++ O) cs6836 (rBack) := Enc.mv Enc.device (x := rBack) hs6837 (Mv.at_ hq6827)
       have hvnc59_13_2 := hvnc59_13_2.mv m6810
       have hd6288 := hd6288.mv m6810
       have bx6286 := bx6286.keep k6804 (by simp)
       have hd6335 := hd6335.mv m6810
       have bx6333 := bx6333.keep k6804 (by simp)
       have hvnc47_9_2 := hvnc47_9_2.mv m6810
       have hbn_bnc47_9 := hbn_bnc47_9.keep k6804 (by simp)
       have hbn_bnc59_13 := hbn_bnc59_13.keep k6804 (by simp)
       obtain ⟨F2, rfl⟩ := lit_of (F := F6805) [(1, Value.pointer (some ⟨b6275, 0, none⟩)), (2, vI ((newM (0 : Int)).2)), (4, vI ((newM (4 : Int)).2)), (5, Value.pointer (some ⟨b6320, 0, none⟩)), (6, vI ((startM rD).2)), (8, vI ((actM rD (⟨(0 : Int), (0 : Int), (0 : Int), (0 : Int), (0 : Int), (0 : Int)⟩ : DeviceOp) (2 : Int)).2)), (9, Value.pointer (some ⟨bnc47_9, 0, none⟩)), (10, vI ((actM rD ⟨0, 1, 2, 3, 0, 1⟩ 2).2)), (12, vI ((actM rA ⟨0, 2, 2, 3, 0, 1⟩ 2).2)), (13, Value.pointer (some ⟨bnc59_13, 0, none⟩)), (14, vI ((actM rD ⟨0, 1, 2, 3, 0, 1⟩ 1).2)), (16, vI ((startM rHalf).2)), (162, undef), (17, Value.pointer (some ⟨b6815, 0, none⟩)), (63, Value.tuple #[Value.agg cs6833.toArray, vI ((startM rR).2)]), (69, Value.agg cs6836.toArray)] ⟨hF6808 1 (by kernel_rfl), hF6808 2 (by kernel_rfl), hF6808 4 (by kernel_rfl), hF6808 5 (by kernel_rfl), hF6808 6 (by kernel_rfl), hF6808 8 (by kernel_rfl), hF6808 9 (by kernel_rfl), hF6808 10 (by kernel_rfl), hF6808 12 (by kernel_rfl), hF6808 13 (by kernel_rfl), hF6808 14 (by kernel_rfl), hF6808 16 (by kernel_rfl), hF6808 162 (by kernel_rfl), e6819, e6835, e6838, trivial⟩
       clear hT6807 hF6808 hB6812 hl6813 sep6814
       obtain ⟨d6844, rfl, hd6845⟩ := hs6837
       have := hd6845.len_le
       refine wl_n (o_store (vs := [vI rBack.id, vI rBack.counter, d6844, Value.bool rBack.halted]) (.agg #[vI rBack.id, vI rBack.counter, d6844, Value.bool rBack.halted]) rfl rfl rfl s_31 (fun u hu => by simp only [List.mem_cons, List.not_mem_nil, or_false] at hu; rcases hu with rfl | rfl | rfl | rfl <;> first | rfl | exact hd6845.oneCell) (by repeat (first | assumption | constructor)) bx6820 (of_decide_eq_true rfl) s6809 fun w6839 s6840 m6841 k6842 bx6843 => (?_))
       have hd6845 := hd6845.mv m6841
       have hd6288 := hd6288.mv m6841
       have bx6286 := bx6286.keep k6842 (nin1 ne6828)
       have hd6335 := hd6335.mv m6841
       have bx6333 := bx6333.keep k6842 (nin1 ne6829)
       have hvnc47_9_2 := hvnc47_9_2.mv m6841
       have hbn_bnc47_9 := hbn_bnc47_9.keep k6842 (nin1 ne6830)
       have hvnc59_13_2 := hvnc59_13_2.mv m6841
       have hbn_bnc59_13 := hbn_bnc59_13.keep k6842 (nin1 ne6831)
       refine wl_s (o_extract (vI ((startM rR).2)) rfl rfl (wl_s (o_assign (vI ((startM rR).2)) rfl (wl_nil (thenQ_n (?_))))))
       exact ⟨b6815, d6844, (b6815 :: (b6701 :: Blc59)), trivial, ⟨_, upds_self _ ⟨rfl, rfl, rfl, rfl, rfl, rfl, rfl, rfl, rfl, rfl, rfl, rfl, rfl, rfl, rfl, trivial⟩⟩, s6840, hd6288, bx6286, (by first | assumption | (repeat (first | exact List.mem_cons_self | assumption | apply List.mem_cons_of_mem)) | (apply_assumption; assumption)), hd6335, bx6333, (by first | assumption | (repeat (first | exact List.mem_cons_self | assumption | apply List.mem_cons_of_mem)) | (apply_assumption; assumption)), hvnc47_9_2, hbn_bnc47_9, (by first | assumption | (repeat (first | exact List.mem_cons_self | assumption | apply List.mem_cons_of_mem)) | (apply_assumption; assumption)), hvnc59_13_2, hbn_bnc59_13, (by first | assumption | (repeat (first | exact List.mem_cons_self | assumption | apply List.mem_cons_of_mem)) | (apply_assumption; assumption)), bx6843, hd6845, (by repeat (first | assumption | constructor)), ne6828, ne6829, ne6830, ne6831⟩
    ·intro F wlc72 hI
     clear hd6288 bx6286 hd6335 bx6333 hvnc47_9_2 hbn_bnc47_9 hvnc59_13_2 hbn_bnc59_13
     obtain ⟨bnc72_17, vnc72_17_2, Blc72, hmc72, ⟨Flc72, rfl⟩, slc72, hd6288, bx6286, hin_b6275, hd6335, bx6333, hin_b6320, hvnc47_9_2, hbn_bnc47_9, hin_bnc47_9, hvnc59_13_2, hbn_bnc59_13, hin_bnc59_13, hbn_bnc72_17, hvnc72_17_2, hin_bnc72_17, nebnc72_17_b6275, nebnc72_17_b6320, nebnc72_17_bnc47_9, nebnc72_17_bnc59_13⟩ := hI
     have := hvnc72_17_2.len_le
     refine cw_cut (fun FI wI => ∃ (B : List Nat), True ∧ (∃ F1, FI = upds F1 [(1, Value.pointer (some ⟨b6275, 0, none⟩)), (2, vI ((newM (0 : Int)).2)), (4, vI ((newM (4 : Int)).2)), (5, Value.pointer (some ⟨b6320, 0, none⟩)), (6, vI ((startM rD).2)), (8, vI ((actM rD (⟨(0 : Int), (0 : Int), (0 : Int), (0 : Int), (0 : Int), (0 : Int)⟩ : DeviceOp) (2 : Int)).2)), (9, Value.pointer (some ⟨bnc47_9, 0, none⟩)), (10, vI ((actM rD ⟨0, 1, 2, 3, 0, 1⟩ 2).2)), (12, vI ((actM rA ⟨0, 2, 2, 3, 0, 1⟩ 2).2)), (13, Value.pointer (some ⟨bnc59_13, 0, none⟩)), (14, vI ((actM rD ⟨0, 1, 2, 3, 0, 1⟩ 1).2)), (16, vI ((startM rHalf).2)), (17, Value.pointer (some ⟨bnc72_17, 0, none⟩)), (18, vI ((startM rR).2)), (20, vI ((actM rBack ⟨0, 2, 2, 4, 0, 1⟩ 2).2)), (162, undef)]) ∧ St w O wI B ∧ RdL Enc.devop wI (B ++ O) (d6287) (rD.ops) ∧ Box wI b6275 31 [vI rD.id, vI rD.counter, d6287, Value.bool rD.halted] ∧ b6275 ∈ B ∧ RdL Enc.devop wI (B ++ O) (d6334) (rS.ops) ∧ Box wI b6320 31 [vI rS.id, vI rS.counter, d6334, Value.bool rS.halted] ∧ b6320 ∈ B ∧ RdL Enc.devop wI (B ++ O) (vnc47_9_2) (rA.ops) ∧ Box wI bnc47_9 31 [vI rA.id, vI rA.counter, vnc47_9_2, Value.bool rA.halted] ∧ bnc47_9 ∈ B ∧ RdL Enc.devop wI (B ++ O) (vnc59_13_2) (rHalf.ops) ∧ Box wI bnc59_13 31 [vI rHalf.id, vI rHalf.counter, vnc59_13_2, Value.bool rHalf.halted] ∧ bnc59_13 ∈ B ∧ RdL Enc.devop wI (B ++ O) (vnc72_17_2) (rBack.ops) ∧ Box wI bnc72_17 31 [vI rBack.id, vI rBack.counter, vnc72_17_2, Value.bool rBack.halted] ∧ bnc72_17 ∈ B) ?_ ?_
     ·refine cw_drawUL 7 [5] _ _ _ [fun _ => isV (Value.agg #[vI rBack.id, vI rBack.counter, vnc72_17_2, Value.bool rBack.halted]), fun _ => isV (Value.agg #[vI (((⟨0, (2 : Int), 2, (4 : Int), 0, 1⟩ : DeviceOp)).device), vI (((⟨0, (2 : Int), 2, (4 : Int), 0, 1⟩ : DeviceOp)).no), vI (((⟨0, (2 : Int), 2, (4 : Int), 0, 1⟩ : DeviceOp)).kind), vI (((⟨0, (2 : Int), 2, (4 : Int), 0, 1⟩ : DeviceOp)).copy), vI (((⟨0, (2 : Int), 2, (4 : Int), 0, 1⟩ : DeviceOp)).to), vI (((⟨0, (2 : Int), 2, (4 : Int), 0, 1⟩ : DeviceOp)).token)]), fun (BT : List Nat) (vT : Value) (wT : World) => ∃ (xT0 : List Value), vT = .tuple #[.agg xT0.toArray, vI ((actM rBack ((⟨0, (2 : Int), 2, (4 : Int), 0, 1⟩ : DeviceOp)) (2 : Int)).2)] ∧ Enc.device.rd wT (BT ++ O) xT0 (rE5), fun (BT : List Nat) (vT : Value) (wT : World) => ∃ (xT0 : List Value), vT = .tuple #[.agg xT0.toArray, vI ((actM rBack ((⟨0, (2 : Int), 2, (4 : Int), 0, 1⟩ : DeviceOp)) (2 : Int)).2)] ∧ Enc.device.rd wT (BT ++ O) xT0 (rE5), fun (BT : List Nat) (vT : Value) (wT : World) => ∃ csT : List Value, vT = .agg csT.toArray ∧ Enc.device.rd wT (BT ++ O) csT (rE5), fun _ => isV (vI ((actM rBack ((⟨0, (2 : Int), 2, (4 : Int), 0, 1⟩ : DeviceOp)) (2 : Int)).2)), TBx wlc72 31 [vI (0 : Int), vI (0 : Int), Value.slice none 0 0, Value.bool false]] [⟨0, [], [], [], false, []⟩, ⟨0, [], [], [], false, []⟩, ⟨1, [], [], [], false, [0, 1]⟩, ⟨1, [1], [], [], false, [2]⟩, ⟨1, [1], [], [], false, [3]⟩, ⟨0, [1], [], [], false, [3]⟩, ⟨2, [], [], [], false, []⟩] Blc72 (by kernel_rfl) (by kernel_rfl) (by kernel_rfl) (by kernel_rfl) (by kernel_rfl) (by decide) rfl rfl rfl ⟨fun _ _ _ _ _ h => h, fun _ _ _ _ _ h => h, (show ∀ B B2 v w w2, (fun (BT : List Nat) (vT : Value) (wT : World) => ∃ (xT0 : List Value), vT = .tuple #[.agg xT0.toArray, vI ((actM rBack ((⟨0, (2 : Int), 2, (4 : Int), 0, 1⟩ : DeviceOp)) (2 : Int)).2)] ∧ Enc.device.rd wT (BT ++ O) xT0 (rE5)) B v w → Mv B w B2 w2 → (fun (BT : List Nat) (vT : Value) (wT : World) => ∃ (xT0 : List Value), vT = .tuple #[.agg xT0.toArray, vI ((actM rBack ((⟨0, (2 : Int), 2, (4 : Int), 0, 1⟩ : DeviceOp)) (2 : Int)).2)] ∧ Enc.device.rd wT (BT ++ O) xT0 (rE5)) B2 v w2 from fun _ _ _ _ _ ⟨y0, e, h0⟩ m => ⟨y0, e, Enc.mv _ h0 m⟩), (show ∀ B B2 v w w2, (fun (BT : List Nat) (vT : Value) (wT : World) => ∃ (xT0 : List Value), vT = .tuple #[.agg xT0.toArray, vI ((actM rBack ((⟨0, (2 : Int), 2, (4 : Int), 0, 1⟩ : DeviceOp)) (2 : Int)).2)] ∧ Enc.device.rd wT (BT ++ O) xT0 (rE5)) B v w → Mv B w B2 w2 → (fun (BT : List Nat) (vT : Value) (wT : World) => ∃ (xT0 : List Value), vT = .tuple #[.agg xT0.toArray, vI ((actM rBack ((⟨0, (2 : Int), 2, (4 : Int), 0, 1⟩ : DeviceOp)) (2 : Int)).2)] ∧ Enc.device.rd wT (BT ++ O) xT0 (rE5)) B2 v w2 from fun _ _ _ _ _ ⟨y0, e, h0⟩ m => ⟨y0, e, Enc.mv _ h0 m⟩), (show ∀ B B2 v w w2, (fun (BT : List Nat) (vT : Value) (wT : World) => ∃ csT : List Value, vT = .agg csT.toArray ∧ Enc.device.rd wT (BT ++ O) csT (rE5)) B v w → Mv B w B2 w2 → (fun (BT : List Nat) (vT : Value) (wT : World) => ∃ csT : List Value, vT = .agg csT.toArray ∧ Enc.device.rd wT (BT ++ O) csT (rE5)) B2 v w2 from fun _ _ _ _ _ ⟨a, e, h⟩ m => ⟨a, e, Enc.mv _ h m⟩), fun _ _ _ _ _ h => h, TBx.st, trivial⟩ ⟨?_, ?_, ?_, ?_, ?_, ?_, ?_, trivial⟩ ?_ ?_
      ·intro F1 w1 B1_ Bs_ k1 hs_ hl_ hr_ hsep_ hf hd
       have k0 := (Keep.drew [] wlc72).trans k1
       have hbn_bnc72_17 := hbn_bnc72_17.keep k0 (by simp)
       obtain ⟨F2, rfl⟩ := lit_of (F := F1) [(17, Value.pointer (some ⟨bnc72_17, 0, none⟩))] ⟨hf 17 (by kernel_rfl), trivial⟩
       exact sp_plain rfl ((o_loadBxA (vs := [vI rBack.id, vI rBack.counter, vnc72_17_2, Value.bool rBack.halted]) Try.underlying31 rfl s_31 rfl hbn_bnc72_17 rfl (⟨[], (Keep.refl _ _), noC, rfl⟩)))
      ·intro F1 w1 B1_ Bs_ k1 hs_ hl_ hr_ hsep_ hf hd
       have k0 := (Keep.drew [] wlc72).trans k1
       have s1 := slc72.call k0
       obtain ⟨F2, rfl⟩ := lit_of (F := F1) [] trivial
       refine sp_plain rfl ((o_callK (vs := [vI (2 : Int), vI (4 : Int)]) enter_77 (c_show43 (O := Blc72 ++ O) (2 : Int) (4 : Int) w1 s1.lt) rfl s1 fun v6846 w6847 s6848 m6849 k6850 r6851 => (?_)))
       obtain ⟨cs6852, rfl, hs6853⟩ := r6851
       obtain rfl := hs6853
       exact ⟨[], k6850, noC, rfl⟩
      ·intro F1 w1 B1_ Bs_ k1 hs_ hl_ hr_ hsep_ hf hd
       have k0 := (Keep.drew [] wlc72).trans k1
       have s1 := slc72.adoptL k0 hl_
       have m1 : Mv Blc72 wlc72 B1_ w1 := Mv.adoptL k0 hl_
       have hvnc72_17_2 := hvnc72_17_2.mv m1
       obtain ⟨F2, rfl⟩ := lit_of (F := F1) [(72, Value.agg #[vI rBack.id, vI rBack.counter, vnc72_17_2, Value.bool rBack.halted]), (73, Value.agg #[vI (((⟨0, (2 : Int), 2, (4 : Int), 0, 1⟩ : DeviceOp)).device), vI (((⟨0, (2 : Int), 2, (4 : Int), 0, 1⟩ : DeviceOp)).no), vI (((⟨0, (2 : Int), 2, (4 : Int), 0, 1⟩ : DeviceOp)).kind), vI (((⟨0, (2 : Int), 2, (4 : Int), 0, 1⟩ : DeviceOp)).copy), vI (((⟨0, (2 : Int), 2, (4 : Int), 0, 1⟩ : DeviceOp)).to), vI (((⟨0, (2 : Int), 2, (4 : Int), 0, 1⟩ : DeviceOp)).token)])] ⟨hd 0 72 (by kernel_rfl) (by kernel_rfl), hd 1 73 (by kernel_rfl) (by kernel_rfl), trivial⟩
       refine sp_plain rfl ((o_callK (vs := [Value.agg #[vI rBack.id, vI rBack.counter, vnc72_17_2, Value.bool rBack.halted], Value.agg #[vI (((⟨0, (2 : Int), 2, (4 : Int), 0, 1⟩ : DeviceOp)).device), vI (((⟨0, (2 : Int), 2, (4 : Int), 0, 1⟩ : DeviceOp)).no), vI (((⟨0, (2 : Int), 2, (4 : Int), 0, 1⟩ : DeviceOp)).kind), vI (((⟨0, (2 : Int), 2, (4 : Int), 0, 1⟩ : DeviceOp)).copy), vI (((⟨0, (2 : Int), 2, (4 : Int), 0, 1⟩ : DeviceOp)).to), vI (((⟨0, (2 : Int), 2, (4 : Int), 0, 1⟩ : DeviceOp)).token)], vI (2 : Int)]) enter_40 (c_act (O := B1_ ++ O) [vI rBack.id, vI rBack.counter, vnc72_17_2, Value.bool rBack.halted] rBack [vI (((⟨0, (2 : Int), 2, (4 : Int), 0, 1⟩ : DeviceOp)).device), vI (((⟨0, (2 : Int), 2, (4 : Int), 0, 1⟩ : DeviceOp)).no), vI (((⟨0, (2 : Int), 2, (4 : Int), 0, 1⟩ : DeviceOp)).kind), vI (((⟨0, (2 : Int), 2, (4 : Int), 0, 1⟩ : DeviceOp)).copy), vI (((⟨0, (2 : Int), 2, (4 : Int), 0, 1⟩ : DeviceOp)).to), vI (((⟨0, (2 : Int), 2, (4 : Int), 0, 1⟩ : DeviceOp)).token)] ((⟨0, (2 : Int), 2, (4 : Int), 0, 1⟩ : DeviceOp)) (2 : Int) w1 ⟨_, rfl, hvnc72_17_2⟩ rfl s1.lt) rfl s1 fun v6854 w6855 s6856 m6857 k6858 r6859 => (?_)))
       obtain ⟨cs6860, rfl, hs6861⟩ := r6859
       have hs6861 : Enc.device.rd w6855 (B1_ ++ O) cs6860 rE5 := hs6861
       exact ⟨[], k6858, noC, ⟨cs6860, rfl, hs6861⟩⟩
      ·intro F1 w1 B1_ Bs_ k1 hs_ hl_ hr_ hsep_ hf hd
       obtain ⟨cs6862, e6864, hs6863⟩ : (fun (vT : Value) (wT : World) => ∃ (xT0 : List Value), vT = .tuple #[.agg xT0.toArray, vI ((actM rBack ((⟨0, (2 : Int), 2, (4 : Int), 0, 1⟩ : DeviceOp)) (2 : Int)).2)] ∧ Enc.device.rd wT ((Bs_ 1) ++ O) xT0 (rE5)) (F1 74) w1 := hd 2 74 (by kernel_rfl) (by kernel_rfl)
       have hs6863 : Enc.device.rd w1 (B1_ ++ O) cs6862 (rE5) := Enc.mv Enc.device (x := rE5) hs6863 (Mv.at_ (hr_ 1 (by kernel_rfl)))
       obtain ⟨F2, rfl⟩ := lit_of (F := F1) [(74, Value.tuple #[Value.agg cs6862.toArray, vI ((actM rBack ((⟨0, (2 : Int), 2, (4 : Int), 0, 1⟩ : DeviceOp)) (2 : Int)).2)])] ⟨e6864, trivial⟩
       exact sp_plain rfl ((o_move (Value.tuple #[Value.agg cs6862.toArray, vI ((actM rBack ((⟨0, (2 : Int), 2, (4 : Int), 0, 1⟩ : DeviceOp)) (2 : Int)).2)]) rfl (⟨[], (Keep.refl _ _), noC, ⟨cs6862, rfl, hs6863⟩⟩)))
      ·intro F1 w1 B1_ Bs_ k1 hs_ hl_ hr_ hsep_ hf hd
       obtain ⟨cs6865, e6867, hs6866⟩ : (fun (vT : Value) (wT : World) => ∃ (xT0 : List Value), vT = .tuple #[.agg xT0.toArray, vI ((actM rBack ((⟨0, (2 : Int), 2, (4 : Int), 0, 1⟩ : DeviceOp)) (2 : Int)).2)] ∧ Enc.device.rd wT ((Bs_ 1) ++ O) xT0 (rE5)) (F1 71) w1 := hd 3 71 (by kernel_rfl) (by kernel_rfl)
       have hs6866 : Enc.device.rd w1 (B1_ ++ O) cs6865 (rE5) := Enc.mv Enc.device (x := rE5) hs6866 (Mv.at_ (hr_ 1 (by kernel_rfl)))
       obtain ⟨F2, rfl⟩ := lit_of (F := F1) [(71, Value.tuple #[Value.agg cs6865.toArray, vI ((actM rBack ((⟨0, (2 : Int), 2, (4 : Int), 0, 1⟩ : DeviceOp)) (2 : Int)).2)])] ⟨e6867, trivial⟩
       exact sp_plain rfl ((o_extract (Value.agg cs6865.toArray) rfl rfl (⟨[], (Keep.refl _ _), noC, ⟨cs6865, rfl, hs6866⟩⟩)))
      ·intro F1 w1 B1_ Bs_ k1 hs_ hl_ hr_ hsep_ hf hd
       obtain ⟨cs6868, e6870, hs6869⟩ : (fun (vT : Value) (wT : World) => ∃ (xT0 : List Value), vT = .tuple #[.agg xT0.toArray, vI ((actM rBack ((⟨0, (2 : Int), 2, (4 : Int), 0, 1⟩ : DeviceOp)) (2 : Int)).2)] ∧ Enc.device.rd wT ((Bs_ 1) ++ O) xT0 (rE5)) (F1 71) w1 := hd 3 71 (by kernel_rfl) (by kernel_rfl)
       obtain ⟨F2, rfl⟩ := lit_of (F := F1) [(71, Value.tuple #[Value.agg cs6868.toArray, vI ((actM rBack ((⟨0, (2 : Int), 2, (4 : Int), 0, 1⟩ : DeviceOp)) (2 : Int)).2)])] ⟨e6870, trivial⟩
       exact sp_plain rfl ((o_extract (vI ((actM rBack ((⟨0, (2 : Int), 2, (4 : Int), 0, 1⟩ : DeviceOp)) (2 : Int)).2)) rfl rfl (⟨[], (Keep.refl _ _), noC, rfl⟩)))
      ·intro F1 w1 B1_ Bs_ k1 hs_ hl_ hr_ hsep_ hf hd
       have k0 := (Keep.drew [] wlc72).trans k1
       have s1 := slc72.adoptL k0 hl_
       obtain ⟨F2, rfl⟩ := lit_of (F := F1) [] trivial
       refine sp_plain rfl ((o_alloc [vI (0 : Int), vI (0 : Int), Value.slice none 0 0, Value.bool false] z_31 rfl s1 fun b6871 w6872 e6877 s6873 m6874 k6875 bx6876 => (?_)))
       have lo6878 : wlc72.heap.size ≤ b6871 := by have := k0.size; omega
       exact ⟨[], k6875, noC, ⟨_, rfl, lo6878, (by intro h; have := lt_of s1 _ h; omega), bx6876⟩⟩
      ·intro F6880 w6881 Bs6886 k6879 hB6887 hl6888 sep6889 hT6882 hF6883
       obtain ⟨b6890, e6894, lo6891, hn6892, bx6895⟩ : (TBx wlc72 31 [vI (0 : Int), vI (0 : Int), Value.slice none 0 0, Value.bool false]) (Bs6886 2) (F6880 19) w6881 := hT6882 6 19 (by kernel_rfl) (by decide) (by kernel_rfl) (by kernel_rfl)
       have hi6893 := bx6895.lt
       have hl6896 : ∀ x ∈ Blc72, x ∈ Blc72 ∨ (wlc72.heap.size ≤ x ∧ x < w6881.heap.size) := fun x hx => .inl hx
       have hsu6897 : ∀ x ∈ Blc72, x ∈ Blc72 := fun x hx => hx
       have hq6898 : ∀ x ∈ Blc72, x ∈ Bs6886 1 := fun x hx => hB6887 1 x hx
       have hq6899 : ∀ x ∈ Blc72, x ∈ Bs6886 2 := fun x hx => hB6887 2 x hx
       have hl6900 : ∀ x ∈ (b6890 :: Blc72), x ∈ Blc72 ∨ (wlc72.heap.size ≤ x ∧ x < w6881.heap.size) := fun x hx => by rcases List.mem_cons.1 hx with rfl | hx; exact .inr ⟨lo6891, hi6893⟩; exact hl6896 x hx
       have hsu6901 : ∀ x ∈ Blc72, x ∈ (b6890 :: Blc72) := fun x hx => List.mem_cons_of_mem _ (hsu6897 x hx)
       have hq6902 : ∀ x ∈ (b6890 :: Blc72), x ∈ Bs6886 1 := fun x hx => by rcases List.mem_cons.1 hx with rfl | hx; exact sep6889 2 1 _ (by decide) lo6891 hi6893 hn6892; exact hq6898 x hx
       have s6884 := slc72.adoptL k6879 hl6900
       have m6885 : Mv Blc72 wlc72 (b6890 :: Blc72) w6881 := Mv.adoptL k6879 hl6900
       have ne6903 : NeB b6275 b6890 := by show b6275 ≠ b6890; have := bx6286.lt; omega
       have ne6904 : NeB b6320 b6890 := by show b6320 ≠ b6890; have := bx6333.lt; omega
       have ne6905 : NeB bnc47_9 b6890 := by show bnc47_9 ≠ b6890; have := hbn_bnc47_9.lt; omega
       have ne6906 : NeB bnc59_13 b6890 := by show bnc59_13 ≠ b6890; have := hbn_bnc59_13.lt; omega
       have ne6907 : NeB bnc72_17 b6890 := by show bnc72_17 ≠ b6890; have := hbn_bnc72_17.lt; omega
       obtain ⟨cs6908, e6910, hs6909⟩ : ∃ cs : List Value, F6880 75 = .agg cs.toArray ∧ Enc.device.rd w6881 ((Bs6886 1) ++ O) cs (rE5) := hT6882 4 75 (by kernel_rfl) (by decide) (by kernel_rfl) (by kernel_rfl)
       have hs6909 : Enc.device.rd w6881 ((b6890 :: Blc72) ++ O) cs6908 (rE5) := Enc.mv Enc.device (x := rE5) hs6909 (Mv.at_ hq6902)
       have hd6288 := hd6288.mv m6885
       have bx6286 := bx6286.keep k6879 (by simp)
       have hd6335 := hd6335.mv m6885
       have bx6333 := bx6333.keep k6879 (by simp)
       have hvnc47_9_2 := hvnc47_9_2.mv m6885
       have hbn_bnc47_9 := hbn_bnc47_9.keep k6879 (by simp)
       have hvnc59_13_2 := hvnc59_13_2.mv m6885
       have hbn_bnc59_13 := hbn_bnc59_13.keep k6879 (by simp)
       have hvnc72_17_2 := hvnc72_17_2.mv m6885
       have hbn_bnc72_17 := hbn_bnc72_17.keep k6879 (by simp)
       obtain ⟨F2, rfl⟩ := lit_of (F := F6880) [(1, Value.pointer (some ⟨b6275, 0, none⟩)), (2, vI ((newM (0 : Int)).2)), (4, vI ((newM (4 : Int)).2)), (5, Value.pointer (some ⟨b6320, 0, none⟩)), (6, vI ((startM rD).2)), (8, vI ((actM rD (⟨(0 : Int), (0 : Int), (0 : Int), (0 : Int), (0 : Int), (0 : Int)⟩ : DeviceOp) (2 : Int)).2)), (9, Value.pointer (some ⟨bnc47_9, 0, none⟩)), (10, vI ((actM rD ⟨0, 1, 2, 3, 0, 1⟩ 2).2)), (12, vI ((actM rA ⟨0, 2, 2, 3, 0, 1⟩ 2).2)), (13, Value.pointer (some ⟨bnc59_13, 0, none⟩)), (14, vI ((actM rD ⟨0, 1, 2, 3, 0, 1⟩ 1).2)), (16, vI ((startM rHalf).2)), (17, Value.pointer (some ⟨bnc72_17, 0, none⟩)), (18, vI ((startM rR).2)), (162, undef), (19, Value.pointer (some ⟨b6890, 0, none⟩)), (75, Value.agg cs6908.toArray), (76, vI ((actM rBack ((⟨0, (2 : Int), 2, (4 : Int), 0, 1⟩ : DeviceOp)) (2 : Int)).2))] ⟨hF6883 1 (by kernel_rfl), hF6883 2 (by kernel_rfl), hF6883 4 (by kernel_rfl), hF6883 5 (by kernel_rfl), hF6883 6 (by kernel_rfl), hF6883 8 (by kernel_rfl), hF6883 9 (by kernel_rfl), hF6883 10 (by kernel_rfl), hF6883 12 (by kernel_rfl), hF6883 13 (by kernel_rfl), hF6883 14 (by kernel_rfl), hF6883 16 (by kernel_rfl), hF6883 17 (by kernel_rfl), hF6883 18 (by kernel_rfl), hF6883 162 (by kernel_rfl), e6894, e6910, hT6882 5 76 (by kernel_rfl) (by decide) (by kernel_rfl) (by kernel_rfl), trivial⟩
       clear hT6882 hF6883 hB6887 hl6888 sep6889
       obtain ⟨d6916, rfl, hd6917⟩ := hs6909
       have := hd6917.len_le
       refine wl_n (o_store (vs := [vI rE5.id, vI rE5.counter, d6916, Value.bool rE5.halted]) (.agg #[vI rE5.id, vI rE5.counter, d6916, Value.bool rE5.halted]) rfl rfl rfl s_31 (fun u hu => by simp only [List.mem_cons, List.not_mem_nil, or_false] at hu; rcases hu with rfl | rfl | rfl | rfl <;> first | rfl | exact hd6917.oneCell) (by repeat (first | assumption | constructor)) bx6895 (of_decide_eq_true rfl) s6884 fun w6911 s6912 m6913 k6914 bx6915 => (?_))
       have hd6288 := hd6288.mv m6913
       have bx6286 := bx6286.keep k6914 (nin1 ne6903)
       have hd6335 := hd6335.mv m6913
       have bx6333 := bx6333.keep k6914 (nin1 ne6904)
       have hvnc47_9_2 := hvnc47_9_2.mv m6913
       have hbn_bnc47_9 := hbn_bnc47_9.keep k6914 (nin1 ne6905)
       have hvnc59_13_2 := hvnc59_13_2.mv m6913
       have hbn_bnc59_13 := hbn_bnc59_13.keep k6914 (nin1 ne6906)
       have hvnc72_17_2 := hvnc72_17_2.mv m6913
       have hbn_bnc72_17 := hbn_bnc72_17.keep k6914 (nin1 ne6907)
       refine wl_s (o_assign (vI ((actM rBack ((⟨0, (2 : Int), 2, (4 : Int), 0, 1⟩ : DeviceOp)) (2 : Int)).2)) rfl (wl_nil (thenQ_n (?_))))
       exact ⟨(b6890 :: Blc72), trivial, ⟨_, upds_self _ ⟨rfl, rfl, rfl, rfl, rfl, rfl, rfl, rfl, rfl, rfl, rfl, rfl, rfl, rfl, (by first | rfl | exact congrArg (Value.int _) (by first | omega | (rfl))), rfl, trivial⟩⟩, s6912, hd6288, bx6286, (by first | assumption | (repeat (first | exact List.mem_cons_self | assumption | apply List.mem_cons_of_mem)) | (apply_assumption; assumption)), hd6335, bx6333, (by first | assumption | (repeat (first | exact List.mem_cons_self | assumption | apply List.mem_cons_of_mem)) | (apply_assumption; assumption)), hvnc47_9_2, hbn_bnc47_9, (by first | assumption | (repeat (first | exact List.mem_cons_self | assumption | apply List.mem_cons_of_mem)) | (apply_assumption; assumption)), hvnc59_13_2, hbn_bnc59_13, (by first | assumption | (repeat (first | exact List.mem_cons_self | assumption | apply List.mem_cons_of_mem)) | (apply_assumption; assumption)), hvnc72_17_2, hbn_bnc72_17, (by first | assumption | (repeat (first | exact List.mem_cons_self | assumption | apply List.mem_cons_of_mem)) | (apply_assumption; assumption))⟩
      ·intro cx_ hcx_
       match cx_, hcx_ with
       | 0, _ =>
        intro F6919 w6920 Bs6925 k6918 hB6926 hl6927 sep6928 hT6921 hF6922
        obtain ⟨b6929, e6933, lo6930, hn6931, bx6934⟩ : (TBx wlc72 31 [vI (0 : Int), vI (0 : Int), Value.slice none 0 0, Value.bool false]) (Bs6925 2) (F6919 19) w6920 := hT6921 6 19 (by kernel_rfl) (by decide) (by kernel_rfl) (by kernel_rfl)
        have hi6932 := bx6934.lt
        have hl6935 : ∀ x ∈ Blc72, x ∈ Blc72 ∨ (wlc72.heap.size ≤ x ∧ x < w6920.heap.size) := fun x hx => .inl hx
        have hsu6936 : ∀ x ∈ Blc72, x ∈ Blc72 := fun x hx => hx
        have hq6937 : ∀ x ∈ Blc72, x ∈ Bs6925 1 := fun x hx => hB6926 1 x hx
        have hq6938 : ∀ x ∈ Blc72, x ∈ Bs6925 2 := fun x hx => hB6926 2 x hx
        have hl6939 : ∀ x ∈ (b6929 :: Blc72), x ∈ Blc72 ∨ (wlc72.heap.size ≤ x ∧ x < w6920.heap.size) := fun x hx => by rcases List.mem_cons.1 hx with rfl | hx; exact .inr ⟨lo6930, hi6932⟩; exact hl6935 x hx
        have hsu6940 : ∀ x ∈ Blc72, x ∈ (b6929 :: Blc72) := fun x hx => List.mem_cons_of_mem _ (hsu6936 x hx)
        have hq6941 : ∀ x ∈ (b6929 :: Blc72), x ∈ Bs6925 1 := fun x hx => by rcases List.mem_cons.1 hx with rfl | hx; exact sep6928 2 1 _ (by decide) lo6930 hi6932 hn6931; exact hq6937 x hx
        have s6923 := slc72.adoptL k6918 hl6939
        have m6924 : Mv Blc72 wlc72 (b6929 :: Blc72) w6920 := Mv.adoptL k6918 hl6939
        have ne6942 : NeB b6275 b6929 := by show b6275 ≠ b6929; have := bx6286.lt; omega
        have ne6943 : NeB b6320 b6929 := by show b6320 ≠ b6929; have := bx6333.lt; omega
        have ne6944 : NeB bnc47_9 b6929 := by show bnc47_9 ≠ b6929; have := hbn_bnc47_9.lt; omega
        have ne6945 : NeB bnc59_13 b6929 := by show bnc59_13 ≠ b6929; have := hbn_bnc59_13.lt; omega
        have ne6946 : NeB bnc72_17 b6929 := by show bnc72_17 ≠ b6929; have := hbn_bnc72_17.lt; omega
        obtain ⟨cs6947, e6949, hs6948⟩ : (fun (vT : Value) (wT : World) => ∃ (xT0 : List Value), vT = .tuple #[.agg xT0.toArray, vI ((actM rBack ((⟨0, (2 : Int), 2, (4 : Int), 0, 1⟩ : DeviceOp)) (2 : Int)).2)] ∧ Enc.device.rd wT ((Bs6925 1) ++ O) xT0 (rE5)) (F6919 71) w6920 := hT6921 3 71 (by kernel_rfl) (by decide) (by kernel_rfl) (by kernel_rfl)
        obtain ⟨cs6950, e6952, hs6951⟩ : ∃ cs : List Value, F6919 75 = .agg cs.toArray ∧ Enc.device.rd w6920 ((Bs6925 1) ++ O) cs (rE5) := hT6921 4 75 (by kernel_rfl) (by decide) (by kernel_rfl) (by kernel_rfl)
        have hs6951 : Enc.device.rd w6920 ((b6929 :: Blc72) ++ O) cs6950 (rE5) := Enc.mv Enc.device (x := rE5) hs6951 (Mv.at_ hq6941)
        have hd6288 := hd6288.mv m6924
        have bx6286 := bx6286.keep k6918 (by simp)
        have hd6335 := hd6335.mv m6924
        have bx6333 := bx6333.keep k6918 (by simp)
        have hvnc47_9_2 := hvnc47_9_2.mv m6924
        have hbn_bnc47_9 := hbn_bnc47_9.keep k6918 (by simp)
        have hvnc59_13_2 := hvnc59_13_2.mv m6924
        have hbn_bnc59_13 := hbn_bnc59_13.keep k6918 (by simp)
        have hvnc72_17_2 := hvnc72_17_2.mv m6924
        have hbn_bnc72_17 := hbn_bnc72_17.keep k6918 (by simp)
        obtain ⟨F2, rfl⟩ := lit_of (F := F6919) [(1, Value.pointer (some ⟨b6275, 0, none⟩)), (2, vI ((newM (0 : Int)).2)), (4, vI ((newM (4 : Int)).2)), (5, Value.pointer (some ⟨b6320, 0, none⟩)), (6, vI ((startM rD).2)), (8, vI ((actM rD (⟨(0 : Int), (0 : Int), (0 : Int), (0 : Int), (0 : Int), (0 : Int)⟩ : DeviceOp) (2 : Int)).2)), (9, Value.pointer (some ⟨bnc47_9, 0, none⟩)), (10, vI ((actM rD ⟨0, 1, 2, 3, 0, 1⟩ 2).2)), (12, vI ((actM rA ⟨0, 2, 2, 3, 0, 1⟩ 2).2)), (13, Value.pointer (some ⟨bnc59_13, 0, none⟩)), (14, vI ((actM rD ⟨0, 1, 2, 3, 0, 1⟩ 1).2)), (16, vI ((startM rHalf).2)), (17, Value.pointer (some ⟨bnc72_17, 0, none⟩)), (18, vI ((startM rR).2)), (162, undef), (19, Value.pointer (some ⟨b6929, 0, none⟩)), (71, Value.tuple #[Value.agg cs6947.toArray, vI ((actM rBack ((⟨0, (2 : Int), 2, (4 : Int), 0, 1⟩ : DeviceOp)) (2 : Int)).2)]), (75, Value.agg cs6950.toArray)] ⟨hF6922 1 (by kernel_rfl), hF6922 2 (by kernel_rfl), hF6922 4 (by kernel_rfl), hF6922 5 (by kernel_rfl), hF6922 6 (by kernel_rfl), hF6922 8 (by kernel_rfl), hF6922 9 (by kernel_rfl), hF6922 10 (by kernel_rfl), hF6922 12 (by kernel_rfl), hF6922 13 (by kernel_rfl), hF6922 14 (by kernel_rfl), hF6922 16 (by kernel_rfl), hF6922 17 (by kernel_rfl), hF6922 18 (by kernel_rfl), hF6922 162 (by kernel_rfl), e6933, e6949, e6952, trivial⟩
        clear hT6921 hF6922 hB6926 hl6927 sep6928
        obtain ⟨d6958, rfl, hd6959⟩ := hs6951
        have := hd6959.len_le
        refine wl_n (o_store (vs := [vI rE5.id, vI rE5.counter, d6958, Value.bool rE5.halted]) (.agg #[vI rE5.id, vI rE5.counter, d6958, Value.bool rE5.halted]) rfl rfl rfl s_31 (fun u hu => by simp only [List.mem_cons, List.not_mem_nil, or_false] at hu; rcases hu with rfl | rfl | rfl | rfl <;> first | rfl | exact hd6959.oneCell) (by repeat (first | assumption | constructor)) bx6934 (of_decide_eq_true rfl) s6923 fun w6953 s6954 m6955 k6956 bx6957 => (?_))
        have hd6288 := hd6288.mv m6955
        have bx6286 := bx6286.keep k6956 (nin1 ne6942)
        have hd6335 := hd6335.mv m6955
        have bx6333 := bx6333.keep k6956 (nin1 ne6943)
        have hvnc47_9_2 := hvnc47_9_2.mv m6955
        have hbn_bnc47_9 := hbn_bnc47_9.keep k6956 (nin1 ne6944)
        have hvnc59_13_2 := hvnc59_13_2.mv m6955
        have hbn_bnc59_13 := hbn_bnc59_13.keep k6956 (nin1 ne6945)
        have hvnc72_17_2 := hvnc72_17_2.mv m6955
        have hbn_bnc72_17 := hbn_bnc72_17.keep k6956 (nin1 ne6946)
        refine wl_s (o_extract (vI ((actM rBack ((⟨0, (2 : Int), 2, (4 : Int), 0, 1⟩ : DeviceOp)) (2 : Int)).2)) rfl rfl (wl_s (o_assign (vI ((actM rBack ((⟨0, (2 : Int), 2, (4 : Int), 0, 1⟩ : DeviceOp)) (2 : Int)).2)) rfl (wl_nil (thenQ_n (?_))))))
        exact ⟨(b6929 :: Blc72), trivial, ⟨_, upds_self _ ⟨rfl, rfl, rfl, rfl, rfl, rfl, rfl, rfl, rfl, rfl, rfl, rfl, rfl, rfl, (by first | rfl | exact congrArg (Value.int _) (by first | omega | (rfl))), rfl, trivial⟩⟩, s6954, hd6288, bx6286, (by first | assumption | (repeat (first | exact List.mem_cons_self | assumption | apply List.mem_cons_of_mem)) | (apply_assumption; assumption)), hd6335, bx6333, (by first | assumption | (repeat (first | exact List.mem_cons_self | assumption | apply List.mem_cons_of_mem)) | (apply_assumption; assumption)), hvnc47_9_2, hbn_bnc47_9, (by first | assumption | (repeat (first | exact List.mem_cons_self | assumption | apply List.mem_cons_of_mem)) | (apply_assumption; assumption)), hvnc59_13_2, hbn_bnc59_13, (by first | assumption | (repeat (first | exact List.mem_cons_self | assumption | apply List.mem_cons_of_mem)) | (apply_assumption; assumption)), hvnc72_17_2, hbn_bnc72_17, (by first | assumption | (repeat (first | exact List.mem_cons_self | assumption | apply List.mem_cons_of_mem)) | (apply_assumption; assumption))⟩
     ·intro F wlc77 hI
      clear hd6288 bx6286 hd6335 bx6333 hvnc47_9_2 hbn_bnc47_9 hvnc59_13_2 hbn_bnc59_13 hvnc72_17_2 hbn_bnc72_17
      obtain ⟨Blc77, hmc77, ⟨Flc77, rfl⟩, slc77, hd6288, bx6286, hin_b6275, hd6335, bx6333, hin_b6320, hvnc47_9_2, hbn_bnc47_9, hin_bnc47_9, hvnc59_13_2, hbn_bnc59_13, hin_bnc59_13, hvnc72_17_2, hbn_bnc72_17, hin_bnc72_17⟩ := hI
      refine cw_seq (?_)
      refine cw_seq (?_)
      refine cw_region (by kernel_rfl) (wl_s (o_move (vI ((newM (0 : Int)).2)) rfl (wl_s (o_neq .i64 ((newM (0 : Int)).2) (0 : Int) rfl rfl (wl_s (o_move (Value.bool (((newM (0 : Int)).2) != (0 : Int))) rfl (?_)))))))
      have hb6960 : (((newM (0 : Int)).2) != (0 : Int)) = false := (by decide +kernel)
      rw [hb6960]
      refine wl_t rfl (o_move (vI ((newM (4 : Int)).2)) rfl (wl_t rfl (o_neq .i64 ((newM (4 : Int)).2) (1 : Int) rfl rfl (wl_s (o_pickF (Value.bool (((newM (4 : Int)).2) != (1 : Int))) rfl rfl (wl_s (o_move (Value.bool (((newM (4 : Int)).2) != (1 : Int))) rfl (?_))))))))
      have hb6961 : (((newM (4 : Int)).2) != (1 : Int)) = false := (by decide +kernel)
      rw [hb6961]
      refine wl_t rfl (o_move (vI ((startM rD).2)) rfl (wl_t rfl (o_neq .i64 ((startM rD).2) (0 : Int) rfl rfl (wl_s (o_pickF (Value.bool (((startM rD).2) != (0 : Int))) rfl rfl (wl_s (o_move (Value.bool (((startM rD).2) != (0 : Int))) rfl (?_))))))))
      have hb6962 : (((startM rD).2) != (0 : Int)) = false := (by decide +kernel)
      rw [hb6962]
      refine wl_t rfl (o_move (vI ((actM rD (⟨(0 : Int), (0 : Int), (0 : Int), (0 : Int), (0 : Int), (0 : Int)⟩ : DeviceOp) (2 : Int)).2)) rfl (wl_t rfl (o_neq .i64 ((actM rD (⟨(0 : Int), (0 : Int), (0 : Int), (0 : Int), (0 : Int), (0 : Int)⟩ : DeviceOp) (2 : Int)).2) (420 : Int) rfl rfl (wl_s (o_pickF (Value.bool (((actM rD (⟨(0 : Int), (0 : Int), (0 : Int), (0 : Int), (0 : Int), (0 : Int)⟩ : DeviceOp) (2 : Int)).2) != (420 : Int))) rfl rfl (wl_s (o_move (Value.bool (((actM rD (⟨(0 : Int), (0 : Int), (0 : Int), (0 : Int), (0 : Int), (0 : Int)⟩ : DeviceOp) (2 : Int)).2) != (420 : Int))) rfl (?_))))))))
      have hb6963 : (((actM rD (⟨(0 : Int), (0 : Int), (0 : Int), (0 : Int), (0 : Int), (0 : Int)⟩ : DeviceOp) (2 : Int)).2) != (420 : Int)) = false := (by decide +kernel)
      rw [hb6963]
      refine wl_t rfl (o_move (vI ((actM rD ⟨0, 1, 2, 3, 0, 1⟩ 2).2)) rfl (wl_t rfl (o_neq .i64 ((actM rD ⟨0, 1, 2, 3, 0, 1⟩ 2).2) (0 : Int) rfl rfl (wl_s (o_pickF (Value.bool (((actM rD ⟨0, 1, 2, 3, 0, 1⟩ 2).2) != (0 : Int))) rfl rfl (wl_s (o_move (Value.bool (((actM rD ⟨0, 1, 2, 3, 0, 1⟩ 2).2) != (0 : Int))) rfl (?_))))))))
      have hb6964 : (((actM rD ⟨0, 1, 2, 3, 0, 1⟩ 2).2) != (0 : Int)) = false := (by decide +kernel)
      rw [hb6964]
      refine wl_t rfl (o_move (vI ((actM rA ⟨0, 2, 2, 3, 0, 1⟩ 2).2)) rfl (wl_t rfl (o_neq .i64 ((actM rA ⟨0, 2, 2, 3, 0, 1⟩ 2).2) (420 : Int) rfl rfl (wl_s (o_pickF (Value.bool (((actM rA ⟨0, 2, 2, 3, 0, 1⟩ 2).2) != (420 : Int))) rfl rfl (wl_s (o_move (Value.bool (((actM rA ⟨0, 2, 2, 3, 0, 1⟩ 2).2) != (420 : Int))) rfl (?_))))))))
      have hb6965 : (((actM rA ⟨0, 2, 2, 3, 0, 1⟩ 2).2) != (420 : Int)) = false := (by decide +kernel)
      rw [hb6965]
      refine wl_t rfl (o_move (vI ((actM rD ⟨0, 1, 2, 3, 0, 1⟩ 1).2)) rfl (wl_t rfl (o_neq .i64 ((actM rD ⟨0, 1, 2, 3, 0, 1⟩ 1).2) (0 : Int) rfl rfl (wl_s (o_pickF (Value.bool (((actM rD ⟨0, 1, 2, 3, 0, 1⟩ 1).2) != (0 : Int))) rfl rfl (wl_s (o_move (Value.bool (((actM rD ⟨0, 1, 2, 3, 0, 1⟩ 1).2) != (0 : Int))) rfl (?_))))))))
      have hb6966 : (((actM rD ⟨0, 1, 2, 3, 0, 1⟩ 1).2) != (0 : Int)) = false := (by decide +kernel)
      rw [hb6966]
      refine wl_t rfl (o_move (vI ((startM rHalf).2)) rfl (wl_t rfl (o_neq .i64 ((startM rHalf).2) (430 : Int) rfl rfl (wl_s (o_pickF (Value.bool (((startM rHalf).2) != (430 : Int))) rfl rfl (wl_s (o_move (Value.bool (((startM rHalf).2) != (430 : Int))) rfl (?_))))))))
      have hb6967 : (((startM rHalf).2) != (430 : Int)) = false := (by decide +kernel)
      rw [hb6967]
      refine wl_t rfl (o_move (vI ((startM rR).2)) rfl (wl_t rfl (o_neq .i64 ((startM rR).2) (430 : Int) rfl rfl (wl_s (o_pickF (Value.bool (((startM rR).2) != (430 : Int))) rfl rfl (wl_s (o_move (Value.bool (((startM rR).2) != (430 : Int))) rfl (?_))))))))
      have hb6968 : (((startM rR).2) != (430 : Int)) = false := (by decide +kernel)
      rw [hb6968]
      refine wl_t rfl (o_move (vI ((actM rBack ⟨0, 2, 2, 4, 0, 1⟩ 2).2)) rfl (wl_t rfl (o_neq .i64 ((actM rBack ⟨0, 2, 2, 4, 0, 1⟩ 2).2) (430 : Int) rfl rfl (wl_s (o_pickF (Value.bool (((actM rBack ⟨0, 2, 2, 4, 0, 1⟩ 2).2) != (430 : Int))) rfl rfl (wl_nil (thenQ_n (?_))))))))
      have hb6969 : (((actM rBack ⟨0, 2, 2, 4, 0, 1⟩ 2).2) != (430 : Int)) = false := (by decide +kernel)
      rw [hb6969]
      refine cw_cond false rfl rfl (fun h => by cases h) (fun _ => ?_)
      refine cw_skip (thenQ_n (?_))
      refine cw_seq (?_)
      refine cw_region (by kernel_rfl) (wl_s (o_loadBxA (vs := [vI rS.id, vI rS.counter, d6334, Value.bool rS.halted]) Try.underlying31 rfl s_31 rfl bx6333 rfl (wl_s (o_loadBxA (vs := [vI rD.id, vI rD.counter, d6287, Value.bool rD.halted]) Try.underlying31 rfl s_31 rfl bx6286 rfl (wl_s (o_callK (vs := [Value.agg #[vI rS.id, vI rS.counter, d6334, Value.bool rS.halted], Value.agg #[vI rD.id, vI rD.counter, d6287, Value.bool rD.halted]]) enter_42 (c_sameD (O := Blc77 ++ O) [vI rS.id, vI rS.counter, d6334, Value.bool rS.halted] rS [vI rD.id, vI rD.counter, d6287, Value.bool rD.halted] rD wlc77 ⟨_, rfl, hd6335⟩ ⟨_, rfl, hd6288⟩ slc77.lt) rfl slc77 fun v6970 w6971 s6972 m6973 k6974 r6975 => (?_)))))))
      obtain rfl := r6975
      have hvnc47_9_2 := hvnc47_9_2.mv m6973
      have hbn_bnc47_9 := hbn_bnc47_9.keep k6974 (by simp)
      have hvnc59_13_2 := hvnc59_13_2.mv m6973
      have hbn_bnc59_13 := hbn_bnc59_13.keep k6974 (by simp)
      have hvnc72_17_2 := hvnc72_17_2.mv m6973
      have hbn_bnc72_17 := hbn_bnc72_17.keep k6974 (by simp)
      refine wl_s (o_move (Value.bool (rS == rD)) rfl (?_))
      have hb6976 : (rS == rD) = true := (by decide +kernel)
      rw [hb6976]
      refine wl_t rfl (o_fieldL 1 f_31_1 rfl (wl_t rfl (o_loadBx Try.underlying3 rfl (vI rA.counter) rfl hbn_bnc47_9 rfl (wl_t rfl (o_eql .i64 rA.counter (1 : Int) rfl rfl (wl_s (o_pickT (Value.bool (rA.counter == (1 : Int))) rfl rfl (wl_s (o_move (Value.bool (rA.counter == (1 : Int))) rfl (?_))))))))))
      have hb6977 : (rA.counter == (1 : Int)) = true := (by decide +kernel)
      rw [hb6977]
      refine wl_t rfl (o_fieldL 2 f_31_2 rfl (wl_t rfl (o_loadBx Try.underlying26 rfl (vnc47_9_2) rfl hbn_bnc47_9 rfl (wl_t rfl (o_lenR Try.underlying26 rfl hvnc47_9_2 (wl_t rfl (o_eql .i64 (rA.ops.length : Int) (1 : Int) rfl rfl (wl_s (o_pickT (Value.bool ((rA.ops.length : Int) == (1 : Int))) rfl rfl (wl_s (o_move (Value.bool ((rA.ops.length : Int) == (1 : Int))) rfl (?_))))))))))))
      have hb6978 : ((rA.ops.length : Int) == (1 : Int)) = true := (by decide +kernel)
      rw [hb6978]
      refine wl_t rfl (o_fieldL 1 f_31_1 rfl (wl_t rfl (o_loadBx Try.underlying3 rfl (vI rHalf.counter) rfl hbn_bnc59_13 rfl (wl_t rfl (o_eql .i64 rHalf.counter (1 : Int) rfl rfl (wl_s (o_pickT (Value.bool (rHalf.counter == (1 : Int))) rfl rfl (wl_s (o_move (Value.bool (rHalf.counter == (1 : Int))) rfl (?_))))))))))
      have hb6979 : (rHalf.counter == (1 : Int)) = true := (by decide +kernel)
      rw [hb6979]
      refine wl_t rfl (o_fieldL 2 f_31_2 rfl (wl_t rfl (o_loadBx Try.underlying26 rfl (vnc59_13_2) rfl hbn_bnc59_13 rfl (wl_t rfl (o_lenR Try.underlying26 rfl hvnc59_13_2 (wl_t rfl (o_eql .i64 (rHalf.ops.length : Int) (0 : Int) rfl rfl (wl_s (o_pickT (Value.bool ((rHalf.ops.length : Int) == (0 : Int))) rfl rfl (wl_s (o_move (Value.bool ((rHalf.ops.length : Int) == (0 : Int))) rfl (?_))))))))))))
      have hb6980 : ((rHalf.ops.length : Int) == (0 : Int)) = true := (by decide +kernel)
      rw [hb6980]
      refine wl_t rfl (o_fieldL 3 f_31_3 rfl (wl_t rfl (o_loadBx Try.underlying4 rfl (Value.bool rBack.halted) rfl hbn_bnc72_17 rfl (wl_s (o_pickT (Value.bool rBack.halted) rfl rfl (wl_s (o_move (Value.bool rBack.halted) rfl (?_))))))))
      have hb6981 : (rBack.halted) = true := (by decide +kernel)
      rw [hb6981]
      refine wl_t rfl (o_loadBxA (vs := [vI rBack.id, vI rBack.counter, vnc72_17_2, Value.bool rBack.halted]) Try.underlying31 rfl s_31 rfl hbn_bnc72_17 rfl (wl_t rfl (o_callK (vs := [Value.agg #[vI rBack.id, vI rBack.counter, vnc72_17_2, Value.bool rBack.halted], vI (5 : Int), vI (0 : Int)]) enter_50 (c_burnt (O := Blc77 ++ O) [vI rBack.id, vI rBack.counter, vnc72_17_2, Value.bool rBack.halted] rBack (5 : Int) (0 : Int) w6971 ⟨_, rfl, hvnc72_17_2⟩ s6972.lt) rfl s6972 fun v6982 w6983 s6984 m6985 k6986 r6987 => (?_))))
      obtain ⟨_, rfl, hl6988⟩ := r6987
      have := hl6988.len_le
      have hvnc47_9_2 := hvnc47_9_2.mv m6985
      have hbn_bnc47_9 := hbn_bnc47_9.keep k6986 (by simp)
      refine wl_t rfl (o_lit (E := Enc.int) (xs := [.const (vI (0 : Int)), .const (vI (1 : Int)), .const (vI (2 : Int)), .const (vI (3 : Int)), .const (vI (4 : Int))]) Try.underlying27 s_3 z_3 (by decide) [vI (0 : Int), vI (1 : Int), vI (2 : Int), vI (3 : Int), vI (4 : Int)] [[vI (0 : Int)], [vI (1 : Int)], [vI (2 : Int)], [vI (3 : Int)], [vI (4 : Int)]] [(0 : Int), (1 : Int), (2 : Int), (3 : Int), (4 : Int)] rfl rfl rfl (Parts.cons rfl rfl (Parts.cons rfl rfl (Parts.cons rfl rfl (Parts.cons rfl rfl (Parts.cons rfl rfl (Parts.nil _ _ _)))))) (of_decide_eq_true rfl) s6984 fun v6993 w6989 s6990 m6991 k6992 hl6994 => (?_))
      have hvnc47_9_2 := hvnc47_9_2.mv m6991
      have hl6988 := hl6988.mv m6991
      have hbn_bnc47_9 := hbn_bnc47_9.keep k6992 (by simp)
      have := hl6994.len_le
      refine wl_t rfl (o_callK (vs := [v6982, v6993]) enter_49 (c_sameI43 (O := Blc77 ++ O) v6982 (burntM rBack (5 : Int) (0 : Int)) v6993 ([(0 : Int), (1 : Int), (2 : Int), (3 : Int), (4 : Int)]) w6989 hl6988 hl6994 s6990.lt) rfl s6990 fun v6995 w6996 s6997 m6998 k6999 r7000 => (?_))
      obtain rfl := r7000
      have hvnc47_9_2 := hvnc47_9_2.mv m6998
      have hbn_bnc47_9 := hbn_bnc47_9.keep k6999 (by simp)
      refine wl_s (o_pickT (Value.bool ((burntM rBack (5 : Int) (0 : Int)) == ([(0 : Int), (1 : Int), (2 : Int), (3 : Int), (4 : Int)]))) rfl rfl (wl_s (o_move (Value.bool ((burntM rBack (5 : Int) (0 : Int)) == ([(0 : Int), (1 : Int), (2 : Int), (3 : Int), (4 : Int)]))) rfl (?_))))
      have hb7001 : ((burntM rBack (5 : Int) (0 : Int)) == ([(0 : Int), (1 : Int), (2 : Int), (3 : Int), (4 : Int)])) = true := (by decide +kernel)
      rw [hb7001]
      refine wl_t rfl (o_loadBxA (vs := [vI rA.id, vI rA.counter, vnc47_9_2, Value.bool rA.halted]) Try.underlying31 rfl s_31 rfl hbn_bnc47_9 rfl (wl_t rfl (o_callK (vs := [Value.agg #[vI rA.id, vI rA.counter, vnc47_9_2, Value.bool rA.halted], vI (5 : Int), vI (0 : Int)]) enter_50 (c_burnt (O := Blc77 ++ O) [vI rA.id, vI rA.counter, vnc47_9_2, Value.bool rA.halted] rA (5 : Int) (0 : Int) w6996 ⟨_, rfl, hvnc47_9_2⟩ s6997.lt) rfl s6997 fun v7002 w7003 s7004 m7005 k7006 r7007 => (?_))))
      obtain ⟨_, rfl, hl7008⟩ := r7007
      have := hl7008.len_le
      refine wl_t rfl (o_lenR Try.underlying27 rfl hl7008 (wl_t rfl (o_eql .i64 ((burntM rA (5 : Int) (0 : Int)).length : Int) (0 : Int) rfl rfl (wl_s (o_pickT (Value.bool (((burntM rA (5 : Int) (0 : Int)).length : Int) == (0 : Int))) rfl rfl (wl_s (o_move (Value.bool (((burntM rA (5 : Int) (0 : Int)).length : Int) == (0 : Int))) rfl (?_))))))))
      have hb7009 : (((burntM rA (5 : Int) (0 : Int)).length : Int) == (0 : Int)) = true := (by decide +kernel)
      rw [hb7009]
      refine wl_t rfl (o_build (l := []) pl_31 z_31 rfl [] [vI (0 : Int), vI (0 : Int), Value.slice none 0 0, Value.bool false] rfl rfl (wl_t rfl (o_callK (vs := [Value.agg #[vI (0 : Int), vI (0 : Int), Value.slice none 0 0, Value.bool false], vI (5 : Int), vI (0 : Int)]) enter_50 (c_burnt (O := Blc77 ++ O) [vI (0 : Int), vI (0 : Int), Value.slice none 0 0, Value.bool false] (⟨(0 : Int), (0 : Int), [], false⟩ : Device) (5 : Int) (0 : Int) w7003 ⟨.slice none 0 0, rfl, (RdL.nil _ _ _)⟩ s7004.lt) rfl s7004 fun v7010 w7011 s7012 m7013 k7014 r7015 => (?_))))
      obtain ⟨_, rfl, hl7016⟩ := r7015
      have := hl7016.len_le
      refine wl_t rfl (o_lenR Try.underlying27 rfl hl7016 (wl_t rfl (o_eql .i64 ((burntM (⟨(0 : Int), (0 : Int), [], false⟩ : Device) (5 : Int) (0 : Int)).length : Int) (0 : Int) rfl rfl (wl_s (o_pickT (Value.bool (((burntM (⟨(0 : Int), (0 : Int), [], false⟩ : Device) (5 : Int) (0 : Int)).length : Int) == (0 : Int))) rfl rfl (wl_s (o_assign (Value.bool (((burntM (⟨(0 : Int), (0 : Int), [], false⟩ : Device) (5 : Int) (0 : Int)).length : Int) == (0 : Int))) rfl (wl_nil (thenQ_n (?_))))))))))
      refine cw_ret (end_r rfl (res1 rfl rfl rfl) (?_))
      have e : true = (((burntM (⟨(0 : Int), (0 : Int), [], false⟩ : Device) (5 : Int) (0 : Int)).length : Int) == (0 : Int)) := rfl
      exact ⟨_, rfl, s7012.keep, (by first | exact congrArg Value.bool e.symm | rfl)⟩

end Go.Proofs.Ytjpniibleelgiaa
