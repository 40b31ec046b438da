/- Walks, printed by gen.py. -/
import Derived.Test.YtpdekmknnpkmgaaWo
set_option linter.unusedSimpArgs false
set_option linter.unusedVariables false
namespace Go.Proofs.Ytpdekmknnpkmgaa
open Go.Fw Go.RowKit

set_option maxHeartbeats 4000000 in
set_option maxRecDepth 100000 in
theorem c_approve {O : List Nat} (c_cs : List Value) (c : Circle) (no : Int) (guardian : Int) (w : World) (h_c : Enc.circle.rd w O c_cs c) (hO : ∀ b ∈ O, b < w.heap.size) : CallsK Try.prog 18 [.agg c_cs.toArray, vI no, vI guardian] w (fun v w' => ∃ (x0 : List Value), v = .tuple #[.agg x0.toArray, vI ((gAct c no (fApprove c guardian)).2)] ∧ Enc.circle.rd w' (O) x0 ((gAct c no (fApprove c guardian)).1)) :=  by
 have h_c : Enc.circle.rd w ([] ++ O) c_cs c := h_c
 have s0 : St w O w [] := St.start hO
 refine callsK_of 14 Try.func18 rfl rfl (of_decide_eq_true rfl) (fun F0 => ?_)
 refine cw_seq (?_)
 refine cw_region (by kernel_rfl) (wl_s (o_boxR (E := Enc.circle) (Value.agg c_cs.toArray) (c_cs) c rfl rfl h_c s0 fun a1337 w1338 s1339 m1340 k1341 hp1342 => (?_)))
 refine wl_s (o_boxR (E := Enc.int) (vI guardian) ([vI guardian]) guardian rfl rfl rfl s1339 fun a1343 w1344 s1345 m1346 k1347 hp1348 => (?_))
 have hp1342 := hp1342.mv m1346
 refine wl_s (o_alloc [vI (0 : Int), vI (0 : Int), vI (0 : Int), Value.slice none 0 0, Value.slice none 0 0] z_25 rfl s1345 fun b1349 w1350 e1355 s1351 m1352 k1353 bx1354 => (?_))
 clear e1355
 have hp1342 := hp1342.mv m1352
 have hp1348 := hp1348.mv m1352
 refine wl_s (o_assign (vI (0 : Int)) rfl (wl_nil (thenQ_n (?_))))
 refine cw_seq (?_)
 refine cw_region (by kernel_rfl) (wl_s (o_loadS Try.underlying25 rfl s_25 rfl hp1342 fun cs1356 hs1357 => (wl_s (o_move (vI no) rfl (wl_s (o_makeFunc (first := []) (captured := [.tmp 3, .tmp 5]) [] [Value.pointer (some a1337), Value.pointer (some a1343)] rfl rfl (wl_s (o_callX [Value.agg cs1356.toArray, vI no, Value.func (.func 38) #[] #[Value.pointer (some a1337), Value.pointer (some a1343)]] enter_37 rfl (calls_of_cwD 51 Try.func37 rfl rfl (of_decide_eq_true rfl) (fun F1358 => ?_))))))))))
 refine cw_seq (?_)
 refine cw_region (by kernel_rfl) (wl_s (o_boxR (E := Enc.circle) (Value.agg cs1356.toArray) (cs1356) c rfl rfl hs1357 s1351 fun a1359 w1360 s1361 m1362 k1363 hp1364 => (?_)))
 have hp1342 := hp1342.mv m1362
 have hp1348 := hp1348.mv m1362
 have bx1354 := bx1354.keep k1363 (by simp)
 refine wl_s (o_alloc [vI (0 : Int), vI (0 : Int), vI (0 : Int), Value.slice none 0 0, Value.slice none 0 0] z_25 rfl s1361 fun b1365 w1366 e1371 s1367 m1368 k1369 bx1370 => (?_))
 have ne1372 : b1349 ≠ b1365 := by have := bx1354.lt; omega
 clear e1371
 have hp1342 := hp1342.mv m1368
 have hp1348 := hp1348.mv m1368
 have hp1364 := hp1364.mv m1368
 have bx1354 := bx1354.keep k1369 (by simp)
 refine wl_s (o_alloc [vI (0 : Int)] z_28 rfl s1367 fun b1373 w1374 e1379 s1375 m1376 k1377 bx1378 => (?_))
 have ne1380 : b1349 ≠ b1373 := by have := bx1354.lt; omega
 have ne1381 : b1365 ≠ b1373 := by have := bx1370.lt; omega
 clear e1379
 have hp1342 := hp1342.mv m1376
 have hp1348 := hp1348.mv m1376
 have hp1364 := hp1364.mv m1376
 have bx1354 := bx1354.keep k1377 (by simp)
 have bx1370 := bx1370.keep k1377 (by simp)
 refine wl_nil (thenQ_n (?_))
 refine cw_seq (?_)
 refine cw_seq (?_)
 refine cw_region (by kernel_rfl) (wl_s (o_loadS Try.underlying25 rfl s_25 rfl hp1364 fun cs1382 hs1383 => (wl_s (o_callK (vs := [Value.agg cs1382.toArray]) enter_16 (c_check (O := (b1373 :: (b1365 :: (b1349 :: []))) ++ O) cs1382 c w1374 hs1383 s1375.lt) rfl s1375 fun v1384 w1385 s1386 m1387 k1388 r1389 => (?_)))))
 obtain rfl := r1389
 have hp1342 := hp1342.mv m1387
 have hp1348 := hp1348.mv m1387
 have hp1364 := hp1364.mv m1387
 have bx1354 := bx1354.keep k1388 (by simp)
 have bx1370 := bx1370.keep k1388 (by simp)
 have bx1378 := bx1378.keep k1388 (by simp)
 refine wl_s (o_assign (vI (gCheck c)) rfl (wl_nil (thenQ_n (?_))))
 refine cw_seq (?_)
 refine cw_region (by kernel_rfl) (wl_s (o_move (vI (gCheck c)) rfl (wl_s (o_neq .i64 (gCheck c) (0 : Int) rfl rfl (wl_nil (thenQ_n (?_)))))))
 refine cw_cond ((gCheck c) != (0 : Int)) rfl rfl (fun hc1390 => ?_) (fun hc1390 => ?_)
 ·have hp1391 : gCheck c ≠ (0 : Int) := by first | simpa using hc1390 | (have e := hc1390; simp at e; omega)
  refine cw_seq (?_)
  refine cw_region (by kernel_rfl) (wl_s (o_loadBxA (vs := [vI (0 : Int), vI (0 : Int), vI (0 : Int), Value.slice none 0 0, Value.slice none 0 0]) Try.underlying25 rfl s_25 rfl bx1370 rfl (wl_s (o_move (vI (gCheck c)) rfl (wl_n (o_store (vs := [vI (0 : Int), vI (0 : Int), vI (0 : Int), Value.slice none 0 0, Value.slice none 0 0]) (.agg #[vI (0 : Int), vI (0 : Int), vI (0 : Int), Value.slice none 0 0, Value.slice none 0 0]) rfl rfl rfl s_25 (fun u hu => by simp only [List.mem_cons, List.not_mem_nil, or_false] at hu; rcases hu with rfl | rfl | rfl | rfl | rfl <;> first | rfl) (by repeat (first | assumption | constructor)) bx1370 (of_decide_eq_true rfl) s1386 fun w1392 s1393 m1394 k1395 bx1396 => (?_)))))))
  have bx1354 := bx1354.keep k1395 (nin1 ne1372)
  have bx1378 := bx1378.keep k1395 (nin1 (Ne.symm ne1381))
  refine wl_n (o_store1 (vI (gCheck c)) rfl rfl rfl s_28 (by repeat (first | assumption | constructor)) bx1378 (of_decide_eq_true rfl) s1393 fun w1397 s1398 m1399 k1400 bx1401 => (?_))
  have bx1354 := bx1354.keep k1400 (nin1 ne1380)
  have bx1396 := bx1396.keep k1400 (nin1 ne1381)
  refine wl_nil (thenQ_n (?_))
  refine cw_ret (thenQ_r (endD_r rfl (resv2 rfl (rv_A (vs := [vI (0 : Int), vI (0 : Int), vI (0 : Int), Value.slice none 0 0, Value.slice none 0 0]) rfl Try.underlying25 rfl s_25 rfl bx1396 rfl) (rv_c rfl Try.underlying28 rfl rfl bx1401 rfl)) (both_r (?_))))
  refine wl_s (o_extract (Value.agg #[vI (0 : Int), vI (0 : Int), vI (0 : Int), Value.slice none 0 0, Value.slice none 0 0]) rfl rfl (wl_s (o_extract (vI (gCheck c)) rfl rfl (wl_n (o_store (vs := [vI (0 : Int), vI (0 : Int), vI (0 : Int), Value.slice none 0 0, Value.slice none 0 0]) (.agg #[vI (0 : Int), vI (0 : Int), vI (0 : Int), Value.slice none 0 0, Value.slice none 0 0]) rfl rfl rfl s_25 (fun u hu => by simp only [List.mem_cons, List.not_mem_nil, or_false] at hu; rcases hu with rfl | rfl | rfl | rfl | rfl <;> first | rfl) (by repeat (first | assumption | constructor)) bx1354 (of_decide_eq_true rfl) s1398 fun w1402 s1403 m1404 k1405 bx1406 => (?_))))))
  refine wl_s (o_assign (vI (gCheck c)) rfl (wl_nil (thenQ_n (?_))))
  refine cw_ret (end_r rfl (resv2 rfl (rv_A (vs := [vI (0 : Int), vI (0 : Int), vI (0 : Int), Value.slice none 0 0, Value.slice none 0 0]) rfl Try.underlying25 rfl s_25 rfl bx1406 rfl) (rv_t rfl rfl)) (?_))
  have e1407 : ((gAct c no (fApprove c guardian)).1) = (⟨(0 : Int), (0 : Int), (0 : Int), [], []⟩ : Circle) := by exact congrArg (fun p => p.1) (show gAct c no (fApprove c guardian) = _ from app_bad (by assumption))
  have e1408 : ((gAct c no (fApprove c guardian)).2) = (gCheck c) := by exact congrArg (fun p => p.2) (show gAct c no (fApprove c guardian) = _ from app_bad (by assumption))
  exact ⟨_, rfl, s1403.keep, by rw [e1407, e1408]; exact ⟨[vI (0 : Int), vI (0 : Int), vI (0 : Int), Value.slice none 0 0, Value.slice none 0 0], rfl, Enc.out (B := (b1373 :: (b1365 :: (b1349 :: [])))) ⟨.slice none 0 0, .slice none 0 0, rfl, (RdL.nil _ _ _), (RdL.nil _ _ _)⟩⟩⟩
 ·have hp1409 : gCheck c = (0 : Int) := by first | simpa using hc1390 | (have e := hc1390; simp at e; omega)
  have hok : gCheck c = 0 := hp1409
  have hrl := recs_le hok
  refine cw_skip (thenQ_n (?_))
  refine cw_seq (?_)
  refine cw_seq (?_)
  refine cw_region (by kernel_rfl) (wl_s (o_move (vI no) rfl (wl_s (o_lss .i64 no (0 : Int) rfl rfl (wl_s (o_move (Value.bool (decide (no < (0 : Int)))) rfl (?_)))))))
  cases hb1410 : (decide (no < (0 : Int)))
  ·have hp1411 : (0 : Int) ≤ no := by first | simpa using hb1410 | (have e := hb1410; simp at e; omega)
   refine wl_t rfl (o_move (vI no) rfl (wl_t rfl (o_fieldR 4 f_25_4 (c.recs) rfl hp1364 (fun _ _ _ h => Enc_circle_f4 h) fun a1412 hp1413 => (wl_t rfl (o_loadL Try.underlying23 rfl rfl hp1413 fun v1414 hl1415 => (?_))))))
   have := hl1415.len_le
   refine wl_t rfl (o_lenR Try.underlying23 rfl hl1415 (wl_t rfl (o_geq .i64 no (c.recs.length : Int) rfl rfl (wl_s (o_pickF (Value.bool (decide ((c.recs.length : Int) ≤ no))) rfl rfl (wl_nil (thenQ_n (?_))))))))
   refine cw_cond (decide ((c.recs.length : Int) ≤ no)) rfl rfl (fun hc1416 => ?_) (fun hc1416 => ?_)
   ·have hp1417 : (c.recs.length : Int) ≤ no := by first | simpa using hc1416 | (have e := hc1416; simp at e; omega)
    refine cw_seq (?_)
    refine cw_region (by kernel_rfl) (wl_s (o_loadBxA (vs := [vI (0 : Int), vI (0 : Int), vI (0 : Int), Value.slice none 0 0, Value.slice none 0 0]) Try.underlying25 rfl s_25 rfl bx1370 rfl (wl_n (o_store (vs := [vI (0 : Int), vI (0 : Int), vI (0 : Int), Value.slice none 0 0, Value.slice none 0 0]) (.agg #[vI (0 : Int), vI (0 : Int), vI (0 : Int), Value.slice none 0 0, Value.slice none 0 0]) rfl rfl rfl s_25 (fun u hu => by simp only [List.mem_cons, List.not_mem_nil, or_false] at hu; rcases hu with rfl | rfl | rfl | rfl | rfl <;> first | rfl) (by repeat (first | assumption | constructor)) bx1370 (of_decide_eq_true rfl) s1386 fun w1418 s1419 m1420 k1421 bx1422 => (?_)))))
    have bx1354 := bx1354.keep k1421 (nin1 ne1372)
    have bx1378 := bx1378.keep k1421 (nin1 (Ne.symm ne1381))
    refine wl_n (o_store1 (vI (1 : Int)) rfl rfl rfl s_28 (by repeat (first | assumption | constructor)) bx1378 (of_decide_eq_true rfl) s1419 fun w1423 s1424 m1425 k1426 bx1427 => (?_))
    have bx1354 := bx1354.keep k1426 (nin1 ne1380)
    have bx1422 := bx1422.keep k1426 (nin1 ne1381)
    refine wl_nil (thenQ_n (?_))
    refine cw_ret (thenQ_r (endD_r rfl (resv2 rfl (rv_A (vs := [vI (0 : Int), vI (0 : Int), vI (0 : Int), Value.slice none 0 0, Value.slice none 0 0]) rfl Try.underlying25 rfl s_25 rfl bx1422 rfl) (rv_c rfl Try.underlying28 rfl rfl bx1427 rfl)) (both_r (?_))))
    refine wl_s (o_extract (Value.agg #[vI (0 : Int), vI (0 : Int), vI (0 : Int), Value.slice none 0 0, Value.slice none 0 0]) rfl rfl (wl_s (o_extract (vI (1 : Int)) rfl rfl (wl_n (o_store (vs := [vI (0 : Int), vI (0 : Int), vI (0 : Int), Value.slice none 0 0, Value.slice none 0 0]) (.agg #[vI (0 : Int), vI (0 : Int), vI (0 : Int), Value.slice none 0 0, Value.slice none 0 0]) rfl rfl rfl s_25 (fun u hu => by simp only [List.mem_cons, List.not_mem_nil, or_false] at hu; rcases hu with rfl | rfl | rfl | rfl | rfl <;> first | rfl) (by repeat (first | assumption | constructor)) bx1354 (of_decide_eq_true rfl) s1424 fun w1428 s1429 m1430 k1431 bx1432 => (?_))))))
    refine wl_s (o_assign (vI (1 : Int)) rfl (wl_nil (thenQ_n (?_))))
    refine cw_ret (end_r rfl (resv2 rfl (rv_A (vs := [vI (0 : Int), vI (0 : Int), vI (0 : Int), Value.slice none 0 0, Value.slice none 0 0]) rfl Try.underlying25 rfl s_25 rfl bx1432 rfl) (rv_t rfl rfl)) (?_))
    have e1433 : ((gAct c no (fApprove c guardian)).1) = (⟨(0 : Int), (0 : Int), (0 : Int), [], []⟩ : Circle) := by exact congrArg (fun p => p.1) (show gAct c no (fApprove c guardian) = _ from app_no hok (by omega))
    have e1434 : ((gAct c no (fApprove c guardian)).2) = (1 : Int) := by exact congrArg (fun p => p.2) (show gAct c no (fApprove c guardian) = _ from app_no hok (by omega))
    exact ⟨_, rfl, s1429.keep, by rw [e1433, e1434]; exact ⟨[vI (0 : Int), vI (0 : Int), vI (0 : Int), Value.slice none 0 0, Value.slice none 0 0], rfl, Enc.out (B := (b1373 :: (b1365 :: (b1349 :: [])))) ⟨.slice none 0 0, .slice none 0 0, rfl, (RdL.nil _ _ _), (RdL.nil _ _ _)⟩⟩⟩
   ·have hp1435 : no < (c.recs.length : Int) := by first | simpa using hc1416 | (have e := hc1416; simp at e; omega)
    refine cw_skip (thenQ_n (?_))
    refine cw_seq (?_)
    refine cw_defer [Value.pointer (some ⟨b1365, 0, none⟩), Value.pointer (some ⟨b1373, 0, none⟩)] rfl rfl rfl rfl (thenQ_n (?_))
    refine cw_seq (?_)
    refine cw_region (by kernel_rfl) (wl_s (o_fieldR 4 f_25_4 (c.recs) rfl hp1364 (fun _ _ _ h => Enc_circle_f4 h) fun a1436 hp1437 => (wl_s (o_loadL Try.underlying23 rfl rfl hp1437 fun v1438 hl1439 => (?_)))))
    have := hl1439.len_le
    refine wl_s (o_move (vI no) rfl (wl_s (o_idx Try.underlying23 s_47 .i64 no no.toNat rfl rfl (by omega) hl1439 (by first | omega | (simp; omega)) fun a1440 hp1441 => (wl_s (o_loadS Try.underlying47 rfl s_47 rfl hp1441 fun cs1442 hs1443 => (?_))))))
    obtain ⟨d1444, d1446, rfl, hd1445, hd1447⟩ := hs1443
    have := hd1445.len_le
    have := hd1447.len_le
    refine wl_s (o_build (l := [(0, .tmp 31)]) pl_74 z_74 rfl [(0, Value.agg #[vI ((c.recs[no.toNat]!).no), vI ((c.recs[no.toNat]!).asked), vI ((c.recs[no.toNat]!).state), d1444, d1446], [vI ((c.recs[no.toNat]!).no), vI ((c.recs[no.toNat]!).asked), vI ((c.recs[no.toNat]!).state), d1444, d1446])] [vI ((c.recs[no.toNat]!).no), vI ((c.recs[no.toNat]!).asked), vI ((c.recs[no.toNat]!).state), d1444, d1446] rfl ⟨_, rfl, rfl, (of_decide_eq_true rfl), rfl⟩ (wl_s (o_box (Value.agg #[vI ((c.recs[no.toNat]!).no), vI ((c.recs[no.toNat]!).asked), vI ((c.recs[no.toNat]!).state), d1444, d1446]) [vI ((c.recs[no.toNat]!).no), vI ((c.recs[no.toNat]!).asked), vI ((c.recs[no.toNat]!).state), d1444, d1446] rfl rfl s1386 fun b1448 w1449 e1454 s1450 m1451 k1452 bx1453 => (?_))))
    have ne1455 : b1349 ≠ b1448 := by have := bx1354.lt; omega
    have ne1456 : b1365 ≠ b1448 := by have := bx1370.lt; omega
    have ne1457 : b1373 ≠ b1448 := by have := bx1378.lt; omega
    clear e1454
    have hp1342 := hp1342.mv m1451
    have hp1348 := hp1348.mv m1451
    have hp1364 := hp1364.mv m1451
    have hd1445 := hd1445.mv m1451
    have hd1447 := hd1447.mv m1451
    have bx1354 := bx1354.keep k1452 (by simp)
    have bx1370 := bx1370.keep k1452 (by simp)
    have bx1378 := bx1378.keep k1452 (by simp)
    refine wl_s (o_assign (Value.pointer (some ⟨b1448, 0, none⟩)) rfl (wl_nil (thenQ_n (?_))))
    refine cw_seq (?_)
    refine cw_region (by kernel_rfl) (wl_s (o_move (Value.func (.func 38) #[] #[Value.pointer (some a1337), Value.pointer (some a1343)]) rfl (wl_s (o_move (Value.pointer (some ⟨b1448, 0, none⟩)) rfl (wl_s (o_callvX [] [Value.pointer (some a1337), Value.pointer (some a1343)] [Value.pointer (some ⟨b1448, 0, none⟩)] enter_38 rfl rfl (calls_of_cw 11 Try.func38 rfl rfl (of_decide_eq_true rfl) (fun F1458 => ?_))))))))
    refine cw_seq (?_)
    refine cw_region (by kernel_rfl) (wl_s (o_box (Value.pointer (some ⟨b1448, 0, none⟩)) [Value.pointer (some ⟨b1448, 0, none⟩)] rfl rfl s1450 fun b1459 w1460 e1465 s1461 m1462 k1463 bx1464 => (?_)))
    have ne1466 : b1349 ≠ b1459 := by have := bx1354.lt; omega
    have ne1467 : b1365 ≠ b1459 := by have := bx1370.lt; omega
    have ne1468 : b1373 ≠ b1459 := by have := bx1378.lt; omega
    have ne1469 : b1448 ≠ b1459 := by have := bx1453.lt; omega
    clear e1465
    have hp1342 := hp1342.mv m1462
    have hp1348 := hp1348.mv m1462
    have hp1364 := hp1364.mv m1462
    have hd1445 := hd1445.mv m1462
    have hd1447 := hd1447.mv m1462
    have bx1354 := bx1354.keep k1463 (by simp)
    have bx1370 := bx1370.keep k1463 (by simp)
    have bx1378 := bx1378.keep k1463 (by simp)
    have bx1453 := bx1453.keep k1463 (by simp)
    refine wl_nil (thenQ_n (?_))
    refine cw_region (by kernel_rfl) (wl_s (o_loadBx Try.underlying64 rfl (Value.pointer (some ⟨b1448, 0, none⟩)) rfl bx1464 rfl (wl_s (o_makeMapF s1461 fun b1470 w1471 e1476 s1472 m1473 k1474 bx1475 => (?_)))))
    have ne1477 : b1349 ≠ b1470 := by have := bx1354.lt; omega
    have ne1478 : b1365 ≠ b1470 := by have := bx1370.lt; omega
    have ne1479 : b1373 ≠ b1470 := by have := bx1378.lt; omega
    have ne1480 : b1448 ≠ b1470 := by have := bx1453.lt; omega
    have ne1481 : b1459 ≠ b1470 := by have := bx1464.lt; omega
    clear e1476
    have hp1342 := hp1342.mv m1473
    have hp1348 := hp1348.mv m1473
    have hp1364 := hp1364.mv m1473
    have hd1445 := hd1445.mv m1473
    have hd1447 := hd1447.mv m1473
    have bx1354 := bx1354.keep k1474 (by simp)
    have bx1370 := bx1370.keep k1474 (by simp)
    have bx1378 := bx1378.keep k1474 (by simp)
    have bx1453 := bx1453.keep k1474 (by simp)
    have bx1464 := bx1464.keep k1474 (by simp)
    refine wl_s (o_makeFunc (first := []) (captured := [.tmp 3]) [] [Value.pointer (some ⟨b1459, 0, none⟩)] rfl rfl (wl_n (o_insertF Try.underlying68 Try.underlying3 rfl rfl rfl bx1475 (by repeat (first | assumption | constructor)) s1472 rfl fun w1482 s1483 m1484 k1485 bx1486 => (?_))))
    have hp1342 := hp1342.mv m1484
    have hp1348 := hp1348.mv m1484
    have hp1364 := hp1364.mv m1484
    have hd1445 := hd1445.mv m1484
    have hd1447 := hd1447.mv m1484
    have bx1354 := bx1354.keep k1485 (nin1 ne1477)
    have bx1370 := bx1370.keep k1485 (nin1 ne1478)
    have bx1378 := bx1378.keep k1485 (nin1 ne1479)
    have bx1453 := bx1453.keep k1485 (nin1 ne1480)
    have bx1464 := bx1464.keep k1485 (nin1 ne1481)
    refine wl_s (o_makeFunc (first := []) (captured := [.tmp 3]) [] [Value.pointer (some ⟨b1459, 0, none⟩)] rfl rfl (wl_n (o_insertF Try.underlying68 Try.underlying3 rfl rfl rfl bx1486 (by repeat (first | assumption | constructor)) s1483 rfl fun w1487 s1488 m1489 k1490 bx1491 => (?_))))
    have hp1342 := hp1342.mv m1489
    have hp1348 := hp1348.mv m1489
    have hp1364 := hp1364.mv m1489
    have hd1445 := hd1445.mv m1489
    have hd1447 := hd1447.mv m1489
    have bx1354 := bx1354.keep k1490 (nin1 ne1477)
    have bx1370 := bx1370.keep k1490 (nin1 ne1478)
    have bx1378 := bx1378.keep k1490 (nin1 ne1479)
    have bx1453 := bx1453.keep k1490 (nin1 ne1480)
    have bx1464 := bx1464.keep k1490 (nin1 ne1481)
    refine wl_s (o_makeFunc (first := []) (captured := [.tmp 3, .tmp 1, .tmp 2]) [] [Value.pointer (some ⟨b1459, 0, none⟩), Value.pointer (some a1337), Value.pointer (some a1343)] rfl rfl (wl_n (o_insertF Try.underlying68 Try.underlying3 rfl rfl rfl bx1491 (by repeat (first | assumption | constructor)) s1488 rfl fun w1492 s1493 m1494 k1495 bx1496 => (?_))))
    have hp1342 := hp1342.mv m1494
    have hp1348 := hp1348.mv m1494
    have hp1364 := hp1364.mv m1494
    have hd1445 := hd1445.mv m1494
    have hd1447 := hd1447.mv m1494
    have bx1354 := bx1354.keep k1495 (nin1 ne1477)
    have bx1370 := bx1370.keep k1495 (nin1 ne1478)
    have bx1378 := bx1378.keep k1495 (nin1 ne1479)
    have bx1453 := bx1453.keep k1495 (nin1 ne1480)
    have bx1464 := bx1464.keep k1495 (nin1 ne1481)
    refine wl_s (o_move (Value.map (some b1470)) rfl (wl_s (o_callX [Value.pointer (some ⟨b1448, 0, none⟩), Value.map (some b1470)] enter_39 rfl (calls_of_cw 19 Try.func39 rfl rfl (of_decide_eq_true rfl) (fun F1497 => ?_)))))
    refine cw_seq (?_)
    refine cw_region (by kernel_rfl) (wl_s (o_move (Value.map (some b1470)) rfl (wl_s (o_move (Value.pointer (some ⟨b1448, 0, none⟩)) rfl (wl_s (o_nilCheck ⟨b1448, 0, none⟩ rfl (wl_s (o_fieldL 0 f_74_0 rfl (wl_s (o_fieldL 2 f_47_2 rfl (wl_s (o_loadBx Try.underlying3 rfl (vI ((c.recs[no.toNat]!).state)) rfl bx1453 rfl (?_)))))))))))))
    rcases (state_cases hok (by omega) (by omega) : (c.recs[no.toNat]!).state = 0 ∨ (c.recs[no.toNat]!).state = 1 ∨ (c.recs[no.toNat]!).state = 2) with hs1498 | hs1498 | hs1498
    ·refine wl_s (o_lookupF (k := 0) (Value.func (.func 43) #[] #[Value.pointer (some ⟨b1459, 0, none⟩), Value.pointer (some a1337), Value.pointer (some a1343)]) Try.underlying68 Try.underlying3 rfl (congrArg vI hs1498) bx1496 rfl (wl_s (o_move (Value.tuple #[Value.func (.func 43) #[] #[Value.pointer (some ⟨b1459, 0, none⟩), Value.pointer (some a1337), Value.pointer (some a1343)], Value.bool true]) rfl (wl_s (o_extract (Value.func (.func 43) #[] #[Value.pointer (some ⟨b1459, 0, none⟩), Value.pointer (some a1337), Value.pointer (some a1343)]) rfl rfl (wl_s (o_extract (Value.bool true) rfl rfl (wl_s (o_assign (Value.func (.func 43) #[] #[Value.pointer (some ⟨b1459, 0, none⟩), Value.pointer (some a1337), Value.pointer (some a1343)]) rfl (wl_s (o_assign (Value.bool true) rfl (wl_nil (thenQ_n (?_))))))))))))))
     refine cw_seq (?_)
     refine cw_region (by kernel_rfl) (wl_s (o_move (Value.bool true) rfl (wl_nil (thenQ_n (?_)))))
     refine cw_cond true rfl rfl (fun _ => ?_) (fun h => by cases h)
     refine cw_region (by kernel_rfl) (wl_s (o_move (Value.func (.func 43) #[] #[Value.pointer (some ⟨b1459, 0, none⟩), Value.pointer (some a1337), Value.pointer (some a1343)]) rfl (wl_s (o_callvX [] [Value.pointer (some ⟨b1459, 0, none⟩), Value.pointer (some a1337), Value.pointer (some a1343)] [] enter_43 rfl rfl (calls_of_cw 12 Try.func43 rfl rfl (of_decide_eq_true rfl) (fun F1499 => ?_))))))
     refine cw_seq (?_)
     refine cw_draw' 5 _ _ [isV (Value.pointer (some ⟨b1448, 0, none⟩)), fun (vT : Value) (wT : World) => ∃ aT, vT = .pointer (some aT) ∧ PT (Enc.slice Enc.int) wT ((b1470 :: (b1459 :: (b1448 :: (b1373 :: (b1365 :: (b1349 :: [])))))) ++ O) (.pointer (some aT)) (c.guardians), fun (vT : Value) (wT : World) => RdL Enc.int wT ((b1470 :: (b1459 :: (b1448 :: (b1373 :: (b1365 :: (b1349 :: [])))))) ++ O) vT (c.guardians), isV (vI guardian), isV (Value.bool (c.guardians.contains guardian))] (by kernel_rfl) (by kernel_rfl) (by kernel_rfl) (by kernel_rfl) rfl rfl ⟨kI, fun _ _ _ ⟨a, e, h⟩ k => ⟨a, e, h.mv (Mv.of_keep k)⟩, fun _ _ _ h k => h.mv (Mv.of_keep k), kI, kI, trivial⟩ ⟨?_, ?_, ?_, ?_, ?_, trivial⟩ ?_
     ·intro F1 w1 k1 hf hd
      have k0 := (Keep.drew [] w1492).trans k1
      have bx1464 := bx1464.keep k0 (by simp)
      obtain ⟨F2, rfl⟩ := lit_of (F := F1) [(0, Value.pointer (some ⟨b1459, 0, none⟩))] ⟨hf 0 (by kernel_rfl), trivial⟩
      exact sp_plain rfl ((o_loadBx Try.underlying64 rfl (Value.pointer (some ⟨b1448, 0, none⟩)) rfl bx1464 rfl (⟨(Keep.refl _ _), rfl⟩)))
     ·intro F1 w1 k1 hf hd
      have k0 := (Keep.drew [] w1492).trans k1
      have m1 : Mv (b1470 :: (b1459 :: (b1448 :: (b1373 :: (b1365 :: (b1349 :: [])))))) w1492 (b1470 :: (b1459 :: (b1448 :: (b1373 :: (b1365 :: (b1349 :: [])))))) w1 := Mv.of_keep k0
      have hp1342 := hp1342.mv m1
      obtain ⟨F2, rfl⟩ := lit_of (F := F1) [(1, Value.pointer (some a1337))] ⟨hf 1 (by kernel_rfl), trivial⟩
      exact sp_plain rfl ((o_fieldR 3 f_25_3 (c.guardians) rfl hp1342 (fun _ _ _ h => Enc_circle_f3 h) fun a1500 hp1501 => (⟨(Keep.refl _ _), ⟨a1500, rfl, hp1501⟩⟩)))
     ·intro F1 w1 k1 hf hd
      obtain ⟨a1502, e1504, hp1503⟩ : ∃ a, F1 4 = .pointer (some a) ∧ PT (Enc.slice Enc.int) w1 ((b1470 :: (b1459 :: (b1448 :: (b1373 :: (b1365 :: (b1349 :: [])))))) ++ O) (.pointer (some a)) (c.guardians) := hd 1 4 (by kernel_rfl)
      obtain ⟨F2, rfl⟩ := lit_of (F := F1) [(4, Value.pointer (some a1502))] ⟨e1504, trivial⟩
      refine sp_plain rfl ((o_loadL Try.underlying22 rfl rfl hp1503 fun v1505 hl1506 => (?_)))
      have := hl1506.len_le
      exact ⟨(Keep.refl _ _), hl1506⟩
     ·intro F1 w1 k1 hf hd
      have k0 := (Keep.drew [] w1492).trans k1
      have m1 : Mv (b1470 :: (b1459 :: (b1448 :: (b1373 :: (b1365 :: (b1349 :: [])))))) w1492 (b1470 :: (b1459 :: (b1448 :: (b1373 :: (b1365 :: (b1349 :: [])))))) w1 := Mv.of_keep k0
      have hp1348 := hp1348.mv m1
      obtain ⟨F2, rfl⟩ := lit_of (F := F1) [(2, Value.pointer (some a1343))] ⟨hf 2 (by kernel_rfl), trivial⟩
      exact sp_plain rfl ((o_loadI Try.underlying3 rfl rfl hp1348 (⟨(Keep.refl _ _), rfl⟩)))
     ·intro F1 w1 k1 hf hd
      have k0 := (Keep.drew [] w1492).trans k1
      have s1 := s1493.call k0
      obtain ⟨v1507, e1509, hl1508⟩ : ∃ v, F1 5 = v ∧ RdL Enc.int w1 ((b1470 :: (b1459 :: (b1448 :: (b1373 :: (b1365 :: (b1349 :: [])))))) ++ O) v (c.guardians) := ⟨_, rfl, hd 2 5 (by kernel_rfl)⟩
      have := hl1508.len_le
      obtain ⟨F2, rfl⟩ := lit_of (F := F1) [(5, v1507), (6, vI guardian)] ⟨e1509, hd 3 6 (by kernel_rfl), trivial⟩
      refine sp_plain rfl ((o_callK (vs := [v1507, vI guardian]) enter_44 (c_contains (O := (b1470 :: (b1459 :: (b1448 :: (b1373 :: (b1365 :: (b1349 :: [])))))) ++ O) v1507 c.guardians guardian w1 hl1508 s1.lt) rfl s1 fun v1510 w1511 s1512 m1513 k1514 r1515 => (?_)))
      obtain rfl := r1515
      exact ⟨k1514, rfl⟩
     intro F1517 w1518 k1516 hT1519 hF1520
     have s1521 := s1493.call k1516
     have m1522 : Mv (b1470 :: (b1459 :: (b1448 :: (b1373 :: (b1365 :: (b1349 :: [])))))) w1492 (b1470 :: (b1459 :: (b1448 :: (b1373 :: (b1365 :: (b1349 :: [])))))) w1518 := Mv.of_keep k1516
     have hp1348 := hp1348.mv m1522
     have hp1364 := hp1364.mv m1522
     have hd1445 := hd1445.mv m1522
     have hd1447 := hd1447.mv m1522
     have bx1354 := bx1354.keep k1516 (by simp)
     have bx1370 := bx1370.keep k1516 (by simp)
     have bx1378 := bx1378.keep k1516 (by simp)
     have bx1453 := bx1453.keep k1516 (by simp)
     have bx1464 := bx1464.keep k1516 (by simp)
     have bx1496 := bx1496.keep k1516 (by simp)
     obtain ⟨F2, rfl⟩ := lit_of (F := F1517) [(0, Value.pointer (some ⟨b1459, 0, none⟩)), (2, Value.pointer (some a1343)), (12, undef), (3, Value.pointer (some ⟨b1448, 0, none⟩)), (7, Value.bool (c.guardians.contains guardian))] ⟨hF1520 0 (by kernel_rfl), hF1520 2 (by kernel_rfl), hF1520 12 (by kernel_rfl), hT1519 0 3 (by kernel_rfl) (by decide), hT1519 4 7 (by kernel_rfl) (by decide), trivial⟩
     clear hT1519 hF1520
     refine wl_s (o_callX [Value.pointer (some ⟨b1448, 0, none⟩), Value.bool (c.guardians.contains guardian), vI (450 : Int)] enter_41 rfl (calls_of_cw 11 Try.func41 rfl rfl (of_decide_eq_true rfl) (fun F1524 => ?_)))
     refine cw_seq (?_)
     refine cw_region (by kernel_rfl) (wl_s (o_move (Value.bool (c.guardians.contains guardian)) rfl (wl_s (o_not (c.guardians.contains guardian) rfl (wl_nil (thenQ_n (?_)))))))
     refine cw_cond (!(c.guardians.contains guardian)) rfl rfl (fun hc1525 => ?_) (fun hc1525 => ?_)
     ·have hp1526 : (c.guardians.contains guardian) = false := by first | simpa using hc1525 | (have e := hc1525; simp at e; omega)
      refine cw_region (by kernel_rfl) (wl_s (o_move (vI (450 : Int)) rfl (wl_s (o_build (l := [(0, .tmp 8)]) pl_78 z_78 rfl [(0, vI (450 : Int), [vI (450 : Int)])] [vI (450 : Int)] rfl ⟨_, rfl, rfl, (of_decide_eq_true rfl), rfl⟩ (wl_s (o_iface (Value.agg #[vI (450 : Int)]) Try.underlying78 rfl rfl (wl_n (o_panic rfl (end_p rfl (both_p (?_)))))))))))
      refine thenQ_p (end_p rfl (both_p (?_)))
      refine end_p rfl (both_p (?_))
      refine end_p rfl (both_p (?_))
      refine thenQ_p (endD_pl (leave_con [Value.pointer (some ⟨b1365, 0, none⟩), Value.pointer (some ⟨b1373, 0, none⟩)] (.panicking [{ v := Value.iface 78 (Value.agg #[vI (450 : Int)]), recovered := false }]) rfl (fun h => by cases h) rfl enter_59 (c_on1p (450 : Int) b1365 b1373 s1521 bx1370 bx1378 (by repeat (first | assumption | constructor)) (by repeat (first | assumption | constructor)) ne1381) (fun e_ w1527 hR_ => ?_)))
      obtain ⟨v_, rfl, s1528, m1529, k1530, bx1531, bx1532⟩ := hR_
      have bx1354 := bx1354.keep k1530 (nin2 ne1372 ne1380)
      refine Exists.intro _ (And.intro (resv2 rfl (rv_A (vs := [vI (0 : Int), vI (0 : Int), vI (0 : Int), Value.slice none 0 0, Value.slice none 0 0]) rfl Try.underlying25 rfl s_25 rfl bx1531 rfl) (rv_c rfl Try.underlying28 rfl rfl bx1532 rfl)) (both_r (?_)))
      refine wl_s (o_extract (Value.agg #[vI (0 : Int), vI (0 : Int), vI (0 : Int), Value.slice none 0 0, Value.slice none 0 0]) rfl rfl (wl_s (o_extract (vI (450 : Int)) rfl rfl (wl_n (o_store (vs := [vI (0 : Int), vI (0 : Int), vI (0 : Int), Value.slice none 0 0, Value.slice none 0 0]) (.agg #[vI (0 : Int), vI (0 : Int), vI (0 : Int), Value.slice none 0 0, Value.slice none 0 0]) rfl rfl rfl s_25 (fun u hu => by simp only [List.mem_cons, List.not_mem_nil, or_false] at hu; rcases hu with rfl | rfl | rfl | rfl | rfl <;> first | rfl) (by repeat (first | assumption | constructor)) bx1354 (of_decide_eq_true rfl) s1528 fun w1533 s1534 m1535 k1536 bx1537 => (?_))))))
      refine wl_s (o_assign (vI (450 : Int)) rfl (wl_nil (thenQ_n (?_))))
      refine cw_ret (end_r rfl (resv2 rfl (rv_A (vs := [vI (0 : Int), vI (0 : Int), vI (0 : Int), Value.slice none 0 0, Value.slice none 0 0]) rfl Try.underlying25 rfl s_25 rfl bx1537 rfl) (rv_t rfl rfl)) (?_))
      have e1538 : ((gAct c no (fApprove c guardian)).1) = (⟨(0 : Int), (0 : Int), (0 : Int), [], []⟩ : Circle) := by first | exact congrArg (fun p => p.1) (show gAct c no (fApprove c guardian) = _ from app_no hok (by omega)) | exact congrArg (fun p => p.1) (show gAct c no (fApprove c guardian) = _ from app_not hok (by omega) (by omega) (by assumption) (by assumption)) | exact congrArg (fun p => p.1) (show gAct c no (fApprove c guardian) = _ from app_had hok (by omega) (by omega) (by assumption) (by assumption) (by assumption)) | exact congrArg (fun p => p.1) (show gAct c no (fApprove c guardian) = _ from app_new hok (by omega) (by omega) (by assumption) (by assumption) (by assumption))
      have e1539 : ((gAct c no (fApprove c guardian)).2) = (450 : Int) := by first | exact congrArg (fun p => p.2) (show gAct c no (fApprove c guardian) = _ from app_no hok (by omega)) | exact congrArg (fun p => p.2) (show gAct c no (fApprove c guardian) = _ from app_not hok (by omega) (by omega) (by assumption) (by assumption)) | exact congrArg (fun p => p.2) (show gAct c no (fApprove c guardian) = _ from app_had hok (by omega) (by omega) (by assumption) (by assumption) (by assumption)) | exact congrArg (fun p => p.2) (show gAct c no (fApprove c guardian) = _ from app_new hok (by omega) (by omega) (by assumption) (by assumption) (by assumption))
      exact ⟨_, rfl, s1534.keep, by rw [e1538, e1539]; exact ⟨[vI (0 : Int), vI (0 : Int), vI (0 : Int), Value.slice none 0 0, Value.slice none 0 0], rfl, Enc.out (B := (b1470 :: (b1459 :: (b1448 :: (b1373 :: (b1365 :: (b1349 :: []))))))) ⟨.slice none 0 0, .slice none 0 0, rfl, (RdL.nil _ _ _), (RdL.nil _ _ _)⟩⟩⟩
     ·have hp1540 : (c.guardians.contains guardian) = true := by first | simpa using hc1525 | (have e := hc1525; simp at e; omega)
      refine cw_skip (end_n rfl (res0 rfl) (both_r (?_)))
      refine wl_nil (thenQ_n (?_))
      refine cw_region (by kernel_rfl) (wl_s (o_loadBx Try.underlying64 rfl (Value.pointer (some ⟨b1448, 0, none⟩)) rfl bx1464 rfl (wl_s (o_loadI Try.underlying3 rfl rfl hp1348 (wl_s (o_call [Value.pointer (some ⟨b1448, 0, none⟩), vI guardian] _ enter_45 rfl (calls_of_cw 32 Try.func45 rfl rfl (of_decide_eq_true rfl) (fun F1541 => ?_)) (fun _ _ h => h)))))))
      refine cw_seq (?_)
      refine cw_region (by kernel_rfl) (wl_s (o_move (Value.pointer (some ⟨b1448, 0, none⟩)) rfl (wl_s (o_nilCheck ⟨b1448, 0, none⟩ rfl (wl_s (o_fieldL 0 f_74_0 rfl (wl_s (o_fieldL 3 f_47_3 rfl (wl_s (o_loadBx Try.underlying22 rfl (d1444) rfl bx1453 rfl (wl_s (o_move (vI guardian) rfl (wl_s (o_callK (vs := [d1444, vI guardian]) enter_61 (c_bs (O := (b1470 :: (b1459 :: (b1448 :: (b1373 :: (b1365 :: (b1349 :: [])))))) ++ O) d1444 ((c.recs[no.toNat]!).approved) guardian w1518 hd1445 (approved_sorted hok (by omega) (by omega)) (by have := inc_len (recOK_parts (rec_ok hok (k := no.toNat) (by omega))).2.2; omega) s1521.lt) rfl s1521 fun v1542 w1543 s1544 m1545 k1546 r1547 => (?_)))))))))))))))
      obtain rfl := r1547
      have hd1445 := hd1445.mv m1545
      have hp1364 := hp1364.mv m1545
      have hd1447 := hd1447.mv m1545
      have bx1354 := bx1354.keep k1546 (by simp)
      have bx1370 := bx1370.keep k1546 (by simp)
      have bx1378 := bx1378.keep k1546 (by simp)
      have bx1453 := bx1453.keep k1546 (by simp)
      have bx1464 := bx1464.keep k1546 (by simp)
      have bx1496 := bx1496.keep k1546 (by simp)
      refine wl_s (o_move (Value.tuple #[vI ((tw ((c.recs[no.toNat]!).approved) guardian : Nat) : Int), Value.bool (bsF ((c.recs[no.toNat]!).approved) guardian)]) rfl (wl_s (o_extract (vI ((tw ((c.recs[no.toNat]!).approved) guardian : Nat) : Int)) rfl rfl (wl_s (o_extract (Value.bool (bsF ((c.recs[no.toNat]!).approved) guardian)) rfl rfl (wl_s (o_assign (vI ((tw ((c.recs[no.toNat]!).approved) guardian : Nat) : Int)) rfl (wl_s (o_assign (Value.bool (bsF ((c.recs[no.toNat]!).approved) guardian)) rfl (wl_nil (thenQ_n (?_))))))))))))
      refine cw_seq (?_)
      refine cw_region (by kernel_rfl) (wl_s (o_move (Value.bool (bsF ((c.recs[no.toNat]!).approved) guardian)) rfl (wl_s (o_not (bsF ((c.recs[no.toNat]!).approved) guardian) rfl (wl_nil (thenQ_n (?_)))))))
      refine cw_cond (!(bsF ((c.recs[no.toNat]!).approved) guardian)) rfl rfl (fun hc1548 => ?_) (fun hc1548 => ?_)
      ·have hp1549 : (bsF ((c.recs[no.toNat]!).approved) guardian) = false := by first | simpa using hc1548 | (have e := hc1548; simp at e; omega)
       refine cw_region (by kernel_rfl) (wl_s (o_move (Value.pointer (some ⟨b1448, 0, none⟩)) rfl (wl_s (o_move (Value.pointer (some ⟨b1448, 0, none⟩)) rfl (wl_s (o_nilCheck ⟨b1448, 0, none⟩ rfl (wl_s (o_fieldL 0 f_74_0 rfl (wl_s (o_fieldL 3 f_47_3 rfl (wl_s (o_loadBx Try.underlying22 rfl (d1444) rfl bx1453 rfl (wl_s (o_call [d1444] _ enter_29 rfl (calls_of_cw 8 Try.func29 rfl rfl (of_decide_eq_true rfl) (fun F1550 => ?_)) (fun _ _ h => h)))))))))))))))
       refine cw_seq (?_)
       refine cw_region (by kernel_rfl) (wl_s (o_assign (Value.slice none 0 0) rfl (wl_nil (thenQ_n (?_)))))
       refine cw_seq (?_)
       refine cw_seq (?_)
       refine cw_region (by kernel_rfl) (wl_s (o_move (d1444) rfl (wl_s (o_eqlNilR Try.underlying22 rfl rfl hd1445 fun bn1551 hbn1552 => (?_)))))
       refine wl_nil (thenQ_n (?_))
       refine cw_cond (bn1551) rfl rfl (fun hc1553 => ?_) (fun hc1553 => ?_)
       ·have hp1554 : bn1551 = true := by first | simpa using hc1553 | (have e := hc1553; simp at e; omega)
        refine cw_seq (?_)
        refine cw_region (by kernel_rfl) (wl_s (o_assign (Value.slice none 0 0) rfl (wl_nil (thenQ_n (?_)))))
        refine cw_ret (thenQ_r (end_r rfl (res1 rfl rfl rfl) (?_)))
        have hnl1556 : (c.recs[no.toNat]!).approved = [] := hbn1552 (by first | assumption | simp_all)
        have hl1555 : RdL Enc.int w1543 ((b1470 :: (b1459 :: (b1448 :: (b1373 :: (b1365 :: (b1349 :: [])))))) ++ O) (.slice none 0 0) ((c.recs[no.toNat]!).approved) := by rw [hnl1556]; exact RdL.nil _ _ _
        refine Exists.intro _ (And.intro rfl (?_))
        refine wl_s (o_move (vI ((tw ((c.recs[no.toNat]!).approved) guardian : Nat) : Int)) rfl (wl_s (o_move (vI guardian) rfl (wl_s (o_litO (E := Enc.int) (xs := [.tmp 26]) Try.underlying22 s_3 z_3 (by decide) [vI guardian] [[vI guardian]] [guardian] rfl rfl rfl (Parts.cons rfl rfl (Parts.nil _ _ _)) (of_decide_eq_true rfl) s1544 fun v1561 b1563 w1557 e1564 hb1565 s1558 m1559 k1560 hl1562 => (?_))))))
        have ne1566 : ∀ b, v1561.ownBlock = some b → b ≠ b1349 := fun b hb => by have := bx1354.lt; rw [hb1565] at hb; cases hb; omega
        have ne1567 : ∀ b, v1561.ownBlock = some b → b ≠ b1365 := fun b hb => by have := bx1370.lt; rw [hb1565] at hb; cases hb; omega
        have ne1568 : ∀ b, v1561.ownBlock = some b → b ≠ b1373 := fun b hb => by have := bx1378.lt; rw [hb1565] at hb; cases hb; omega
        have ne1569 : ∀ b, v1561.ownBlock = some b → b ≠ b1448 := fun b hb => by have := bx1453.lt; rw [hb1565] at hb; cases hb; omega
        have ne1570 : ∀ b, v1561.ownBlock = some b → b ≠ b1459 := fun b hb => by have := bx1464.lt; rw [hb1565] at hb; cases hb; omega
        have ne1571 : ∀ b, v1561.ownBlock = some b → b ≠ b1470 := fun b hb => by have := bx1496.lt; rw [hb1565] at hb; cases hb; omega
        have hB1572 : ∀ b, v1561.ownBlock = some b → b ∈ (b1563 :: (b1470 :: (b1459 :: (b1448 :: (b1373 :: (b1365 :: (b1349 :: []))))))) := fun b hb => by rw [hb1565] at hb; cases hb; simp
        clear e1564 hb1565
        have hp1364 := hp1364.mv m1559
        have hd1447 := hd1447.mv m1559
        have bx1354 := bx1354.keep k1560 (by simp)
        have bx1370 := bx1370.keep k1560 (by simp)
        have bx1378 := bx1378.keep k1560 (by simp)
        have bx1453 := bx1453.keep k1560 (by simp)
        have bx1464 := bx1464.keep k1560 (by simp)
        have bx1496 := bx1496.keep k1560 (by simp)
        refine wl_s (o_callX [Value.slice none 0 0, vI ((tw ((c.recs[no.toNat]!).approved) guardian : Nat) : Int), v1561] enter_62 rfl (Calls.mono (c_insertI (.slice none 0 0) v1561 ((c.recs[no.toNat]!).approved) ([guardian]) (tw ((c.recs[no.toNat]!).approved) guardian) s1558 (by rw [hnl1556]; exact Own.nil Enc.int 3 _ _ _) hl1562 (by intro b hb; simp [Value.ownBlock] at hb) hB1572 (fun b hb => by simp [Value.ownBlock] at hb) (by simp) (tw_le _ _) (by have := inc_len (recOK_parts (rec_ok hok (k := no.toNat) (by omega))).2.2; simp only [List.length_cons, List.length_nil]; omega) (by have := inc_len (recOK_parts (rec_ok hok (k := no.toNat) (by omega))).2.2; simp only [List.length_cons, List.length_nil, maxLen]; omega)) (fun e_ w1582 hR_ => ?_)))
        obtain ⟨v1573, B1574, rfl, hB1575, at1576, sub1577, s1578, m1579, k1580, ho1581⟩ := hR_
        refine both_r ?_
        have ne1583 : ∀ b, v1561.ownBlock = some b → v1573.ownBlock ≠ some b := fun b hb e => (at1576 b e).elim (fun e1 => (by simp [Value.ownBlock] at e1)) (fun e1 => by have := (hl1562.lt b hb).2; omega)
        have ne1584 : ∀ b, v1573.ownBlock = some b → b ≠ b1349 := fun b hb => (at1576 b hb).elim (fun e1 => (by simp [Value.ownBlock] at e1)) (fun e1 => by have := bx1354.lt; omega)
        have ne1585 : ∀ b, v1573.ownBlock = some b → b ≠ b1365 := fun b hb => (at1576 b hb).elim (fun e1 => (by simp [Value.ownBlock] at e1)) (fun e1 => by have := bx1370.lt; omega)
        have ne1586 : ∀ b, v1573.ownBlock = some b → b ≠ b1373 := fun b hb => (at1576 b hb).elim (fun e1 => (by simp [Value.ownBlock] at e1)) (fun e1 => by have := bx1378.lt; omega)
        have ne1587 : ∀ b, v1573.ownBlock = some b → b ≠ b1448 := fun b hb => (at1576 b hb).elim (fun e1 => (by simp [Value.ownBlock] at e1)) (fun e1 => by have := bx1453.lt; omega)
        have ne1588 : ∀ b, v1573.ownBlock = some b → b ≠ b1459 := fun b hb => (at1576 b hb).elim (fun e1 => (by simp [Value.ownBlock] at e1)) (fun e1 => by have := bx1464.lt; omega)
        have ne1589 : ∀ b, v1573.ownBlock = some b → b ≠ b1470 := fun b hb => (at1576 b hb).elim (fun e1 => (by simp [Value.ownBlock] at e1)) (fun e1 => by have := bx1496.lt; omega)
        have hB1572 : ∀ b, v1561.ownBlock = some b → b ∈ B1574 := fun b hb => sub1577 b (hB1572 b hb)
        have hin_b1349 : b1349 ∈ B1574 := sub1577 b1349 (by repeat (first | assumption | constructor))
        have hin_b1365 : b1365 ∈ B1574 := sub1577 b1365 (by repeat (first | assumption | constructor))
        have hin_b1373 : b1373 ∈ B1574 := sub1577 b1373 (by repeat (first | assumption | constructor))
        have hin_b1448 : b1448 ∈ B1574 := sub1577 b1448 (by repeat (first | assumption | constructor))
        have hin_b1459 : b1459 ∈ B1574 := sub1577 b1459 (by repeat (first | assumption | constructor))
        have hin_b1470 : b1470 ∈ B1574 := sub1577 b1470 (by repeat (first | assumption | constructor))
        have hp1364 := hp1364.mv m1579
        have hd1447 := hd1447.mv m1579
        have bx1354 := bx1354.keep k1580 (by simp [Value.ownBlock])
        have bx1370 := bx1370.keep k1580 (by simp [Value.ownBlock])
        have bx1378 := bx1378.keep k1580 (by simp [Value.ownBlock])
        have bx1453 := bx1453.keep k1580 (by simp [Value.ownBlock])
        have bx1464 := bx1464.keep k1580 (by simp [Value.ownBlock])
        have bx1496 := bx1496.keep k1580 (by simp [Value.ownBlock])
        refine wl_s (o_nilCheck ⟨b1448, 0, none⟩ rfl (wl_s (o_fieldL 0 f_74_0 rfl (wl_s (o_fieldL 3 f_47_3 rfl (wl_n (o_store1 (v1573) rfl rfl ho1581.oneCell s_22 (by repeat (first | assumption | constructor)) bx1453 (of_decide_eq_true rfl) s1578 fun w1590 s1591 m1592 k1593 bx1594 => (?_))))))))
        have ho1581 := ho1581.mv m1592 k1593 (fun b hb => nin1 (ne1587 b hb))
        have hp1364 := hp1364.mv m1592
        have hd1447 := hd1447.mv m1592
        have bx1354 := bx1354.keep k1593 (nin1 ne1455)
        have bx1370 := bx1370.keep k1593 (nin1 ne1456)
        have bx1378 := bx1378.keep k1593 (nin1 ne1457)
        have bx1464 := bx1464.keep k1593 (nin1 (Ne.symm ne1469))
        have bx1496 := bx1496.keep k1593 (nin1 (Ne.symm ne1480))
        refine wl_nil (end_n rfl (res0 rfl) (Exists.intro _ (And.intro rfl (?_))))
        refine wl_nil (end_n rfl (res0 rfl) (both_r (?_)))
        refine wl_nil (end_n rfl (res0 rfl) (both_r (?_)))
        refine wl_nil (end_n rfl (res0 rfl) (both_r (?_)))
        refine wl_nil (thenQ_n (?_))
        refine cw_seq (?_)
        refine cw_region (by kernel_rfl) (wl_s (o_loadS Try.underlying25 rfl s_25 rfl hp1364 fun cs1595 hs1596 => (?_)))
        obtain ⟨d1602, d1604, rfl, hd1603, hd1605⟩ := hs1596
        have := hd1603.len_le
        have := hd1605.len_le
        refine wl_n (o_store (vs := [vI c.epoch, vI c.threshold, vI c.wait, d1602, d1604]) (.agg #[vI c.epoch, vI c.threshold, vI c.wait, d1602, d1604]) rfl rfl rfl s_25 (fun u hu => by simp only [List.mem_cons, List.not_mem_nil, or_false] at hu; rcases hu with rfl | rfl | rfl | rfl | rfl <;> first | rfl | exact hd1603.oneCell | exact hd1605.oneCell) (by repeat (first | assumption | constructor)) bx1370 (of_decide_eq_true rfl) s1591 fun w1597 s1598 m1599 k1600 bx1601 => (?_))
        have hp1364 := hp1364.mv m1599
        have hd1447 := hd1447.mv m1599
        have hd1603 := hd1603.mv m1599
        have bx1354 := bx1354.keep k1600 (nin1 ne1372)
        have bx1378 := bx1378.keep k1600 (nin1 (Ne.symm ne1381))
        have ho1581 := ho1581.mv m1599 k1600 (fun b hb => nin1 (ne1585 b hb))
        have bx1594 := bx1594.keep k1600 (nin1 (Ne.symm ne1456))
        have bx1464 := bx1464.keep k1600 (nin1 (Ne.symm ne1467))
        have bx1496 := bx1496.keep k1600 (nin1 (Ne.symm ne1478))
        refine wl_nil (thenQ_n (?_))
        refine cw_seq (?_)
        refine cw_region (by kernel_rfl) (wl_s (o_fieldR 4 f_25_4 (c.recs) rfl hp1364 (fun _ _ _ h => Enc_circle_f4 h) fun a1606 hp1607 => (wl_s (o_loadL Try.underlying23 rfl rfl hp1607 fun v1608 hl1609 => (?_)))))
        have := hl1609.len_le
        refine wl_s (o_call [v1608] _ enter_31 rfl (calls_of_cw 8 Try.func31 rfl rfl (of_decide_eq_true rfl) (fun F1610 => ?_)) (fun _ _ h => h))
        refine cw_seq (?_)
        refine cw_region (by kernel_rfl) (wl_s (o_assign (Value.slice none 0 0) rfl (wl_nil (thenQ_n (?_)))))
        refine cw_seq (?_)
        refine cw_seq (?_)
        refine cw_region (by kernel_rfl) (wl_s (o_move (v1608) rfl (wl_s (o_eqlNilF Try.underlying23 rfl rfl hl1609 (by omega) (wl_nil (thenQ_n (?_)))))))
        refine cw_cond false rfl rfl (fun h => by cases h) (fun _ => ?_)
        refine cw_skip (thenQ_n (?_))
        refine cw_seq (?_)
        refine cw_region (by kernel_rfl) (wl_s (o_litO (E := Enc.recovery) (xs := []) Try.underlying23 s_47 z_47 (by decide) [] [] [] rfl rfl rfl (Parts.nil _ _ _) (of_decide_eq_true rfl) s1598 fun v1615 b1617 w1611 e1618 hb1619 s1612 m1613 k1614 hl1616 => (?_)))
        have ne1620 : ∀ b, v1615.ownBlock = some b → b ≠ b1349 := fun b hb => by have := bx1354.lt; rw [hb1619] at hb; cases hb; omega
        have ne1621 : ∀ b, v1615.ownBlock = some b → b ≠ b1365 := fun b hb => by have := bx1601.lt; rw [hb1619] at hb; cases hb; omega
        have ne1622 : ∀ b, v1615.ownBlock = some b → b ≠ b1373 := fun b hb => by have := bx1378.lt; rw [hb1619] at hb; cases hb; omega
        have ne1623 : ∀ b, v1615.ownBlock = some b → b ≠ b1448 := fun b hb => by have := bx1594.lt; rw [hb1619] at hb; cases hb; omega
        have ne1624 : ∀ b, v1615.ownBlock = some b → b ≠ b1459 := fun b hb => by have := bx1464.lt; rw [hb1619] at hb; cases hb; omega
        have ne1625 : ∀ b, v1615.ownBlock = some b → b ≠ b1470 := fun b hb => by have := bx1496.lt; rw [hb1619] at hb; cases hb; omega
        have ne1626 : ∀ b, v1573.ownBlock = some b → v1615.ownBlock ≠ some b := fun b hb => by have := (ho1581.lt b hb).2; rw [hb1619]; intro e; cases e; omega
        have ne1626' : ∀ b, v1615.ownBlock = some b → v1573.ownBlock ≠ some b := fun b hb e => ne1626 b e hb
        have hB1627 : ∀ b, v1615.ownBlock = some b → b ∈ (b1617 :: B1574) := fun b hb => by rw [hb1619] at hb; cases hb; simp
        clear e1618 hb1619
        have hB1575 : ∀ b, v1573.ownBlock = some b → b ∈ (b1617 :: B1574) := fun b hb => List.mem_cons_of_mem _ (hB1575 b hb)
        have hl1609 := hl1609.mv m1613
        have hd1447 := hd1447.mv m1613
        have hd1603 := hd1603.mv m1613
        have bx1354 := bx1354.keep k1614 (by simp)
        have bx1601 := bx1601.keep k1614 (by simp)
        have bx1378 := bx1378.keep k1614 (by simp)
        have ho1581 := ho1581.mv m1613 k1614 (by simp)
        have bx1594 := bx1594.keep k1614 (by simp)
        have bx1464 := bx1464.keep k1614 (by simp)
        have bx1496 := bx1496.keep k1614 (by simp)
        refine wl_s (o_move (v1608) rfl (wl_s (o_append (E := Enc.recovery) (l := []) (m := c.recs) Try.underlying23 i_47 rfl (by decide) rfl rfl hl1616 hl1609 (fun _ hb => .inl hb) hB1627 (by simp; omega) (by simp [maxLen]; omega) s1612 fun v1632 w1628 B1634 hB1635 at1636 sub1637 s1629 m1630 k1631 ho1633 => (?_))))
        rw [List.nil_append] at ho1633
        have ne1638 : ∀ b, v1573.ownBlock = some b → v1632.ownBlock ≠ some b := fun b hb e => by rcases at1636 with e1 | e1 <;> rw [e1] at e <;> first | (simp [Value.ownBlock] at e; done) | (cases e; have := (ho1581.lt _ hb).2; omega) | (exact absurd e (ne1626 b hb))
        have ne1639 : ∀ b, v1632.ownBlock = some b → b ≠ b1349 := fun b hb => by rcases at1636 with e1 | e1 <;> rw [e1] at hb <;> first | (simp [Value.ownBlock] at hb; done) | (cases hb; have := bx1354.lt; omega) | (exact ne1620 b hb)
        have ne1640 : ∀ b, v1632.ownBlock = some b → b ≠ b1365 := fun b hb => by rcases at1636 with e1 | e1 <;> rw [e1] at hb <;> first | (simp [Value.ownBlock] at hb; done) | (cases hb; have := bx1601.lt; omega) | (exact ne1621 b hb)
        have ne1641 : ∀ b, v1632.ownBlock = some b → b ≠ b1373 := fun b hb => by rcases at1636 with e1 | e1 <;> rw [e1] at hb <;> first | (simp [Value.ownBlock] at hb; done) | (cases hb; have := bx1378.lt; omega) | (exact ne1622 b hb)
        have ne1642 : ∀ b, v1632.ownBlock = some b → b ≠ b1448 := fun b hb => by rcases at1636 with e1 | e1 <;> rw [e1] at hb <;> first | (simp [Value.ownBlock] at hb; done) | (cases hb; have := bx1594.lt; omega) | (exact ne1623 b hb)
        have ne1643 : ∀ b, v1632.ownBlock = some b → b ≠ b1459 := fun b hb => by rcases at1636 with e1 | e1 <;> rw [e1] at hb <;> first | (simp [Value.ownBlock] at hb; done) | (cases hb; have := bx1464.lt; omega) | (exact ne1624 b hb)
        have ne1644 : ∀ b, v1632.ownBlock = some b → b ≠ b1470 := fun b hb => by rcases at1636 with e1 | e1 <;> rw [e1] at hb <;> first | (simp [Value.ownBlock] at hb; done) | (cases hb; have := bx1496.lt; omega) | (exact ne1625 b hb)
        have hB1575 : ∀ b, v1573.ownBlock = some b → b ∈ B1634 := fun b hb => sub1637 b (hB1575 b hb)
        have hin_b1349 : b1349 ∈ B1634 := sub1637 b1349 (by repeat (first | assumption | constructor))
        have hin_b1365 : b1365 ∈ B1634 := sub1637 b1365 (by repeat (first | assumption | constructor))
        have hin_b1373 : b1373 ∈ B1634 := sub1637 b1373 (by repeat (first | assumption | constructor))
        have hin_b1448 : b1448 ∈ B1634 := sub1637 b1448 (by repeat (first | assumption | constructor))
        have hin_b1459 : b1459 ∈ B1634 := sub1637 b1459 (by repeat (first | assumption | constructor))
        have hin_b1470 : b1470 ∈ B1634 := sub1637 b1470 (by repeat (first | assumption | constructor))
        have hd1447 := hd1447.mv m1630
        have hd1603 := hd1603.mv m1630
        have bx1354 := bx1354.keep k1631 (by simp only [Option.mem_toList]; first | (simp [Value.ownBlock]; done) | exact fun e => absurd rfl (ne1620 _ e))
        have bx1601 := bx1601.keep k1631 (by simp only [Option.mem_toList]; first | (simp [Value.ownBlock]; done) | exact fun e => absurd rfl (ne1621 _ e))
        have bx1378 := bx1378.keep k1631 (by simp only [Option.mem_toList]; first | (simp [Value.ownBlock]; done) | exact fun e => absurd rfl (ne1622 _ e))
        have ho1581 := ho1581.mv m1630 k1631 (fun b hb => by simp only [Option.mem_toList]; first | (simp [Value.ownBlock]; done) | exact ne1626 b hb)
        have bx1594 := bx1594.keep k1631 (by simp only [Option.mem_toList]; first | (simp [Value.ownBlock]; done) | exact fun e => absurd rfl (ne1623 _ e))
        refine wl_s (o_assign (v1632) rfl (wl_nil (thenQ_n (?_))))
        refine cw_ret (end_r rfl (res1 rfl rfl rfl) (Exists.intro _ (And.intro rfl (?_))))
        refine wl_s (o_fieldL 4 f_25_4 rfl (wl_n (o_store1 (v1632) rfl rfl ho1633.oneCell s_23 (by repeat (first | assumption | constructor)) bx1601 (of_decide_eq_true rfl) s1629 fun w1645 s1646 m1647 k1648 bx1649 => (?_))))
        have hd1447 := hd1447.mv m1647
        have hd1603 := hd1603.mv m1647
        have ho1633 := ho1633.mv m1647 k1648 (fun b hb => nin1 (ne1640 b hb))
        have bx1354 := bx1354.keep k1648 (nin1 ne1372)
        have bx1378 := bx1378.keep k1648 (nin1 (Ne.symm ne1381))
        have ho1581 := ho1581.mv m1647 k1648 (fun b hb => nin1 (ne1585 b hb))
        have bx1594 := bx1594.keep k1648 (nin1 (Ne.symm ne1456))
        refine wl_nil (thenQ_n (?_))
        refine cw_seq (?_)
        refine cw_draw' 7 _ _ [isV (Value.pointer (some ⟨b1365, 4, none⟩)), isV v1632, isV (vI no), isV (Value.pointer (some ⟨b1448, 0, none⟩)), isV (Value.pointer (some ⟨b1448, 0, none⟩)), isV (Value.pointer (some ⟨b1448, 0, none⟩)), isV (Value.agg #[vI ((c.recs[no.toNat]!).no), vI ((c.recs[no.toNat]!).asked), vI ((c.recs[no.toNat]!).state), v1573, d1446])] (by kernel_rfl) (by kernel_rfl) (by kernel_rfl) (by kernel_rfl) rfl rfl ⟨kI, kI, kI, kI, kI, kI, kI, trivial⟩ ⟨?_, ?_, ?_, ?_, ?_, ?_, ?_, trivial⟩ ?_
        ·intro F1 w1 k1 hf hd
         obtain ⟨F2, rfl⟩ := lit_of (F := F1) [(6, Value.pointer (some ⟨b1365, 0, none⟩))] ⟨hf 6 (by kernel_rfl), trivial⟩
         exact sp_plain rfl ((o_fieldL 4 f_25_4 rfl (⟨(Keep.refl _ _), rfl⟩)))
        ·intro F1 w1 k1 hf hd
         have k0 := (Keep.drew [] w1645).trans k1
         have bx1649 := bx1649.keep k0 (by simp)
         obtain ⟨F2, rfl⟩ := lit_of (F := F1) [(42, Value.pointer (some ⟨b1365, 4, none⟩))] ⟨hd 0 42 (by kernel_rfl), trivial⟩
         exact sp_plain rfl ((o_loadBx Try.underlying23 rfl (v1632) rfl bx1649 rfl (⟨(Keep.refl _ _), rfl⟩)))
        ·intro F1 w1 k1 hf hd
         obtain ⟨F2, rfl⟩ := lit_of (F := F1) [(1, vI no)] ⟨hf 1 (by kernel_rfl), trivial⟩
         exact sp_plain rfl ((o_move (vI no) rfl (⟨(Keep.refl _ _), rfl⟩)))
        ·intro F1 w1 k1 hf hd
         obtain ⟨F2, rfl⟩ := lit_of (F := F1) [(9, Value.pointer (some ⟨b1448, 0, none⟩))] ⟨hf 9 (by kernel_rfl), trivial⟩
         exact sp_plain rfl ((o_move (Value.pointer (some ⟨b1448, 0, none⟩)) rfl (⟨(Keep.refl _ _), rfl⟩)))
        ·intro F1 w1 k1 hf hd
         obtain ⟨F2, rfl⟩ := lit_of (F := F1) [(45, Value.pointer (some ⟨b1448, 0, none⟩))] ⟨hd 3 45 (by kernel_rfl), trivial⟩
         exact sp_plain rfl ((o_nilCheck ⟨b1448, 0, none⟩ rfl (⟨(Keep.refl _ _), rfl⟩)))
        ·intro F1 w1 k1 hf hd
         obtain ⟨F2, rfl⟩ := lit_of (F := F1) [(46, Value.pointer (some ⟨b1448, 0, none⟩))] ⟨hd 4 46 (by kernel_rfl), trivial⟩
         exact sp_plain rfl ((o_fieldL 0 f_74_0 rfl (⟨(Keep.refl _ _), rfl⟩)))
        ·intro F1 w1 k1 hf hd
         have k0 := (Keep.drew [] w1645).trans k1
         have bx1594 := bx1594.keep k0 (by simp)
         obtain ⟨F2, rfl⟩ := lit_of (F := F1) [(47, Value.pointer (some ⟨b1448, 0, none⟩))] ⟨hd 5 47 (by kernel_rfl), trivial⟩
         exact sp_plain rfl ((o_loadBxA (vs := [vI ((c.recs[no.toNat]!).no), vI ((c.recs[no.toNat]!).asked), vI ((c.recs[no.toNat]!).state), v1573, d1446]) Try.underlying47 rfl s_47 rfl bx1594 rfl (⟨(Keep.refl _ _), rfl⟩)))
        intro F1651 w1652 k1650 hT1653 hF1654
        have s1655 := s1646.call k1650
        have m1656 : Mv B1634 w1645 B1634 w1652 := Mv.of_keep k1650
        have hd1447 := hd1447.mv m1656
        have hd1603 := hd1603.mv m1656
        have ho1633 := ho1633.mv m1656 k1650 (by simp)
        have bx1354 := bx1354.keep k1650 (by simp)
        have bx1649 := bx1649.keep k1650 (by simp)
        have bx1378 := bx1378.keep k1650 (by simp)
        have ho1581 := ho1581.mv m1656 k1650 (by simp)
        obtain ⟨F2, rfl⟩ := lit_of (F := F1651) [(6, Value.pointer (some ⟨b1365, 0, none⟩)), (7, Value.pointer (some ⟨b1373, 0, none⟩)), (51, .tuple #[Value.func (.func 59) #[] #[Value.pointer (some ⟨b1365, 0, none⟩), Value.pointer (some ⟨b1373, 0, none⟩)]]), (43, v1632), (44, vI no), (48, Value.agg #[vI ((c.recs[no.toNat]!).no), vI ((c.recs[no.toNat]!).asked), vI ((c.recs[no.toNat]!).state), v1573, d1446])] ⟨hF1654 6 (by kernel_rfl), hF1654 7 (by kernel_rfl), hF1654 51 (by kernel_rfl), hT1653 1 43 (by kernel_rfl) (by decide), hT1653 2 44 (by kernel_rfl) (by decide), hT1653 6 48 (by kernel_rfl) (by decide), trivial⟩
        clear hT1653 hF1654
        refine wl_s (o_indexO Try.underlying23 s_47 .i64 no no.toNat rfl rfl (by omega) ho1633 (by first | omega | (simp; omega)) fun b1658 hb1659 => (?_))
        obtain ⟨B1665, s1666, m1667, hl1668, hk1669⟩ := ho1581.publish s1655
        have hB1635 : ∀ b, v1632.ownBlock = some b → b ∈ B1665 := fun b hb => hk1669 b (hB1635 b hb) ((fun b hb e => ne1638 b e hb) b hb)
        have hin_b1349 : b1349 ∈ B1665 := hk1669 b1349 (by repeat (first | assumption | constructor)) (fun e => absurd rfl (ne1584 _ e))
        have hin_b1365 : b1365 ∈ B1665 := hk1669 b1365 (by repeat (first | assumption | constructor)) (fun e => absurd rfl (ne1585 _ e))
        have hin_b1373 : b1373 ∈ B1665 := hk1669 b1373 (by repeat (first | assumption | constructor)) (fun e => absurd rfl (ne1586 _ e))
        have hin_b1448 : b1448 ∈ B1665 := hk1669 b1448 (by repeat (first | assumption | constructor)) (fun e => absurd rfl (ne1587 _ e))
        have hin_b1459 : b1459 ∈ B1665 := hk1669 b1459 (by repeat (first | assumption | constructor)) (fun e => absurd rfl (ne1588 _ e))
        have hin_b1470 : b1470 ∈ B1665 := hk1669 b1470 (by repeat (first | assumption | constructor)) (fun e => absurd rfl (ne1589 _ e))
        have lim1670 := hl1668.len_le
        have ho1633 := ho1633.mv m1667 (Keep.refl [] _) (by simp)
        have hd1447 := hd1447.mv m1667
        have bx1354 := bx1354.keep (Keep.refl [] _) (by simp)
        have hd1603 := hd1603.mv m1667
        have bx1649 := bx1649.keep (Keep.refl [] _) (by simp)
        have bx1378 := bx1378.keep (Keep.refl [] _) (by simp)
        refine wl_n (o_storeOA (⟨(c.recs[no.toNat]!).no, (c.recs[no.toNat]!).asked, (c.recs[no.toNat]!).state, ((c.recs[no.toNat]!).approved).take (tw ((c.recs[no.toNat]!).approved) guardian) ++ ([guardian]) ++ ((c.recs[no.toNat]!).approved).drop (tw ((c.recs[no.toNat]!).approved) guardian), (c.recs[no.toNat]!).vetoed⟩ : Recovery) (by decide) s_47 rfl rfl ho1633 hb1659 (hB1635 _ hb1659) (by first | omega | (simp; omega)) ⟨_, _, rfl, hl1668, hd1447⟩ s1666 fun w1660 s1661 m1662 k1663 bx1664 => (?_))
        have bx1354 := bx1354.keep k1663 (by simp only [List.mem_singleton]; exact fun e => absurd e.symm (ne1639 _ hb1659))
        have hd1603 := hd1603.mv m1662
        have bx1649 := bx1649.keep k1663 (by simp only [List.mem_singleton]; exact fun e => absurd e.symm (ne1640 _ hb1659))
        have bx1378 := bx1378.keep k1663 (by simp only [List.mem_singleton]; exact fun e => absurd e.symm (ne1641 _ hb1659))
        refine wl_nil (thenQ_n (?_))
        refine cw_seq (?_)
        refine cw_region (by kernel_rfl) (wl_s (o_loadBxA (vs := [vI c.epoch, vI c.threshold, vI c.wait, d1602, v1632]) Try.underlying25 rfl s_25 rfl bx1649 rfl (wl_n (o_store (vs := [vI c.epoch, vI c.threshold, vI c.wait, d1602, v1632]) (.agg #[vI c.epoch, vI c.threshold, vI c.wait, d1602, v1632]) rfl rfl rfl s_25 (fun u hu => by simp only [List.mem_cons, List.not_mem_nil, or_false] at hu; rcases hu with rfl | rfl | rfl | rfl | rfl <;> first | rfl | exact hd1603.oneCell | exact bx1664.oneCell) (by repeat (first | assumption | constructor)) bx1649 (of_decide_eq_true rfl) s1661 fun w1671 s1672 m1673 k1674 bx1675 => (?_)))))
        have bx1664 := bx1664.mv m1673 k1674 (fun b hb => nin1 (ne1640 b hb))
        have hd1603 := hd1603.mv m1673
        have bx1354 := bx1354.keep k1674 (nin1 ne1372)
        have bx1378 := bx1378.keep k1674 (nin1 (Ne.symm ne1381))
        refine wl_n (o_store1 (vI (0 : Int)) rfl rfl rfl s_28 (by repeat (first | assumption | constructor)) bx1378 (of_decide_eq_true rfl) s1672 fun w1676 s1677 m1678 k1679 bx1680 => (?_))
        have bx1664 := bx1664.mv m1678 k1679 (fun b hb => nin1 (ne1641 b hb))
        have hd1603 := hd1603.mv m1678
        have bx1354 := bx1354.keep k1679 (nin1 ne1380)
        have bx1675 := bx1675.keep k1679 (nin1 ne1381)
        refine wl_nil (thenQ_n (?_))
        refine cw_ret (endD_rl (leave_rec [Value.pointer (some ⟨b1365, 0, none⟩), Value.pointer (some ⟨b1373, 0, none⟩)] 19 .returning rfl (fun h => by cases h) rfl enter_59 Try.func59 rfl rfl (of_decide_eq_true rfl) rfl rfl (fun F1681 => ?_)))
        refine cw_seq (?_)
        refine cw_region (by kernel_rfl) (wl_s (o_move (Value.nilIface) rfl (wl_s (o_neqNil' Try.underlying20 rfl (wl_nil (thenQ_n (?_)))))))
        refine cw_cond false rfl rfl (fun h => by cases h) (fun _ => ?_)
        refine cw_skip (end_n rfl (res0 rfl) (Exists.intro _ (And.intro (resv2 rfl (rv_A (vs := [vI c.epoch, vI c.threshold, vI c.wait, d1602, v1632]) rfl Try.underlying25 rfl s_25 rfl bx1675 rfl) (rv_c rfl Try.underlying28 rfl rfl bx1680 rfl)) (both_r (?_)))))
        refine wl_s (o_extract (Value.agg #[vI c.epoch, vI c.threshold, vI c.wait, d1602, v1632]) rfl rfl (wl_s (o_extract (vI (0 : Int)) rfl rfl (wl_n (o_store (vs := [vI c.epoch, vI c.threshold, vI c.wait, d1602, v1632]) (.agg #[vI c.epoch, vI c.threshold, vI c.wait, d1602, v1632]) rfl rfl rfl s_25 (fun u hu => by simp only [List.mem_cons, List.not_mem_nil, or_false] at hu; rcases hu with rfl | rfl | rfl | rfl | rfl <;> first | rfl | exact hd1603.oneCell | exact bx1664.oneCell) (by repeat (first | assumption | constructor)) bx1354 (of_decide_eq_true rfl) s1677 fun w1682 s1683 m1684 k1685 bx1686 => (?_))))))
        have hd1603 := hd1603.mv m1684
        have bx1664 := bx1664.mv m1684 k1685 (fun b hb => nin1 (ne1639 b hb))
        refine wl_s (o_assign (vI (0 : Int)) rfl (wl_nil (thenQ_n (?_))))
        refine cw_ret (end_r rfl (resv2 rfl (rv_A (vs := [vI c.epoch, vI c.threshold, vI c.wait, d1602, v1632]) rfl Try.underlying25 rfl s_25 rfl bx1686 rfl) (rv_t rfl rfl)) (?_))
        have e1687 : ((gAct c no (fApprove c guardian)).1) = (⟨c.epoch, c.threshold, c.wait, c.guardians, c.recs.set no.toNat (⟨(c.recs[no.toNat]!).no, (c.recs[no.toNat]!).asked, (c.recs[no.toNat]!).state, ((c.recs[no.toNat]!).approved).take (tw ((c.recs[no.toNat]!).approved) guardian) ++ ([guardian]) ++ ((c.recs[no.toNat]!).approved).drop (tw ((c.recs[no.toNat]!).approved) guardian), (c.recs[no.toNat]!).vetoed⟩ : Recovery)⟩ : Circle) := by first | exact congrArg (fun p => p.1) (show gAct c no (fApprove c guardian) = _ from app_no hok (by omega)) | exact congrArg (fun p => p.1) (show gAct c no (fApprove c guardian) = _ from app_not hok (by omega) (by omega) (by assumption) (by assumption)) | exact congrArg (fun p => p.1) (show gAct c no (fApprove c guardian) = _ from app_had hok (by omega) (by omega) (by assumption) (by assumption) (by assumption)) | exact congrArg (fun p => p.1) (show gAct c no (fApprove c guardian) = _ from app_new hok (by omega) (by omega) (by assumption) (by assumption) (by assumption))
        have e1688 : ((gAct c no (fApprove c guardian)).2) = (0 : Int) := by first | exact congrArg (fun p => p.2) (show gAct c no (fApprove c guardian) = _ from app_no hok (by omega)) | exact congrArg (fun p => p.2) (show gAct c no (fApprove c guardian) = _ from app_not hok (by omega) (by omega) (by assumption) (by assumption)) | exact congrArg (fun p => p.2) (show gAct c no (fApprove c guardian) = _ from app_had hok (by omega) (by omega) (by assumption) (by assumption) (by assumption)) | exact congrArg (fun p => p.2) (show gAct c no (fApprove c guardian) = _ from app_new hok (by omega) (by omega) (by assumption) (by assumption) (by assumption))
        exact ⟨_, rfl, s1683.keep, by rw [e1687, e1688]; exact ⟨[vI c.epoch, vI c.threshold, vI c.wait, d1602, v1632], rfl, ⟨_, _, rfl, hd1603.out, (bx1664.pub s1683)⟩⟩⟩
       ·have hp1689 : bn1551 = false := by first | simpa using hc1553 | (have e := hc1553; simp at e; omega)
        refine cw_skip (thenQ_n (?_))
        refine cw_seq (?_)
        refine cw_region (by kernel_rfl) (wl_s (o_litO (E := Enc.int) (xs := []) Try.underlying22 s_3 z_3 (by decide) [] [] [] rfl rfl rfl (Parts.nil _ _ _) (of_decide_eq_true rfl) s1544 fun v1694 b1696 w1690 e1697 hb1698 s1691 m1692 k1693 hl1695 => (?_)))
        have ne1699 : ∀ b, v1694.ownBlock = some b → b ≠ b1349 := fun b hb => by have := bx1354.lt; rw [hb1698] at hb; cases hb; omega
        have ne1700 : ∀ b, v1694.ownBlock = some b → b ≠ b1365 := fun b hb => by have := bx1370.lt; rw [hb1698] at hb; cases hb; omega
        have ne1701 : ∀ b, v1694.ownBlock = some b → b ≠ b1373 := fun b hb => by have := bx1378.lt; rw [hb1698] at hb; cases hb; omega
        have ne1702 : ∀ b, v1694.ownBlock = some b → b ≠ b1448 := fun b hb => by have := bx1453.lt; rw [hb1698] at hb; cases hb; omega
        have ne1703 : ∀ b, v1694.ownBlock = some b → b ≠ b1459 := fun b hb => by have := bx1464.lt; rw [hb1698] at hb; cases hb; omega
        have ne1704 : ∀ b, v1694.ownBlock = some b → b ≠ b1470 := fun b hb => by have := bx1496.lt; rw [hb1698] at hb; cases hb; omega
        have hB1705 : ∀ b, v1694.ownBlock = some b → b ∈ (b1696 :: (b1470 :: (b1459 :: (b1448 :: (b1373 :: (b1365 :: (b1349 :: []))))))) := fun b hb => by rw [hb1698] at hb; cases hb; simp
        clear e1697 hb1698
        have hd1445 := hd1445.mv m1692
        have hp1364 := hp1364.mv m1692
        have hd1447 := hd1447.mv m1692
        have bx1354 := bx1354.keep k1693 (by simp)
        have bx1370 := bx1370.keep k1693 (by simp)
        have bx1378 := bx1378.keep k1693 (by simp)
        have bx1453 := bx1453.keep k1693 (by simp)
        have bx1464 := bx1464.keep k1693 (by simp)
        have bx1496 := bx1496.keep k1693 (by simp)
        refine wl_s (o_move (d1444) rfl (wl_s (o_append (E := Enc.int) (l := []) (m := (c.recs[no.toNat]!).approved) Try.underlying22 i_3 rfl (by decide) rfl rfl hl1695 hd1445 (fun _ hb => .inl hb) hB1705 (by have := inc_len (recOK_parts (rec_ok hok (k := no.toNat) (by omega))).2.2; simp only [List.length_nil]; omega) (by have := inc_len (recOK_parts (rec_ok hok (k := no.toNat) (by omega))).2.2; simp only [List.length_nil, maxLen]; omega) s1691 fun v1710 w1706 B1712 hB1713 at1714 sub1715 s1707 m1708 k1709 ho1711 => (?_))))
        rw [List.nil_append] at ho1711
        have ne1716 : ∀ b, v1710.ownBlock = some b → b ≠ b1349 := fun b hb => by rcases at1714 with e1 | e1 <;> rw [e1] at hb <;> first | (simp [Value.ownBlock] at hb; done) | (cases hb; have := bx1354.lt; omega) | (exact ne1699 b hb)
        have ne1717 : ∀ b, v1710.ownBlock = some b → b ≠ b1365 := fun b hb => by rcases at1714 with e1 | e1 <;> rw [e1] at hb <;> first | (simp [Value.ownBlock] at hb; done) | (cases hb; have := bx1370.lt; omega) | (exact ne1700 b hb)
        have ne1718 : ∀ b, v1710.ownBlock = some b → b ≠ b1373 := fun b hb => by rcases at1714 with e1 | e1 <;> rw [e1] at hb <;> first | (simp [Value.ownBlock] at hb; done) | (cases hb; have := bx1378.lt; omega) | (exact ne1701 b hb)
        have ne1719 : ∀ b, v1710.ownBlock = some b → b ≠ b1448 := fun b hb => by rcases at1714 with e1 | e1 <;> rw [e1] at hb <;> first | (simp [Value.ownBlock] at hb; done) | (cases hb; have := bx1453.lt; omega) | (exact ne1702 b hb)
        have ne1720 : ∀ b, v1710.ownBlock = some b → b ≠ b1459 := fun b hb => by rcases at1714 with e1 | e1 <;> rw [e1] at hb <;> first | (simp [Value.ownBlock] at hb; done) | (cases hb; have := bx1464.lt; omega) | (exact ne1703 b hb)
        have ne1721 : ∀ b, v1710.ownBlock = some b → b ≠ b1470 := fun b hb => by rcases at1714 with e1 | e1 <;> rw [e1] at hb <;> first | (simp [Value.ownBlock] at hb; done) | (cases hb; have := bx1496.lt; omega) | (exact ne1704 b hb)
        have hin_b1349 : b1349 ∈ B1712 := sub1715 b1349 (by repeat (first | assumption | constructor))
        have hin_b1365 : b1365 ∈ B1712 := sub1715 b1365 (by repeat (first | assumption | constructor))
        have hin_b1373 : b1373 ∈ B1712 := sub1715 b1373 (by repeat (first | assumption | constructor))
        have hin_b1448 : b1448 ∈ B1712 := sub1715 b1448 (by repeat (first | assumption | constructor))
        have hin_b1459 : b1459 ∈ B1712 := sub1715 b1459 (by repeat (first | assumption | constructor))
        have hin_b1470 : b1470 ∈ B1712 := sub1715 b1470 (by repeat (first | assumption | constructor))
        have hp1364 := hp1364.mv m1708
        have hd1447 := hd1447.mv m1708
        have bx1354 := bx1354.keep k1709 (by simp only [Option.mem_toList]; first | (simp [Value.ownBlock]; done) | exact fun e => absurd rfl (ne1699 _ e))
        have bx1370 := bx1370.keep k1709 (by simp only [Option.mem_toList]; first | (simp [Value.ownBlock]; done) | exact fun e => absurd rfl (ne1700 _ e))
        have bx1378 := bx1378.keep k1709 (by simp only [Option.mem_toList]; first | (simp [Value.ownBlock]; done) | exact fun e => absurd rfl (ne1701 _ e))
        have bx1453 := bx1453.keep k1709 (by simp only [Option.mem_toList]; first | (simp [Value.ownBlock]; done) | exact fun e => absurd rfl (ne1702 _ e))
        have bx1464 := bx1464.keep k1709 (by simp only [Option.mem_toList]; first | (simp [Value.ownBlock]; done) | exact fun e => absurd rfl (ne1703 _ e))
        have bx1496 := bx1496.keep k1709 (by simp only [Option.mem_toList]; first | (simp [Value.ownBlock]; done) | exact fun e => absurd rfl (ne1704 _ e))
        refine wl_s (o_assign (v1710) rfl (wl_nil (thenQ_n (?_))))
        refine cw_ret (end_r rfl (res1 rfl rfl rfl) (Exists.intro _ (And.intro rfl (?_))))
        refine wl_s (o_move (vI ((tw ((c.recs[no.toNat]!).approved) guardian : Nat) : Int)) rfl (wl_s (o_move (vI guardian) rfl (wl_s (o_litO (E := Enc.int) (xs := [.tmp 26]) Try.underlying22 s_3 z_3 (by decide) [vI guardian] [[vI guardian]] [guardian] rfl rfl rfl (Parts.cons rfl rfl (Parts.nil _ _ _)) (of_decide_eq_true rfl) s1707 fun v1726 b1728 w1722 e1729 hb1730 s1723 m1724 k1725 hl1727 => (?_))))))
        have ne1731 : ∀ b, v1726.ownBlock = some b → b ≠ b1349 := fun b hb => by have := bx1354.lt; rw [hb1730] at hb; cases hb; omega
        have ne1732 : ∀ b, v1726.ownBlock = some b → b ≠ b1365 := fun b hb => by have := bx1370.lt; rw [hb1730] at hb; cases hb; omega
        have ne1733 : ∀ b, v1726.ownBlock = some b → b ≠ b1373 := fun b hb => by have := bx1378.lt; rw [hb1730] at hb; cases hb; omega
        have ne1734 : ∀ b, v1726.ownBlock = some b → b ≠ b1448 := fun b hb => by have := bx1453.lt; rw [hb1730] at hb; cases hb; omega
        have ne1735 : ∀ b, v1726.ownBlock = some b → b ≠ b1459 := fun b hb => by have := bx1464.lt; rw [hb1730] at hb; cases hb; omega
        have ne1736 : ∀ b, v1726.ownBlock = some b → b ≠ b1470 := fun b hb => by have := bx1496.lt; rw [hb1730] at hb; cases hb; omega
        have ne1737 : ∀ b, v1710.ownBlock = some b → v1726.ownBlock ≠ some b := fun b hb => by have := (ho1711.lt b hb).2; rw [hb1730]; intro e; cases e; omega
        have ne1737' : ∀ b, v1726.ownBlock = some b → v1710.ownBlock ≠ some b := fun b hb e => ne1737 b e hb
        have hB1738 : ∀ b, v1726.ownBlock = some b → b ∈ (b1728 :: B1712) := fun b hb => by rw [hb1730] at hb; cases hb; simp
        clear e1729 hb1730
        have hB1713 : ∀ b, v1710.ownBlock = some b → b ∈ (b1728 :: B1712) := fun b hb => List.mem_cons_of_mem _ (hB1713 b hb)
        have ho1711 := ho1711.mv m1724 k1725 (by simp)
        have hp1364 := hp1364.mv m1724
        have hd1447 := hd1447.mv m1724
        have bx1354 := bx1354.keep k1725 (by simp)
        have bx1370 := bx1370.keep k1725 (by simp)
        have bx1378 := bx1378.keep k1725 (by simp)
        have bx1453 := bx1453.keep k1725 (by simp)
        have bx1464 := bx1464.keep k1725 (by simp)
        have bx1496 := bx1496.keep k1725 (by simp)
        refine wl_s (o_callX [v1710, vI ((tw ((c.recs[no.toNat]!).approved) guardian : Nat) : Int), v1726] enter_62 rfl (Calls.mono (c_insertI v1710 v1726 ((c.recs[no.toNat]!).approved) ([guardian]) (tw ((c.recs[no.toNat]!).approved) guardian) s1723 ho1711 hl1727 hB1713 hB1738 ne1737 (by simp) (tw_le _ _) (by have := inc_len (recOK_parts (rec_ok hok (k := no.toNat) (by omega))).2.2; simp only [List.length_cons, List.length_nil]; omega) (by have := inc_len (recOK_parts (rec_ok hok (k := no.toNat) (by omega))).2.2; simp only [List.length_cons, List.length_nil, maxLen]; omega)) (fun e_ w1748 hR_ => ?_)))
        obtain ⟨v1739, B1740, rfl, hB1741, at1742, sub1743, s1744, m1745, k1746, ho1747⟩ := hR_
        refine both_r ?_
        have ne1749 : ∀ b, v1726.ownBlock = some b → v1739.ownBlock ≠ some b := fun b hb e => (at1742 b e).elim (fun e1 => ((fun b hb e => ne1737 b e hb) b hb e1)) (fun e1 => by have := (hl1727.lt b hb).2; omega)
        have ne1750 : ∀ b, v1739.ownBlock = some b → b ≠ b1349 := fun b hb => (at1742 b hb).elim (fun e1 => (ne1716 b e1)) (fun e1 => by have := bx1354.lt; omega)
        have ne1751 : ∀ b, v1739.ownBlock = some b → b ≠ b1365 := fun b hb => (at1742 b hb).elim (fun e1 => (ne1717 b e1)) (fun e1 => by have := bx1370.lt; omega)
        have ne1752 : ∀ b, v1739.ownBlock = some b → b ≠ b1373 := fun b hb => (at1742 b hb).elim (fun e1 => (ne1718 b e1)) (fun e1 => by have := bx1378.lt; omega)
        have ne1753 : ∀ b, v1739.ownBlock = some b → b ≠ b1448 := fun b hb => (at1742 b hb).elim (fun e1 => (ne1719 b e1)) (fun e1 => by have := bx1453.lt; omega)
        have ne1754 : ∀ b, v1739.ownBlock = some b → b ≠ b1459 := fun b hb => (at1742 b hb).elim (fun e1 => (ne1720 b e1)) (fun e1 => by have := bx1464.lt; omega)
        have ne1755 : ∀ b, v1739.ownBlock = some b → b ≠ b1470 := fun b hb => (at1742 b hb).elim (fun e1 => (ne1721 b e1)) (fun e1 => by have := bx1496.lt; omega)
        have hB1738 : ∀ b, v1726.ownBlock = some b → b ∈ B1740 := fun b hb => sub1743 b (hB1738 b hb)
        have hin_b1349 : b1349 ∈ B1740 := sub1743 b1349 (by repeat (first | assumption | constructor))
        have hin_b1365 : b1365 ∈ B1740 := sub1743 b1365 (by repeat (first | assumption | constructor))
        have hin_b1373 : b1373 ∈ B1740 := sub1743 b1373 (by repeat (first | assumption | constructor))
        have hin_b1448 : b1448 ∈ B1740 := sub1743 b1448 (by repeat (first | assumption | constructor))
        have hin_b1459 : b1459 ∈ B1740 := sub1743 b1459 (by repeat (first | assumption | constructor))
        have hin_b1470 : b1470 ∈ B1740 := sub1743 b1470 (by repeat (first | assumption | constructor))
        have hp1364 := hp1364.mv m1745
        have hd1447 := hd1447.mv m1745
        have bx1354 := bx1354.keep k1746 (by simp only [Option.mem_toList]; exact fun e => absurd rfl (ne1716 _ e))
        have bx1370 := bx1370.keep k1746 (by simp only [Option.mem_toList]; exact fun e => absurd rfl (ne1717 _ e))
        have bx1378 := bx1378.keep k1746 (by simp only [Option.mem_toList]; exact fun e => absurd rfl (ne1718 _ e))
        have bx1453 := bx1453.keep k1746 (by simp only [Option.mem_toList]; exact fun e => absurd rfl (ne1719 _ e))
        have bx1464 := bx1464.keep k1746 (by simp only [Option.mem_toList]; exact fun e => absurd rfl (ne1720 _ e))
        have bx1496 := bx1496.keep k1746 (by simp only [Option.mem_toList]; exact fun e => absurd rfl (ne1721 _ e))
        refine wl_s (o_nilCheck ⟨b1448, 0, none⟩ rfl (wl_s (o_fieldL 0 f_74_0 rfl (wl_s (o_fieldL 3 f_47_3 rfl (wl_n (o_store1 (v1739) rfl rfl ho1747.oneCell s_22 (by repeat (first | assumption | constructor)) bx1453 (of_decide_eq_true rfl) s1744 fun w1756 s1757 m1758 k1759 bx1760 => (?_))))))))
        have ho1747 := ho1747.mv m1758 k1759 (fun b hb => nin1 (ne1753 b hb))
        have hp1364 := hp1364.mv m1758
        have hd1447 := hd1447.mv m1758
        have bx1354 := bx1354.keep k1759 (nin1 ne1455)
        have bx1370 := bx1370.keep k1759 (nin1 ne1456)
        have bx1378 := bx1378.keep k1759 (nin1 ne1457)
        have bx1464 := bx1464.keep k1759 (nin1 (Ne.symm ne1469))
        have bx1496 := bx1496.keep k1759 (nin1 (Ne.symm ne1480))
        refine wl_nil (end_n rfl (res0 rfl) (Exists.intro _ (And.intro rfl (?_))))
        refine wl_nil (end_n rfl (res0 rfl) (both_r (?_)))
        refine wl_nil (end_n rfl (res0 rfl) (both_r (?_)))
        refine wl_nil (end_n rfl (res0 rfl) (both_r (?_)))
        refine wl_nil (thenQ_n (?_))
        refine cw_seq (?_)
        refine cw_region (by kernel_rfl) (wl_s (o_loadS Try.underlying25 rfl s_25 rfl hp1364 fun cs1761 hs1762 => (?_)))
        obtain ⟨d1768, d1770, rfl, hd1769, hd1771⟩ := hs1762
        have := hd1769.len_le
        have := hd1771.len_le
        refine wl_n (o_store (vs := [vI c.epoch, vI c.threshold, vI c.wait, d1768, d1770]) (.agg #[vI c.epoch, vI c.threshold, vI c.wait, d1768, d1770]) rfl rfl rfl s_25 (fun u hu => by simp only [List.mem_cons, List.not_mem_nil, or_false] at hu; rcases hu with rfl | rfl | rfl | rfl | rfl <;> first | rfl | exact hd1769.oneCell | exact hd1771.oneCell) (by repeat (first | assumption | constructor)) bx1370 (of_decide_eq_true rfl) s1757 fun w1763 s1764 m1765 k1766 bx1767 => (?_))
        have hp1364 := hp1364.mv m1765
        have hd1447 := hd1447.mv m1765
        have hd1769 := hd1769.mv m1765
        have bx1354 := bx1354.keep k1766 (nin1 ne1372)
        have bx1378 := bx1378.keep k1766 (nin1 (Ne.symm ne1381))
        have ho1747 := ho1747.mv m1765 k1766 (fun b hb => nin1 (ne1751 b hb))
        have bx1760 := bx1760.keep k1766 (nin1 (Ne.symm ne1456))
        have bx1464 := bx1464.keep k1766 (nin1 (Ne.symm ne1467))
        have bx1496 := bx1496.keep k1766 (nin1 (Ne.symm ne1478))
        refine wl_nil (thenQ_n (?_))
        refine cw_seq (?_)
        refine cw_region (by kernel_rfl) (wl_s (o_fieldR 4 f_25_4 (c.recs) rfl hp1364 (fun _ _ _ h => Enc_circle_f4 h) fun a1772 hp1773 => (wl_s (o_loadL Try.underlying23 rfl rfl hp1773 fun v1774 hl1775 => (?_)))))
        have := hl1775.len_le
        refine wl_s (o_call [v1774] _ enter_31 rfl (calls_of_cw 8 Try.func31 rfl rfl (of_decide_eq_true rfl) (fun F1776 => ?_)) (fun _ _ h => h))
        refine cw_seq (?_)
        refine cw_region (by kernel_rfl) (wl_s (o_assign (Value.slice none 0 0) rfl (wl_nil (thenQ_n (?_)))))
        refine cw_seq (?_)
        refine cw_seq (?_)
        refine cw_region (by kernel_rfl) (wl_s (o_move (v1774) rfl (wl_s (o_eqlNilF Try.underlying23 rfl rfl hl1775 (by omega) (wl_nil (thenQ_n (?_)))))))
        refine cw_cond false rfl rfl (fun h => by cases h) (fun _ => ?_)
        refine cw_skip (thenQ_n (?_))
        refine cw_seq (?_)
        refine cw_region (by kernel_rfl) (wl_s (o_litO (E := Enc.recovery) (xs := []) Try.underlying23 s_47 z_47 (by decide) [] [] [] rfl rfl rfl (Parts.nil _ _ _) (of_decide_eq_true rfl) s1764 fun v1781 b1783 w1777 e1784 hb1785 s1778 m1779 k1780 hl1782 => (?_)))
        have ne1786 : ∀ b, v1781.ownBlock = some b → b ≠ b1349 := fun b hb => by have := bx1354.lt; rw [hb1785] at hb; cases hb; omega
        have ne1787 : ∀ b, v1781.ownBlock = some b → b ≠ b1365 := fun b hb => by have := bx1767.lt; rw [hb1785] at hb; cases hb; omega
        have ne1788 : ∀ b, v1781.ownBlock = some b → b ≠ b1373 := fun b hb => by have := bx1378.lt; rw [hb1785] at hb; cases hb; omega
        have ne1789 : ∀ b, v1781.ownBlock = some b → b ≠ b1448 := fun b hb => by have := bx1760.lt; rw [hb1785] at hb; cases hb; omega
        have ne1790 : ∀ b, v1781.ownBlock = some b → b ≠ b1459 := fun b hb => by have := bx1464.lt; rw [hb1785] at hb; cases hb; omega
        have ne1791 : ∀ b, v1781.ownBlock = some b → b ≠ b1470 := fun b hb => by have := bx1496.lt; rw [hb1785] at hb; cases hb; omega
        have ne1792 : ∀ b, v1739.ownBlock = some b → v1781.ownBlock ≠ some b := fun b hb => by have := (ho1747.lt b hb).2; rw [hb1785]; intro e; cases e; omega
        have ne1792' : ∀ b, v1781.ownBlock = some b → v1739.ownBlock ≠ some b := fun b hb e => ne1792 b e hb
        have hB1793 : ∀ b, v1781.ownBlock = some b → b ∈ (b1783 :: B1740) := fun b hb => by rw [hb1785] at hb; cases hb; simp
        clear e1784 hb1785
        have hB1741 : ∀ b, v1739.ownBlock = some b → b ∈ (b1783 :: B1740) := fun b hb => List.mem_cons_of_mem _ (hB1741 b hb)
        have hl1775 := hl1775.mv m1779
        have hd1447 := hd1447.mv m1779
        have hd1769 := hd1769.mv m1779
        have bx1354 := bx1354.keep k1780 (by simp)
        have bx1767 := bx1767.keep k1780 (by simp)
        have bx1378 := bx1378.keep k1780 (by simp)
        have ho1747 := ho1747.mv m1779 k1780 (by simp)
        have bx1760 := bx1760.keep k1780 (by simp)
        have bx1464 := bx1464.keep k1780 (by simp)
        have bx1496 := bx1496.keep k1780 (by simp)
        refine wl_s (o_move (v1774) rfl (wl_s (o_append (E := Enc.recovery) (l := []) (m := c.recs) Try.underlying23 i_47 rfl (by decide) rfl rfl hl1782 hl1775 (fun _ hb => .inl hb) hB1793 (by simp; omega) (by simp [maxLen]; omega) s1778 fun v1798 w1794 B1800 hB1801 at1802 sub1803 s1795 m1796 k1797 ho1799 => (?_))))
        rw [List.nil_append] at ho1799
        have ne1804 : ∀ b, v1739.ownBlock = some b → v1798.ownBlock ≠ some b := fun b hb e => by rcases at1802 with e1 | e1 <;> rw [e1] at e <;> first | (simp [Value.ownBlock] at e; done) | (cases e; have := (ho1747.lt _ hb).2; omega) | (exact absurd e (ne1792 b hb))
        have ne1805 : ∀ b, v1798.ownBlock = some b → b ≠ b1349 := fun b hb => by rcases at1802 with e1 | e1 <;> rw [e1] at hb <;> first | (simp [Value.ownBlock] at hb; done) | (cases hb; have := bx1354.lt; omega) | (exact ne1786 b hb)
        have ne1806 : ∀ b, v1798.ownBlock = some b → b ≠ b1365 := fun b hb => by rcases at1802 with e1 | e1 <;> rw [e1] at hb <;> first | (simp [Value.ownBlock] at hb; done) | (cases hb; have := bx1767.lt; omega) | (exact ne1787 b hb)
        have ne1807 : ∀ b, v1798.ownBlock = some b → b ≠ b1373 := fun b hb => by rcases at1802 with e1 | e1 <;> rw [e1] at hb <;> first | (simp [Value.ownBlock] at hb; done) | (cases hb; have := bx1378.lt; omega) | (exact ne1788 b hb)
        have ne1808 : ∀ b, v1798.ownBlock = some b → b ≠ b1448 := fun b hb => by rcases at1802 with e1 | e1 <;> rw [e1] at hb <;> first | (simp [Value.ownBlock] at hb; done) | (cases hb; have := bx1760.lt; omega) | (exact ne1789 b hb)
        have ne1809 : ∀ b, v1798.ownBlock = some b → b ≠ b1459 := fun b hb => by rcases at1802 with e1 | e1 <;> rw [e1] at hb <;> first | (simp [Value.ownBlock] at hb; done) | (cases hb; have := bx1464.lt; omega) | (exact ne1790 b hb)
        have ne1810 : ∀ b, v1798.ownBlock = some b → b ≠ b1470 := fun b hb => by rcases at1802 with e1 | e1 <;> rw [e1] at hb <;> first | (simp [Value.ownBlock] at hb; done) | (cases hb; have := bx1496.lt; omega) | (exact ne1791 b hb)
        have hB1741 : ∀ b, v1739.ownBlock = some b → b ∈ B1800 := fun b hb => sub1803 b (hB1741 b hb)
        have hin_b1349 : b1349 ∈ B1800 := sub1803 b1349 (by repeat (first | assumption | constructor))
        have hin_b1365 : b1365 ∈ B1800 := sub1803 b1365 (by repeat (first | assumption | constructor))
        have hin_b1373 : b1373 ∈ B1800 := sub1803 b1373 (by repeat (first | assumption | constructor))
        have hin_b1448 : b1448 ∈ B1800 := sub1803 b1448 (by repeat (first | assumption | constructor))
        have hin_b1459 : b1459 ∈ B1800 := sub1803 b1459 (by repeat (first | assumption | constructor))
        have hin_b1470 : b1470 ∈ B1800 := sub1803 b1470 (by repeat (first | assumption | constructor))
        have hd1447 := hd1447.mv m1796
        have hd1769 := hd1769.mv m1796
        have bx1354 := bx1354.keep k1797 (by simp only [Option.mem_toList]; first | (simp [Value.ownBlock]; done) | exact fun e => absurd rfl (ne1786 _ e))
        have bx1767 := bx1767.keep k1797 (by simp only [Option.mem_toList]; first | (simp [Value.ownBlock]; done) | exact fun e => absurd rfl (ne1787 _ e))
        have bx1378 := bx1378.keep k1797 (by simp only [Option.mem_toList]; first | (simp [Value.ownBlock]; done) | exact fun e => absurd rfl (ne1788 _ e))
        have ho1747 := ho1747.mv m1796 k1797 (fun b hb => by simp only [Option.mem_toList]; first | (simp [Value.ownBlock]; done) | exact ne1792 b hb)
        have bx1760 := bx1760.keep k1797 (by simp only [Option.mem_toList]; first | (simp [Value.ownBlock]; done) | exact fun e => absurd rfl (ne1789 _ e))
        refine wl_s (o_assign (v1798) rfl (wl_nil (thenQ_n (?_))))
        refine cw_ret (end_r rfl (res1 rfl rfl rfl) (Exists.intro _ (And.intro rfl (?_))))
        refine wl_s (o_fieldL 4 f_25_4 rfl (wl_n (o_store1 (v1798) rfl rfl ho1799.oneCell s_23 (by repeat (first | assumption | constructor)) bx1767 (of_decide_eq_true rfl) s1795 fun w1811 s1812 m1813 k1814 bx1815 => (?_))))
        have hd1447 := hd1447.mv m1813
        have hd1769 := hd1769.mv m1813
        have ho1799 := ho1799.mv m1813 k1814 (fun b hb => nin1 (ne1806 b hb))
        have bx1354 := bx1354.keep k1814 (nin1 ne1372)
        have bx1378 := bx1378.keep k1814 (nin1 (Ne.symm ne1381))
        have ho1747 := ho1747.mv m1813 k1814 (fun b hb => nin1 (ne1751 b hb))
        have bx1760 := bx1760.keep k1814 (nin1 (Ne.symm ne1456))
        refine wl_nil (thenQ_n (?_))
        refine cw_seq (?_)
        refine cw_draw' 7 _ _ [isV (Value.pointer (some ⟨b1365, 4, none⟩)), isV v1798, isV (vI no), isV (Value.pointer (some ⟨b1448, 0, none⟩)), isV (Value.pointer (some ⟨b1448, 0, none⟩)), isV (Value.pointer (some ⟨b1448, 0, none⟩)), isV (Value.agg #[vI ((c.recs[no.toNat]!).no), vI ((c.recs[no.toNat]!).asked), vI ((c.recs[no.toNat]!).state), v1739, d1446])] (by kernel_rfl) (by kernel_rfl) (by kernel_rfl) (by kernel_rfl) rfl rfl ⟨kI, kI, kI, kI, kI, kI, kI, trivial⟩ ⟨?_, ?_, ?_, ?_, ?_, ?_, ?_, trivial⟩ ?_
        ·intro F1 w1 k1 hf hd
         obtain ⟨F2, rfl⟩ := lit_of (F := F1) [(6, Value.pointer (some ⟨b1365, 0, none⟩))] ⟨hf 6 (by kernel_rfl), trivial⟩
         exact sp_plain rfl ((o_fieldL 4 f_25_4 rfl (⟨(Keep.refl _ _), rfl⟩)))
        ·intro F1 w1 k1 hf hd
         have k0 := (Keep.drew [] w1811).trans k1
         have bx1815 := bx1815.keep k0 (by simp)
         obtain ⟨F2, rfl⟩ := lit_of (F := F1) [(42, Value.pointer (some ⟨b1365, 4, none⟩))] ⟨hd 0 42 (by kernel_rfl), trivial⟩
         exact sp_plain rfl ((o_loadBx Try.underlying23 rfl (v1798) rfl bx1815 rfl (⟨(Keep.refl _ _), rfl⟩)))
        ·intro F1 w1 k1 hf hd
         obtain ⟨F2, rfl⟩ := lit_of (F := F1) [(1, vI no)] ⟨hf 1 (by kernel_rfl), trivial⟩
         exact sp_plain rfl ((o_move (vI no) rfl (⟨(Keep.refl _ _), rfl⟩)))
        ·intro F1 w1 k1 hf hd
         obtain ⟨F2, rfl⟩ := lit_of (F := F1) [(9, Value.pointer (some ⟨b1448, 0, none⟩))] ⟨hf 9 (by kernel_rfl), trivial⟩
         exact sp_plain rfl ((o_move (Value.pointer (some ⟨b1448, 0, none⟩)) rfl (⟨(Keep.refl _ _), rfl⟩)))
        ·intro F1 w1 k1 hf hd
         obtain ⟨F2, rfl⟩ := lit_of (F := F1) [(45, Value.pointer (some ⟨b1448, 0, none⟩))] ⟨hd 3 45 (by kernel_rfl), trivial⟩
         exact sp_plain rfl ((o_nilCheck ⟨b1448, 0, none⟩ rfl (⟨(Keep.refl _ _), rfl⟩)))
        ·intro F1 w1 k1 hf hd
         obtain ⟨F2, rfl⟩ := lit_of (F := F1) [(46, Value.pointer (some ⟨b1448, 0, none⟩))] ⟨hd 4 46 (by kernel_rfl), trivial⟩
         exact sp_plain rfl ((o_fieldL 0 f_74_0 rfl (⟨(Keep.refl _ _), rfl⟩)))
        ·intro F1 w1 k1 hf hd
         have k0 := (Keep.drew [] w1811).trans k1
         have bx1760 := bx1760.keep k0 (by simp)
         obtain ⟨F2, rfl⟩ := lit_of (F := F1) [(47, Value.pointer (some ⟨b1448, 0, none⟩))] ⟨hd 5 47 (by kernel_rfl), trivial⟩
         exact sp_plain rfl ((o_loadBxA (vs := [vI ((c.recs[no.toNat]!).no), vI ((c.recs[no.toNat]!).asked), vI ((c.recs[no.toNat]!).state), v1739, d1446]) Try.underlying47 rfl s_47 rfl bx1760 rfl (⟨(Keep.refl _ _), rfl⟩)))
        intro F1817 w1818 k1816 hT1819 hF1820
        have s1821 := s1812.call k1816
        have m1822 : Mv B1800 w1811 B1800 w1818 := Mv.of_keep k1816
        have hd1447 := hd1447.mv m1822
        have hd1769 := hd1769.mv m1822
        have ho1799 := ho1799.mv m1822 k1816 (by simp)
        have bx1354 := bx1354.keep k1816 (by simp)
        have bx1815 := bx1815.keep k1816 (by simp)
        have bx1378 := bx1378.keep k1816 (by simp)
        have ho1747 := ho1747.mv m1822 k1816 (by simp)
        obtain ⟨F2, rfl⟩ := lit_of (F := F1817) [(6, Value.pointer (some ⟨b1365, 0, none⟩)), (7, Value.pointer (some ⟨b1373, 0, none⟩)), (51, .tuple #[Value.func (.func 59) #[] #[Value.pointer (some ⟨b1365, 0, none⟩), Value.pointer (some ⟨b1373, 0, none⟩)]]), (43, v1798), (44, vI no), (48, Value.agg #[vI ((c.recs[no.toNat]!).no), vI ((c.recs[no.toNat]!).asked), vI ((c.recs[no.toNat]!).state), v1739, d1446])] ⟨hF1820 6 (by kernel_rfl), hF1820 7 (by kernel_rfl), hF1820 51 (by kernel_rfl), hT1819 1 43 (by kernel_rfl) (by decide), hT1819 2 44 (by kernel_rfl) (by decide), hT1819 6 48 (by kernel_rfl) (by decide), trivial⟩
        clear hT1819 hF1820
        refine wl_s (o_indexO Try.underlying23 s_47 .i64 no no.toNat rfl rfl (by omega) ho1799 (by first | omega | (simp; omega)) fun b1824 hb1825 => (?_))
        obtain ⟨B1831, s1832, m1833, hl1834, hk1835⟩ := ho1747.publish s1821
        have hB1801 : ∀ b, v1798.ownBlock = some b → b ∈ B1831 := fun b hb => hk1835 b (hB1801 b hb) ((fun b hb e => ne1804 b e hb) b hb)
        have hin_b1349 : b1349 ∈ B1831 := hk1835 b1349 (by repeat (first | assumption | constructor)) (fun e => absurd rfl (ne1750 _ e))
        have hin_b1365 : b1365 ∈ B1831 := hk1835 b1365 (by repeat (first | assumption | constructor)) (fun e => absurd rfl (ne1751 _ e))
        have hin_b1373 : b1373 ∈ B1831 := hk1835 b1373 (by repeat (first | assumption | constructor)) (fun e => absurd rfl (ne1752 _ e))
        have hin_b1448 : b1448 ∈ B1831 := hk1835 b1448 (by repeat (first | assumption | constructor)) (fun e => absurd rfl (ne1753 _ e))
        have hin_b1459 : b1459 ∈ B1831 := hk1835 b1459 (by repeat (first | assumption | constructor)) (fun e => absurd rfl (ne1754 _ e))
        have hin_b1470 : b1470 ∈ B1831 := hk1835 b1470 (by repeat (first | assumption | constructor)) (fun e => absurd rfl (ne1755 _ e))
        have lim1836 := hl1834.len_le
        have ho1799 := ho1799.mv m1833 (Keep.refl [] _) (by simp)
        have hd1447 := hd1447.mv m1833
        have bx1354 := bx1354.keep (Keep.refl [] _) (by simp)
        have hd1769 := hd1769.mv m1833
        have bx1815 := bx1815.keep (Keep.refl [] _) (by simp)
        have bx1378 := bx1378.keep (Keep.refl [] _) (by simp)
        refine wl_n (o_storeOA (⟨(c.recs[no.toNat]!).no, (c.recs[no.toNat]!).asked, (c.recs[no.toNat]!).state, ((c.recs[no.toNat]!).approved).take (tw ((c.recs[no.toNat]!).approved) guardian) ++ ([guardian]) ++ ((c.recs[no.toNat]!).approved).drop (tw ((c.recs[no.toNat]!).approved) guardian), (c.recs[no.toNat]!).vetoed⟩ : Recovery) (by decide) s_47 rfl rfl ho1799 hb1825 (hB1801 _ hb1825) (by first | omega | (simp; omega)) ⟨_, _, rfl, hl1834, hd1447⟩ s1832 fun w1826 s1827 m1828 k1829 bx1830 => (?_))
        have bx1354 := bx1354.keep k1829 (by simp only [List.mem_singleton]; exact fun e => absurd e.symm (ne1805 _ hb1825))
        have hd1769 := hd1769.mv m1828
        have bx1815 := bx1815.keep k1829 (by simp only [List.mem_singleton]; exact fun e => absurd e.symm (ne1806 _ hb1825))
        have bx1378 := bx1378.keep k1829 (by simp only [List.mem_singleton]; exact fun e => absurd e.symm (ne1807 _ hb1825))
        refine wl_nil (thenQ_n (?_))
        refine cw_seq (?_)
        refine cw_region (by kernel_rfl) (wl_s (o_loadBxA (vs := [vI c.epoch, vI c.threshold, vI c.wait, d1768, v1798]) Try.underlying25 rfl s_25 rfl bx1815 rfl (wl_n (o_store (vs := [vI c.epoch, vI c.threshold, vI c.wait, d1768, v1798]) (.agg #[vI c.epoch, vI c.threshold, vI c.wait, d1768, v1798]) rfl rfl rfl s_25 (fun u hu => by simp only [List.mem_cons, List.not_mem_nil, or_false] at hu; rcases hu with rfl | rfl | rfl | rfl | rfl <;> first | rfl | exact hd1769.oneCell | exact bx1830.oneCell) (by repeat (first | assumption | constructor)) bx1815 (of_decide_eq_true rfl) s1827 fun w1837 s1838 m1839 k1840 bx1841 => (?_)))))
        have bx1830 := bx1830.mv m1839 k1840 (fun b hb => nin1 (ne1806 b hb))
        have hd1769 := hd1769.mv m1839
        have bx1354 := bx1354.keep k1840 (nin1 ne1372)
        have bx1378 := bx1378.keep k1840 (nin1 (Ne.symm ne1381))
        refine wl_n (o_store1 (vI (0 : Int)) rfl rfl rfl s_28 (by repeat (first | assumption | constructor)) bx1378 (of_decide_eq_true rfl) s1838 fun w1842 s1843 m1844 k1845 bx1846 => (?_))
        have bx1830 := bx1830.mv m1844 k1845 (fun b hb => nin1 (ne1807 b hb))
        have hd1769 := hd1769.mv m1844
        have bx1354 := bx1354.keep k1845 (nin1 ne1380)
        have bx1841 := bx1841.keep k1845 (nin1 ne1381)
        refine wl_nil (thenQ_n (?_))
        refine cw_ret (endD_rl (leave_rec [Value.pointer (some ⟨b1365, 0, none⟩), Value.pointer (some ⟨b1373, 0, none⟩)] 19 .returning rfl (fun h => by cases h) rfl enter_59 Try.func59 rfl rfl (of_decide_eq_true rfl) rfl rfl (fun F1847 => ?_)))
        refine cw_seq (?_)
        refine cw_region (by kernel_rfl) (wl_s (o_move (Value.nilIface) rfl (wl_s (o_neqNil' Try.underlying20 rfl (wl_nil (thenQ_n (?_)))))))
        refine cw_cond false rfl rfl (fun h => by cases h) (fun _ => ?_)
        refine cw_skip (end_n rfl (res0 rfl) (Exists.intro _ (And.intro (resv2 rfl (rv_A (vs := [vI c.epoch, vI c.threshold, vI c.wait, d1768, v1798]) rfl Try.underlying25 rfl s_25 rfl bx1841 rfl) (rv_c rfl Try.underlying28 rfl rfl bx1846 rfl)) (both_r (?_)))))
        refine wl_s (o_extract (Value.agg #[vI c.epoch, vI c.threshold, vI c.wait, d1768, v1798]) rfl rfl (wl_s (o_extract (vI (0 : Int)) rfl rfl (wl_n (o_store (vs := [vI c.epoch, vI c.threshold, vI c.wait, d1768, v1798]) (.agg #[vI c.epoch, vI c.threshold, vI c.wait, d1768, v1798]) rfl rfl rfl s_25 (fun u hu => by simp only [List.mem_cons, List.not_mem_nil, or_false] at hu; rcases hu with rfl | rfl | rfl | rfl | rfl <;> first | rfl | exact hd1769.oneCell | exact bx1830.oneCell) (by repeat (first | assumption | constructor)) bx1354 (of_decide_eq_true rfl) s1843 fun w1848 s1849 m1850 k1851 bx1852 => (?_))))))
        have hd1769 := hd1769.mv m1850
        have bx1830 := bx1830.mv m1850 k1851 (fun b hb => nin1 (ne1805 b hb))
        refine wl_s (o_assign (vI (0 : Int)) rfl (wl_nil (thenQ_n (?_))))
        refine cw_ret (end_r rfl (resv2 rfl (rv_A (vs := [vI c.epoch, vI c.threshold, vI c.wait, d1768, v1798]) rfl Try.underlying25 rfl s_25 rfl bx1852 rfl) (rv_t rfl rfl)) (?_))
        have e1853 : ((gAct c no (fApprove c guardian)).1) = (⟨c.epoch, c.threshold, c.wait, c.guardians, c.recs.set no.toNat (⟨(c.recs[no.toNat]!).no, (c.recs[no.toNat]!).asked, (c.recs[no.toNat]!).state, ((c.recs[no.toNat]!).approved).take (tw ((c.recs[no.toNat]!).approved) guardian) ++ ([guardian]) ++ ((c.recs[no.toNat]!).approved).drop (tw ((c.recs[no.toNat]!).approved) guardian), (c.recs[no.toNat]!).vetoed⟩ : Recovery)⟩ : Circle) := by first | exact congrArg (fun p => p.1) (show gAct c no (fApprove c guardian) = _ from app_no hok (by omega)) | exact congrArg (fun p => p.1) (show gAct c no (fApprove c guardian) = _ from app_not hok (by omega) (by omega) (by assumption) (by assumption)) | exact congrArg (fun p => p.1) (show gAct c no (fApprove c guardian) = _ from app_had hok (by omega) (by omega) (by assumption) (by assumption) (by assumption)) | exact congrArg (fun p => p.1) (show gAct c no (fApprove c guardian) = _ from app_new hok (by omega) (by omega) (by assumption) (by assumption) (by assumption))
        have e1854 : ((gAct c no (fApprove c guardian)).2) = (0 : Int) := by first | exact congrArg (fun p => p.2) (show gAct c no (fApprove c guardian) = _ from app_no hok (by omega)) | exact congrArg (fun p => p.2) (show gAct c no (fApprove c guardian) = _ from app_not hok (by omega) (by omega) (by assumption) (by assumption)) | exact congrArg (fun p => p.2) (show gAct c no (fApprove c guardian) = _ from app_had hok (by omega) (by omega) (by assumption) (by assumption) (by assumption)) | exact congrArg (fun p => p.2) (show gAct c no (fApprove c guardian) = _ from app_new hok (by omega) (by omega) (by assumption) (by assumption) (by assumption))
        exact ⟨_, rfl, s1849.keep, by rw [e1853, e1854]; exact ⟨[vI c.epoch, vI c.threshold, vI c.wait, d1768, v1798], rfl, ⟨_, _, rfl, hd1769.out, (bx1830.pub s1849)⟩⟩⟩
      ·have hp1855 : (bsF ((c.recs[no.toNat]!).approved) guardian) = true := by first | simpa using hc1548 | (have e := hc1548; simp at e; omega)
       refine cw_skip (end_n rfl (res0 rfl) (Exists.intro _ (And.intro rfl (?_))))
       refine wl_nil (end_n rfl (res0 rfl) (both_r (?_)))
       refine wl_nil (end_n rfl (res0 rfl) (both_r (?_)))
       refine wl_nil (end_n rfl (res0 rfl) (both_r (?_)))
       refine wl_nil (thenQ_n (?_))
       refine cw_seq (?_)
       refine cw_region (by kernel_rfl) (wl_s (o_loadS Try.underlying25 rfl s_25 rfl hp1364 fun cs1856 hs1857 => (?_)))
       obtain ⟨d1863, d1865, rfl, hd1864, hd1866⟩ := hs1857
       have := hd1864.len_le
       have := hd1866.len_le
       refine wl_n (o_store (vs := [vI c.epoch, vI c.threshold, vI c.wait, d1863, d1865]) (.agg #[vI c.epoch, vI c.threshold, vI c.wait, d1863, d1865]) rfl rfl rfl s_25 (fun u hu => by simp only [List.mem_cons, List.not_mem_nil, or_false] at hu; rcases hu with rfl | rfl | rfl | rfl | rfl <;> first | rfl | exact hd1864.oneCell | exact hd1866.oneCell) (by repeat (first | assumption | constructor)) bx1370 (of_decide_eq_true rfl) s1544 fun w1858 s1859 m1860 k1861 bx1862 => (?_))
       have hp1364 := hp1364.mv m1860
       have hd1445 := hd1445.mv m1860
       have hd1447 := hd1447.mv m1860
       have hd1864 := hd1864.mv m1860
       have bx1354 := bx1354.keep k1861 (nin1 ne1372)
       have bx1378 := bx1378.keep k1861 (nin1 (Ne.symm ne1381))
       have bx1453 := bx1453.keep k1861 (nin1 (Ne.symm ne1456))
       have bx1464 := bx1464.keep k1861 (nin1 (Ne.symm ne1467))
       have bx1496 := bx1496.keep k1861 (nin1 (Ne.symm ne1478))
       refine wl_nil (thenQ_n (?_))
       refine cw_seq (?_)
       refine cw_region (by kernel_rfl) (wl_s (o_fieldR 4 f_25_4 (c.recs) rfl hp1364 (fun _ _ _ h => Enc_circle_f4 h) fun a1867 hp1868 => (wl_s (o_loadL Try.underlying23 rfl rfl hp1868 fun v1869 hl1870 => (?_)))))
       have := hl1870.len_le
       refine wl_s (o_call [v1869] _ enter_31 rfl (calls_of_cw 8 Try.func31 rfl rfl (of_decide_eq_true rfl) (fun F1871 => ?_)) (fun _ _ h => h))
       refine cw_seq (?_)
       refine cw_region (by kernel_rfl) (wl_s (o_assign (Value.slice none 0 0) rfl (wl_nil (thenQ_n (?_)))))
       refine cw_seq (?_)
       refine cw_seq (?_)
       refine cw_region (by kernel_rfl) (wl_s (o_move (v1869) rfl (wl_s (o_eqlNilF Try.underlying23 rfl rfl hl1870 (by omega) (wl_nil (thenQ_n (?_)))))))
       refine cw_cond false rfl rfl (fun h => by cases h) (fun _ => ?_)
       refine cw_skip (thenQ_n (?_))
       refine cw_seq (?_)
       refine cw_region (by kernel_rfl) (wl_s (o_litO (E := Enc.recovery) (xs := []) Try.underlying23 s_47 z_47 (by decide) [] [] [] rfl rfl rfl (Parts.nil _ _ _) (of_decide_eq_true rfl) s1859 fun v1876 b1878 w1872 e1879 hb1880 s1873 m1874 k1875 hl1877 => (?_)))
       have ne1881 : ∀ b, v1876.ownBlock = some b → b ≠ b1349 := fun b hb => by have := bx1354.lt; rw [hb1880] at hb; cases hb; omega
       have ne1882 : ∀ b, v1876.ownBlock = some b → b ≠ b1365 := fun b hb => by have := bx1862.lt; rw [hb1880] at hb; cases hb; omega
       have ne1883 : ∀ b, v1876.ownBlock = some b → b ≠ b1373 := fun b hb => by have := bx1378.lt; rw [hb1880] at hb; cases hb; omega
       have ne1884 : ∀ b, v1876.ownBlock = some b → b ≠ b1448 := fun b hb => by have := bx1453.lt; rw [hb1880] at hb; cases hb; omega
       have ne1885 : ∀ b, v1876.ownBlock = some b → b ≠ b1459 := fun b hb => by have := bx1464.lt; rw [hb1880] at hb; cases hb; omega
       have ne1886 : ∀ b, v1876.ownBlock = some b → b ≠ b1470 := fun b hb => by have := bx1496.lt; rw [hb1880] at hb; cases hb; omega
       have hB1887 : ∀ b, v1876.ownBlock = some b → b ∈ (b1878 :: (b1470 :: (b1459 :: (b1448 :: (b1373 :: (b1365 :: (b1349 :: []))))))) := fun b hb => by rw [hb1880] at hb; cases hb; simp
       clear e1879 hb1880
       have hl1870 := hl1870.mv m1874
       have hd1445 := hd1445.mv m1874
       have hd1447 := hd1447.mv m1874
       have hd1864 := hd1864.mv m1874
       have bx1354 := bx1354.keep k1875 (by simp)
       have bx1862 := bx1862.keep k1875 (by simp)
       have bx1378 := bx1378.keep k1875 (by simp)
       have bx1453 := bx1453.keep k1875 (by simp)
       have bx1464 := bx1464.keep k1875 (by simp)
       have bx1496 := bx1496.keep k1875 (by simp)
       refine wl_s (o_move (v1869) rfl (wl_s (o_append (E := Enc.recovery) (l := []) (m := c.recs) Try.underlying23 i_47 rfl (by decide) rfl rfl hl1877 hl1870 (fun _ hb => .inl hb) hB1887 (by simp; omega) (by simp [maxLen]; omega) s1873 fun v1892 w1888 B1894 hB1895 at1896 sub1897 s1889 m1890 k1891 ho1893 => (?_))))
       rw [List.nil_append] at ho1893
       have ne1898 : ∀ b, v1892.ownBlock = some b → b ≠ b1349 := fun b hb => by rcases at1896 with e1 | e1 <;> rw [e1] at hb <;> first | (simp [Value.ownBlock] at hb; done) | (cases hb; have := bx1354.lt; omega) | (exact ne1881 b hb)
       have ne1899 : ∀ b, v1892.ownBlock = some b → b ≠ b1365 := fun b hb => by rcases at1896 with e1 | e1 <;> rw [e1] at hb <;> first | (simp [Value.ownBlock] at hb; done) | (cases hb; have := bx1862.lt; omega) | (exact ne1882 b hb)
       have ne1900 : ∀ b, v1892.ownBlock = some b → b ≠ b1373 := fun b hb => by rcases at1896 with e1 | e1 <;> rw [e1] at hb <;> first | (simp [Value.ownBlock] at hb; done) | (cases hb; have := bx1378.lt; omega) | (exact ne1883 b hb)
       have ne1901 : ∀ b, v1892.ownBlock = some b → b ≠ b1448 := fun b hb => by rcases at1896 with e1 | e1 <;> rw [e1] at hb <;> first | (simp [Value.ownBlock] at hb; done) | (cases hb; have := bx1453.lt; omega) | (exact ne1884 b hb)
       have ne1902 : ∀ b, v1892.ownBlock = some b → b ≠ b1459 := fun b hb => by rcases at1896 with e1 | e1 <;> rw [e1] at hb <;> first | (simp [Value.ownBlock] at hb; done) | (cases hb; have := bx1464.lt; omega) | (exact ne1885 b hb)
       have ne1903 : ∀ b, v1892.ownBlock = some b → b ≠ b1470 := fun b hb => by rcases at1896 with e1 | e1 <;> rw [e1] at hb <;> first | (simp [Value.ownBlock] at hb; done) | (cases hb; have := bx1496.lt; omega) | (exact ne1886 b hb)
       have hin_b1349 : b1349 ∈ B1894 := sub1897 b1349 (by repeat (first | assumption | constructor))
       have hin_b1365 : b1365 ∈ B1894 := sub1897 b1365 (by repeat (first | assumption | constructor))
       have hin_b1373 : b1373 ∈ B1894 := sub1897 b1373 (by repeat (first | assumption | constructor))
       have hin_b1448 : b1448 ∈ B1894 := sub1897 b1448 (by repeat (first | assumption | constructor))
       have hin_b1459 : b1459 ∈ B1894 := sub1897 b1459 (by repeat (first | assumption | constructor))
       have hin_b1470 : b1470 ∈ B1894 := sub1897 b1470 (by repeat (first | assumption | constructor))
       have hd1445 := hd1445.mv m1890
       have hd1447 := hd1447.mv m1890
       have hd1864 := hd1864.mv m1890
       have bx1354 := bx1354.keep k1891 (by simp only [Option.mem_toList]; first | (simp [Value.ownBlock]; done) | exact fun e => absurd rfl (ne1881 _ e))
       have bx1862 := bx1862.keep k1891 (by simp only [Option.mem_toList]; first | (simp [Value.ownBlock]; done) | exact fun e => absurd rfl (ne1882 _ e))
       have bx1378 := bx1378.keep k1891 (by simp only [Option.mem_toList]; first | (simp [Value.ownBlock]; done) | exact fun e => absurd rfl (ne1883 _ e))
       have bx1453 := bx1453.keep k1891 (by simp only [Option.mem_toList]; first | (simp [Value.ownBlock]; done) | exact fun e => absurd rfl (ne1884 _ e))
       refine wl_s (o_assign (v1892) rfl (wl_nil (thenQ_n (?_))))
       refine cw_ret (end_r rfl (res1 rfl rfl rfl) (Exists.intro _ (And.intro rfl (?_))))
       refine wl_s (o_fieldL 4 f_25_4 rfl (wl_n (o_store1 (v1892) rfl rfl ho1893.oneCell s_23 (by repeat (first | assumption | constructor)) bx1862 (of_decide_eq_true rfl) s1889 fun w1904 s1905 m1906 k1907 bx1908 => (?_))))
       have hd1445 := hd1445.mv m1906
       have hd1447 := hd1447.mv m1906
       have hd1864 := hd1864.mv m1906
       have ho1893 := ho1893.mv m1906 k1907 (fun b hb => nin1 (ne1899 b hb))
       have bx1354 := bx1354.keep k1907 (nin1 ne1372)
       have bx1378 := bx1378.keep k1907 (nin1 (Ne.symm ne1381))
       have bx1453 := bx1453.keep k1907 (nin1 (Ne.symm ne1456))
       refine wl_nil (thenQ_n (?_))
       refine cw_seq (?_)
       refine cw_draw' 7 _ _ [isV (Value.pointer (some ⟨b1365, 4, none⟩)), isV v1892, isV (vI no), isV (Value.pointer (some ⟨b1448, 0, none⟩)), isV (Value.pointer (some ⟨b1448, 0, none⟩)), isV (Value.pointer (some ⟨b1448, 0, none⟩)), isV (Value.agg #[vI ((c.recs[no.toNat]!).no), vI ((c.recs[no.toNat]!).asked), vI ((c.recs[no.toNat]!).state), d1444, d1446])] (by kernel_rfl) (by kernel_rfl) (by kernel_rfl) (by kernel_rfl) rfl rfl ⟨kI, kI, kI, kI, kI, kI, kI, trivial⟩ ⟨?_, ?_, ?_, ?_, ?_, ?_, ?_, trivial⟩ ?_
       ·intro F1 w1 k1 hf hd
        obtain ⟨F2, rfl⟩ := lit_of (F := F1) [(6, Value.pointer (some ⟨b1365, 0, none⟩))] ⟨hf 6 (by kernel_rfl), trivial⟩
        exact sp_plain rfl ((o_fieldL 4 f_25_4 rfl (⟨(Keep.refl _ _), rfl⟩)))
       ·intro F1 w1 k1 hf hd
        have k0 := (Keep.drew [] w1904).trans k1
        have bx1908 := bx1908.keep k0 (by simp)
        obtain ⟨F2, rfl⟩ := lit_of (F := F1) [(42, Value.pointer (some ⟨b1365, 4, none⟩))] ⟨hd 0 42 (by kernel_rfl), trivial⟩
        exact sp_plain rfl ((o_loadBx Try.underlying23 rfl (v1892) rfl bx1908 rfl (⟨(Keep.refl _ _), rfl⟩)))
       ·intro F1 w1 k1 hf hd
        obtain ⟨F2, rfl⟩ := lit_of (F := F1) [(1, vI no)] ⟨hf 1 (by kernel_rfl), trivial⟩
        exact sp_plain rfl ((o_move (vI no) rfl (⟨(Keep.refl _ _), rfl⟩)))
       ·intro F1 w1 k1 hf hd
        obtain ⟨F2, rfl⟩ := lit_of (F := F1) [(9, Value.pointer (some ⟨b1448, 0, none⟩))] ⟨hf 9 (by kernel_rfl), trivial⟩
        exact sp_plain rfl ((o_move (Value.pointer (some ⟨b1448, 0, none⟩)) rfl (⟨(Keep.refl _ _), rfl⟩)))
       ·intro F1 w1 k1 hf hd
        obtain ⟨F2, rfl⟩ := lit_of (F := F1) [(45, Value.pointer (some ⟨b1448, 0, none⟩))] ⟨hd 3 45 (by kernel_rfl), trivial⟩
        exact sp_plain rfl ((o_nilCheck ⟨b1448, 0, none⟩ rfl (⟨(Keep.refl _ _), rfl⟩)))
       ·intro F1 w1 k1 hf hd
        obtain ⟨F2, rfl⟩ := lit_of (F := F1) [(46, Value.pointer (some ⟨b1448, 0, none⟩))] ⟨hd 4 46 (by kernel_rfl), trivial⟩
        exact sp_plain rfl ((o_fieldL 0 f_74_0 rfl (⟨(Keep.refl _ _), rfl⟩)))
       ·intro F1 w1 k1 hf hd
        have k0 := (Keep.drew [] w1904).trans k1
        have bx1453 := bx1453.keep k0 (by simp)
        obtain ⟨F2, rfl⟩ := lit_of (F := F1) [(47, Value.pointer (some ⟨b1448, 0, none⟩))] ⟨hd 5 47 (by kernel_rfl), trivial⟩
        exact sp_plain rfl ((o_loadBxA (vs := [vI ((c.recs[no.toNat]!).no), vI ((c.recs[no.toNat]!).asked), vI ((c.recs[no.toNat]!).state), d1444, d1446]) Try.underlying47 rfl s_47 rfl bx1453 rfl (⟨(Keep.refl _ _), rfl⟩)))
       intro F1910 w1911 k1909 hT1912 hF1913
       have s1914 := s1905.call k1909
       have m1915 : Mv B1894 w1904 B1894 w1911 := Mv.of_keep k1909
       have hd1445 := hd1445.mv m1915
       have hd1447 := hd1447.mv m1915
       have hd1864 := hd1864.mv m1915
       have ho1893 := ho1893.mv m1915 k1909 (by simp)
       have bx1354 := bx1354.keep k1909 (by simp)
       have bx1908 := bx1908.keep k1909 (by simp)
       have bx1378 := bx1378.keep k1909 (by simp)
       obtain ⟨F2, rfl⟩ := lit_of (F := F1910) [(6, Value.pointer (some ⟨b1365, 0, none⟩)), (7, Value.pointer (some ⟨b1373, 0, none⟩)), (51, .tuple #[Value.func (.func 59) #[] #[Value.pointer (some ⟨b1365, 0, none⟩), Value.pointer (some ⟨b1373, 0, none⟩)]]), (43, v1892), (44, vI no), (48, Value.agg #[vI ((c.recs[no.toNat]!).no), vI ((c.recs[no.toNat]!).asked), vI ((c.recs[no.toNat]!).state), d1444, d1446])] ⟨hF1913 6 (by kernel_rfl), hF1913 7 (by kernel_rfl), hF1913 51 (by kernel_rfl), hT1912 1 43 (by kernel_rfl) (by decide), hT1912 2 44 (by kernel_rfl) (by decide), hT1912 6 48 (by kernel_rfl) (by decide), trivial⟩
       clear hT1912 hF1913
       refine wl_s (o_indexO Try.underlying23 s_47 .i64 no no.toNat rfl rfl (by omega) ho1893 (by first | omega | (simp; omega)) fun b1917 hb1918 => (wl_n (o_storeOA (c.recs[no.toNat]!) (by decide) s_47 rfl rfl ho1893 hb1918 (hB1895 _ hb1918) (by first | omega | (simp; omega)) ⟨_, _, rfl, hd1445, hd1447⟩ s1914 fun w1919 s1920 m1921 k1922 bx1923 => (?_))))
       have bx1354 := bx1354.keep k1922 (by simp only [List.mem_singleton]; exact fun e => absurd e.symm (ne1898 _ hb1918))
       have hd1864 := hd1864.mv m1921
       have bx1908 := bx1908.keep k1922 (by simp only [List.mem_singleton]; exact fun e => absurd e.symm (ne1899 _ hb1918))
       have bx1378 := bx1378.keep k1922 (by simp only [List.mem_singleton]; exact fun e => absurd e.symm (ne1900 _ hb1918))
       refine wl_nil (thenQ_n (?_))
       refine cw_seq (?_)
       refine cw_region (by kernel_rfl) (wl_s (o_loadBxA (vs := [vI c.epoch, vI c.threshold, vI c.wait, d1863, v1892]) Try.underlying25 rfl s_25 rfl bx1908 rfl (wl_n (o_store (vs := [vI c.epoch, vI c.threshold, vI c.wait, d1863, v1892]) (.agg #[vI c.epoch, vI c.threshold, vI c.wait, d1863, v1892]) rfl rfl rfl s_25 (fun u hu => by simp only [List.mem_cons, List.not_mem_nil, or_false] at hu; rcases hu with rfl | rfl | rfl | rfl | rfl <;> first | rfl | exact hd1864.oneCell | exact bx1923.oneCell) (by repeat (first | assumption | constructor)) bx1908 (of_decide_eq_true rfl) s1920 fun w1924 s1925 m1926 k1927 bx1928 => (?_)))))
       have bx1923 := bx1923.mv m1926 k1927 (fun b hb => nin1 (ne1899 b hb))
       have hd1864 := hd1864.mv m1926
       have bx1354 := bx1354.keep k1927 (nin1 ne1372)
       have bx1378 := bx1378.keep k1927 (nin1 (Ne.symm ne1381))
       refine wl_n (o_store1 (vI (0 : Int)) rfl rfl rfl s_28 (by repeat (first | assumption | constructor)) bx1378 (of_decide_eq_true rfl) s1925 fun w1929 s1930 m1931 k1932 bx1933 => (?_))
       have bx1923 := bx1923.mv m1931 k1932 (fun b hb => nin1 (ne1900 b hb))
       have hd1864 := hd1864.mv m1931
       have bx1354 := bx1354.keep k1932 (nin1 ne1380)
       have bx1928 := bx1928.keep k1932 (nin1 ne1381)
       refine wl_nil (thenQ_n (?_))
       refine cw_ret (endD_rl (leave_rec [Value.pointer (some ⟨b1365, 0, none⟩), Value.pointer (some ⟨b1373, 0, none⟩)] 19 .returning rfl (fun h => by cases h) rfl enter_59 Try.func59 rfl rfl (of_decide_eq_true rfl) rfl rfl (fun F1934 => ?_)))
       refine cw_seq (?_)
       refine cw_region (by kernel_rfl) (wl_s (o_move (Value.nilIface) rfl (wl_s (o_neqNil' Try.underlying20 rfl (wl_nil (thenQ_n (?_)))))))
       refine cw_cond false rfl rfl (fun h => by cases h) (fun _ => ?_)
       refine cw_skip (end_n rfl (res0 rfl) (Exists.intro _ (And.intro (resv2 rfl (rv_A (vs := [vI c.epoch, vI c.threshold, vI c.wait, d1863, v1892]) rfl Try.underlying25 rfl s_25 rfl bx1928 rfl) (rv_c rfl Try.underlying28 rfl rfl bx1933 rfl)) (both_r (?_)))))
       refine wl_s (o_extract (Value.agg #[vI c.epoch, vI c.threshold, vI c.wait, d1863, v1892]) rfl rfl (wl_s (o_extract (vI (0 : Int)) rfl rfl (wl_n (o_store (vs := [vI c.epoch, vI c.threshold, vI c.wait, d1863, v1892]) (.agg #[vI c.epoch, vI c.threshold, vI c.wait, d1863, v1892]) rfl rfl rfl s_25 (fun u hu => by simp only [List.mem_cons, List.not_mem_nil, or_false] at hu; rcases hu with rfl | rfl | rfl | rfl | rfl <;> first | rfl | exact hd1864.oneCell | exact bx1923.oneCell) (by repeat (first | assumption | constructor)) bx1354 (of_decide_eq_true rfl) s1930 fun w1935 s1936 m1937 k1938 bx1939 => (?_))))))
       have hd1864 := hd1864.mv m1937
       have bx1923 := bx1923.mv m1937 k1938 (fun b hb => nin1 (ne1898 b hb))
       refine wl_s (o_assign (vI (0 : Int)) rfl (wl_nil (thenQ_n (?_))))
       refine cw_ret (end_r rfl (resv2 rfl (rv_A (vs := [vI c.epoch, vI c.threshold, vI c.wait, d1863, v1892]) rfl Try.underlying25 rfl s_25 rfl bx1939 rfl) (rv_t rfl rfl)) (?_))
       have e1940 : ((gAct c no (fApprove c guardian)).1) = (⟨c.epoch, c.threshold, c.wait, c.guardians, c.recs.set no.toNat (c.recs[no.toNat]!)⟩ : Circle) := by first | exact congrArg (fun p => p.1) (show gAct c no (fApprove c guardian) = _ from app_no hok (by omega)) | exact congrArg (fun p => p.1) (show gAct c no (fApprove c guardian) = _ from app_not hok (by omega) (by omega) (by assumption) (by assumption)) | exact congrArg (fun p => p.1) (show gAct c no (fApprove c guardian) = _ from app_had hok (by omega) (by omega) (by assumption) (by assumption) (by assumption)) | exact congrArg (fun p => p.1) (show gAct c no (fApprove c guardian) = _ from app_new hok (by omega) (by omega) (by assumption) (by assumption) (by assumption))
       have e1941 : ((gAct c no (fApprove c guardian)).2) = (0 : Int) := by first | exact congrArg (fun p => p.2) (show gAct c no (fApprove c guardian) = _ from app_no hok (by omega)) | exact congrArg (fun p => p.2) (show gAct c no (fApprove c guardian) = _ from app_not hok (by omega) (by omega) (by assumption) (by assumption)) | exact congrArg (fun p => p.2) (show gAct c no (fApprove c guardian) = _ from app_had hok (by omega) (by omega) (by assumption) (by assumption) (by assumption)) | exact congrArg (fun p => p.2) (show gAct c no (fApprove c guardian) = _ from app_new hok (by omega) (by omega) (by assumption) (by assumption) (by assumption))
       exact ⟨_, rfl, s1936.keep, by rw [e1940, e1941]; exact ⟨[vI c.epoch, vI c.threshold, vI c.wait, d1863, v1892], rfl, ⟨_, _, rfl, hd1864.out, (bx1923.pub s1936)⟩⟩⟩
    ·refine wl_s (o_lookupF (k := 1) (Value.func (.func 42) #[] #[Value.pointer (some ⟨b1459, 0, none⟩)]) Try.underlying68 Try.underlying3 rfl (congrArg vI hs1498) bx1496 rfl (wl_s (o_move (Value.tuple #[Value.func (.func 42) #[] #[Value.pointer (some ⟨b1459, 0, none⟩)], Value.bool true]) rfl (wl_s (o_extract (Value.func (.func 42) #[] #[Value.pointer (some ⟨b1459, 0, none⟩)]) rfl rfl (wl_s (o_extract (Value.bool true) rfl rfl (wl_s (o_assign (Value.func (.func 42) #[] #[Value.pointer (some ⟨b1459, 0, none⟩)]) rfl (wl_s (o_assign (Value.bool true) rfl (wl_nil (thenQ_n (?_))))))))))))))
     refine cw_seq (?_)
     refine cw_region (by kernel_rfl) (wl_s (o_move (Value.bool true) rfl (wl_nil (thenQ_n (?_)))))
     refine cw_cond true rfl rfl (fun _ => ?_) (fun h => by cases h)
     refine cw_region (by kernel_rfl) (wl_s (o_move (Value.func (.func 42) #[] #[Value.pointer (some ⟨b1459, 0, none⟩)]) rfl (wl_s (o_callvX [] [Value.pointer (some ⟨b1459, 0, none⟩)] [] enter_42 rfl rfl (calls_of_cw 3 Try.func42 rfl rfl (of_decide_eq_true rfl) (fun F1942 => ?_))))))
     refine cw_region (by kernel_rfl) (wl_s (o_loadBx Try.underlying64 rfl (Value.pointer (some ⟨b1448, 0, none⟩)) rfl bx1464 rfl (wl_s (o_callX [Value.pointer (some ⟨b1448, 0, none⟩), Value.bool false, vI (1 : Int)] enter_41 rfl (calls_of_cw 11 Try.func41 rfl rfl (of_decide_eq_true rfl) (fun F1943 => ?_))))))
     refine cw_seq (?_)
     refine cw_region (by kernel_rfl) (wl_s (o_move (Value.bool false) rfl (wl_s (o_not false rfl (wl_nil (thenQ_n (?_)))))))
     refine cw_cond true rfl rfl (fun _ => ?_) (fun h => by cases h)
     refine cw_region (by kernel_rfl) (wl_s (o_move (vI (1 : Int)) rfl (wl_s (o_build (l := [(0, .tmp 8)]) pl_78 z_78 rfl [(0, vI (1 : Int), [vI (1 : Int)])] [vI (1 : Int)] rfl ⟨_, rfl, rfl, (of_decide_eq_true rfl), rfl⟩ (wl_s (o_iface (Value.agg #[vI (1 : Int)]) Try.underlying78 rfl rfl (wl_n (o_panic rfl (end_p rfl (both_p (?_)))))))))))
     refine end_p rfl (both_p (?_))
     refine end_p rfl (both_p (?_))
     refine end_p rfl (both_p (?_))
     refine thenQ_p (endD_pl (leave_con [Value.pointer (some ⟨b1365, 0, none⟩), Value.pointer (some ⟨b1373, 0, none⟩)] (.panicking [{ v := Value.iface 78 (Value.agg #[vI (1 : Int)]), recovered := false }]) rfl (fun h => by cases h) rfl enter_59 (c_on1p (1 : Int) b1365 b1373 s1493 bx1370 bx1378 (by repeat (first | assumption | constructor)) (by repeat (first | assumption | constructor)) ne1381) (fun e_ w1944 hR_ => ?_)))
     obtain ⟨v_, rfl, s1945, m1946, k1947, bx1948, bx1949⟩ := hR_
     have bx1354 := bx1354.keep k1947 (nin2 ne1372 ne1380)
     refine Exists.intro _ (And.intro (resv2 rfl (rv_A (vs := [vI (0 : Int), vI (0 : Int), vI (0 : Int), Value.slice none 0 0, Value.slice none 0 0]) rfl Try.underlying25 rfl s_25 rfl bx1948 rfl) (rv_c rfl Try.underlying28 rfl rfl bx1949 rfl)) (both_r (?_)))
     refine wl_s (o_extract (Value.agg #[vI (0 : Int), vI (0 : Int), vI (0 : Int), Value.slice none 0 0, Value.slice none 0 0]) rfl rfl (wl_s (o_extract (vI (1 : Int)) rfl rfl (wl_n (o_store (vs := [vI (0 : Int), vI (0 : Int), vI (0 : Int), Value.slice none 0 0, Value.slice none 0 0]) (.agg #[vI (0 : Int), vI (0 : Int), vI (0 : Int), Value.slice none 0 0, Value.slice none 0 0]) rfl rfl rfl s_25 (fun u hu => by simp only [List.mem_cons, List.not_mem_nil, or_false] at hu; rcases hu with rfl | rfl | rfl | rfl | rfl <;> first | rfl) (by repeat (first | assumption | constructor)) bx1354 (of_decide_eq_true rfl) s1945 fun w1950 s1951 m1952 k1953 bx1954 => (?_))))))
     refine wl_s (o_assign (vI (1 : Int)) rfl (wl_nil (thenQ_n (?_))))
     refine cw_ret (end_r rfl (resv2 rfl (rv_A (vs := [vI (0 : Int), vI (0 : Int), vI (0 : Int), Value.slice none 0 0, Value.slice none 0 0]) rfl Try.underlying25 rfl s_25 rfl bx1954 rfl) (rv_t rfl rfl)) (?_))
     have e1955 : ((gAct c no (fApprove c guardian)).1) = (⟨(0 : Int), (0 : Int), (0 : Int), [], []⟩ : Circle) := by first | exact congrArg (fun p => p.1) (show gAct c no (fApprove c guardian) = _ from app_no hok (by omega)) | exact congrArg (fun p => p.1) (show gAct c no (fApprove c guardian) = _ from app_done hok (by omega) (by omega) (by assumption))
     have e1956 : ((gAct c no (fApprove c guardian)).2) = (1 : Int) := by first | exact congrArg (fun p => p.2) (show gAct c no (fApprove c guardian) = _ from app_no hok (by omega)) | exact congrArg (fun p => p.2) (show gAct c no (fApprove c guardian) = _ from app_done hok (by omega) (by omega) (by assumption))
     exact ⟨_, rfl, s1951.keep, by rw [e1955, e1956]; exact ⟨[vI (0 : Int), vI (0 : Int), vI (0 : Int), Value.slice none 0 0, Value.slice none 0 0], rfl, Enc.out (B := (b1470 :: (b1459 :: (b1448 :: (b1373 :: (b1365 :: (b1349 :: []))))))) ⟨.slice none 0 0, .slice none 0 0, rfl, (RdL.nil _ _ _), (RdL.nil _ _ _)⟩⟩⟩
    ·refine wl_s (o_lookupF (k := 2) (Value.func (.func 40) #[] #[Value.pointer (some ⟨b1459, 0, none⟩)]) Try.underlying68 Try.underlying3 rfl (congrArg vI hs1498) bx1496 rfl (wl_s (o_move (Value.tuple #[Value.func (.func 40) #[] #[Value.pointer (some ⟨b1459, 0, none⟩)], Value.bool true]) rfl (wl_s (o_extract (Value.func (.func 40) #[] #[Value.pointer (some ⟨b1459, 0, none⟩)]) rfl rfl (wl_s (o_extract (Value.bool true) rfl rfl (wl_s (o_assign (Value.func (.func 40) #[] #[Value.pointer (some ⟨b1459, 0, none⟩)]) rfl (wl_s (o_assign (Value.bool true) rfl (wl_nil (thenQ_n (?_))))))))))))))
     refine cw_seq (?_)
     refine cw_region (by kernel_rfl) (wl_s (o_move (Value.bool true) rfl (wl_nil (thenQ_n (?_)))))
     refine cw_cond true rfl rfl (fun _ => ?_) (fun h => by cases h)
     refine cw_region (by kernel_rfl) (wl_s (o_move (Value.func (.func 40) #[] #[Value.pointer (some ⟨b1459, 0, none⟩)]) rfl (wl_s (o_callvX [] [Value.pointer (some ⟨b1459, 0, none⟩)] [] enter_40 rfl rfl (calls_of_cw 3 Try.func40 rfl rfl (of_decide_eq_true rfl) (fun F1957 => ?_))))))
     refine cw_region (by kernel_rfl) (wl_s (o_loadBx Try.underlying64 rfl (Value.pointer (some ⟨b1448, 0, none⟩)) rfl bx1464 rfl (wl_s (o_callX [Value.pointer (some ⟨b1448, 0, none⟩), Value.bool false, vI (452 : Int)] enter_41 rfl (calls_of_cw 11 Try.func41 rfl rfl (of_decide_eq_true rfl) (fun F1958 => ?_))))))
     refine cw_seq (?_)
     refine cw_region (by kernel_rfl) (wl_s (o_move (Value.bool false) rfl (wl_s (o_not false rfl (wl_nil (thenQ_n (?_)))))))
     refine cw_cond true rfl rfl (fun _ => ?_) (fun h => by cases h)
     refine cw_region (by kernel_rfl) (wl_s (o_move (vI (452 : Int)) rfl (wl_s (o_build (l := [(0, .tmp 8)]) pl_78 z_78 rfl [(0, vI (452 : Int), [vI (452 : Int)])] [vI (452 : Int)] rfl ⟨_, rfl, rfl, (of_decide_eq_true rfl), rfl⟩ (wl_s (o_iface (Value.agg #[vI (452 : Int)]) Try.underlying78 rfl rfl (wl_n (o_panic rfl (end_p rfl (both_p (?_)))))))))))
     refine end_p rfl (both_p (?_))
     refine end_p rfl (both_p (?_))
     refine end_p rfl (both_p (?_))
     refine thenQ_p (endD_pl (leave_con [Value.pointer (some ⟨b1365, 0, none⟩), Value.pointer (some ⟨b1373, 0, none⟩)] (.panicking [{ v := Value.iface 78 (Value.agg #[vI (452 : Int)]), recovered := false }]) rfl (fun h => by cases h) rfl enter_59 (c_on1p (452 : Int) b1365 b1373 s1493 bx1370 bx1378 (by repeat (first | assumption | constructor)) (by repeat (first | assumption | constructor)) ne1381) (fun e_ w1959 hR_ => ?_)))
     obtain ⟨v_, rfl, s1960, m1961, k1962, bx1963, bx1964⟩ := hR_
     have bx1354 := bx1354.keep k1962 (nin2 ne1372 ne1380)
     refine Exists.intro _ (And.intro (resv2 rfl (rv_A (vs := [vI (0 : Int), vI (0 : Int), vI (0 : Int), Value.slice none 0 0, Value.slice none 0 0]) rfl Try.underlying25 rfl s_25 rfl bx1963 rfl) (rv_c rfl Try.underlying28 rfl rfl bx1964 rfl)) (both_r (?_)))
     refine wl_s (o_extract (Value.agg #[vI (0 : Int), vI (0 : Int), vI (0 : Int), Value.slice none 0 0, Value.slice none 0 0]) rfl rfl (wl_s (o_extract (vI (452 : Int)) rfl rfl (wl_n (o_store (vs := [vI (0 : Int), vI (0 : Int), vI (0 : Int), Value.slice none 0 0, Value.slice none 0 0]) (.agg #[vI (0 : Int), vI (0 : Int), vI (0 : Int), Value.slice none 0 0, Value.slice none 0 0]) rfl rfl rfl s_25 (fun u hu => by simp only [List.mem_cons, List.not_mem_nil, or_false] at hu; rcases hu with rfl | rfl | rfl | rfl | rfl <;> first | rfl) (by repeat (first | assumption | constructor)) bx1354 (of_decide_eq_true rfl) s1960 fun w1965 s1966 m1967 k1968 bx1969 => (?_))))))
     refine wl_s (o_assign (vI (452 : Int)) rfl (wl_nil (thenQ_n (?_))))
     refine cw_ret (end_r rfl (resv2 rfl (rv_A (vs := [vI (0 : Int), vI (0 : Int), vI (0 : Int), Value.slice none 0 0, Value.slice none 0 0]) rfl Try.underlying25 rfl s_25 rfl bx1969 rfl) (rv_t rfl rfl)) (?_))
     have e1970 : ((gAct c no (fApprove c guardian)).1) = (⟨(0 : Int), (0 : Int), (0 : Int), [], []⟩ : Circle) := by first | exact congrArg (fun p => p.1) (show gAct c no (fApprove c guardian) = _ from app_no hok (by omega)) | exact congrArg (fun p => p.1) (show gAct c no (fApprove c guardian) = _ from app_dead hok (by omega) (by omega) (by assumption))
     have e1971 : ((gAct c no (fApprove c guardian)).2) = (452 : Int) := by first | exact congrArg (fun p => p.2) (show gAct c no (fApprove c guardian) = _ from app_no hok (by omega)) | exact congrArg (fun p => p.2) (show gAct c no (fApprove c guardian) = _ from app_dead hok (by omega) (by omega) (by assumption))
     exact ⟨_, rfl, s1966.keep, by rw [e1970, e1971]; exact ⟨[vI (0 : Int), vI (0 : Int), vI (0 : Int), Value.slice none 0 0, Value.slice none 0 0], rfl, Enc.out (B := (b1470 :: (b1459 :: (b1448 :: (b1373 :: (b1365 :: (b1349 :: []))))))) ⟨.slice none 0 0, .slice none 0 0, rfl, (RdL.nil _ _ _), (RdL.nil _ _ _)⟩⟩⟩
  ·have hp1972 : no < (0 : Int) := by first | simpa using hb1410 | (have e := hb1410; simp at e; omega)
   refine wl_k rfl (wl_k rfl (wl_k rfl (wl_k rfl (wl_k rfl (wl_s (o_pickT (Value.bool true) rfl rfl (wl_nil (thenQ_n (?_)))))))))
   refine cw_cond true rfl rfl (fun _ => ?_) (fun h => by cases h)
   refine cw_seq (?_)
   refine cw_region (by kernel_rfl) (wl_s (o_loadBxA (vs := [vI (0 : Int), vI (0 : Int), vI (0 : Int), Value.slice none 0 0, Value.slice none 0 0]) Try.underlying25 rfl s_25 rfl bx1370 rfl (wl_n (o_store (vs := [vI (0 : Int), vI (0 : Int), vI (0 : Int), Value.slice none 0 0, Value.slice none 0 0]) (.agg #[vI (0 : Int), vI (0 : Int), vI (0 : Int), Value.slice none 0 0, Value.slice none 0 0]) rfl rfl rfl s_25 (fun u hu => by simp only [List.mem_cons, List.not_mem_nil, or_false] at hu; rcases hu with rfl | rfl | rfl | rfl | rfl <;> first | rfl) (by repeat (first | assumption | constructor)) bx1370 (of_decide_eq_true rfl) s1386 fun w1973 s1974 m1975 k1976 bx1977 => (?_)))))
   have bx1354 := bx1354.keep k1976 (nin1 ne1372)
   have bx1378 := bx1378.keep k1976 (nin1 (Ne.symm ne1381))
   refine wl_n (o_store1 (vI (1 : Int)) rfl rfl rfl s_28 (by repeat (first | assumption | constructor)) bx1378 (of_decide_eq_true rfl) s1974 fun w1978 s1979 m1980 k1981 bx1982 => (?_))
   have bx1354 := bx1354.keep k1981 (nin1 ne1380)
   have bx1977 := bx1977.keep k1981 (nin1 ne1381)
   refine wl_nil (thenQ_n (?_))
   refine cw_ret (thenQ_r (endD_r rfl (resv2 rfl (rv_A (vs := [vI (0 : Int), vI (0 : Int), vI (0 : Int), Value.slice none 0 0, Value.slice none 0 0]) rfl Try.underlying25 rfl s_25 rfl bx1977 rfl) (rv_c rfl Try.underlying28 rfl rfl bx1982 rfl)) (both_r (?_))))
   refine wl_s (o_extract (Value.agg #[vI (0 : Int), vI (0 : Int), vI (0 : Int), Value.slice none 0 0, Value.slice none 0 0]) rfl rfl (wl_s (o_extract (vI (1 : Int)) rfl rfl (wl_n (o_store (vs := [vI (0 : Int), vI (0 : Int), vI (0 : Int), Value.slice none 0 0, Value.slice none 0 0]) (.agg #[vI (0 : Int), vI (0 : Int), vI (0 : Int), Value.slice none 0 0, Value.slice none 0 0]) rfl rfl rfl s_25 (fun u hu => by simp only [List.mem_cons, List.not_mem_nil, or_false] at hu; rcases hu with rfl | rfl | rfl | rfl | rfl <;> first | rfl) (by repeat (first | assumption | constructor)) bx1354 (of_decide_eq_true rfl) s1979 fun w1983 s1984 m1985 k1986 bx1987 => (?_))))))
   refine wl_s (o_assign (vI (1 : Int)) rfl (wl_nil (thenQ_n (?_))))
   refine cw_ret (end_r rfl (resv2 rfl (rv_A (vs := [vI (0 : Int), vI (0 : Int), vI (0 : Int), Value.slice none 0 0, Value.slice none 0 0]) rfl Try.underlying25 rfl s_25 rfl bx1987 rfl) (rv_t rfl rfl)) (?_))
   have e1988 : ((gAct c no (fApprove c guardian)).1) = (⟨(0 : Int), (0 : Int), (0 : Int), [], []⟩ : Circle) := by exact congrArg (fun p => p.1) (show gAct c no (fApprove c guardian) = _ from app_no hok (by omega))
   have e1989 : ((gAct c no (fApprove c guardian)).2) = (1 : Int) := by exact congrArg (fun p => p.2) (show gAct c no (fApprove c guardian) = _ from app_no hok (by omega))
   exact ⟨_, rfl, s1984.keep, by rw [e1988, e1989]; exact ⟨[vI (0 : Int), vI (0 : Int), vI (0 : Int), Value.slice none 0 0, Value.slice none 0 0], rfl, Enc.out (B := (b1373 :: (b1365 :: (b1349 :: [])))) ⟨.slice none 0 0, .slice none 0 0, rfl, (RdL.nil _ _ _), (RdL.nil _ _ _)⟩⟩⟩

end Go.Proofs.Ytpdekmknnpkmgaa
