/- Walks, printed by gen.py. -/
import Derived.Test.YtjpniibleelgiaaYk
import Derived.Test.YtjpniibleelgiaaXt
import Derived.Test.YtjpniibleelgiaaMrB
set_option linter.unusedSimpArgs false
set_option linter.unusedVariables false
namespace Go.Proofs.Ytjpniibleelgiaa
open Go.Fw Go.RowKit

set_option maxHeartbeats 4000000 in
set_option maxRecDepth 100000 in
theorem c_RollbackBurnt {O : List Nat} (d_cs : List Value) (d : Device) (copy : Int) (token : Int) (copies : Int) (first : Int) (w : World) (h_d : Enc.device.rd w O d_cs d) (hO : ∀ b ∈ O, b < w.heap.size) : CallsK Try.prog 18 [.agg d_cs.toArray, vI copy, vI token, vI copies, vI first] w (fun v _ => v = .bool (true)) :=  by
 have h_d : Enc.device.rd w ([] ++ O) d_cs d := h_d
 have s0 : St w O w [] := St.start hO
 refine callsK_of 116 Try.func18 rfl rfl (of_decide_eq_true rfl) (fun F0 => ?_)
 refine cw_seq (?_)
 refine cw_region (by kernel_rfl) (wl_s (o_boxR (E := Enc.device) (Value.agg d_cs.toArray) (d_cs) d rfl rfl h_d s0 fun a8390 w8391 s8392 m8393 k8394 hp8395 => (?_)))
 refine wl_s (o_assign (Value.bool false) rfl (wl_nil (thenQ_n (?_))))
 refine cw_seq (?_)
 refine cw_seq (?_)
 refine cw_region (by kernel_rfl) (wl_s (o_callK (vs := []) enter_39 (c_sane43 (O := [] ++ O) w8391 s8392.lt) rfl s8392 fun v8396 w8397 s8398 m8399 k8400 r8401 => (?_)))
 obtain rfl := r8401
 have hp8395 := hp8395.mv m8399
 refine wl_s (o_not true rfl (wl_nil (thenQ_n (?_))))
 refine cw_cond false rfl rfl (fun h => by cases h) (fun _ => ?_)
 refine cw_skip (thenQ_n (?_))
 refine cw_seq (?_)
 refine cw_seq (?_)
 refine cw_region (by kernel_rfl) (wl_s (o_fieldR 2 f_31_2 (d.ops) rfl hp8395 (fun _ _ _ h => Enc_device_f2 h) fun a8402 hp8403 => (wl_s (o_loadL Try.underlying26 rfl rfl hp8403 fun v8404 hl8405 => (?_)))))
 have := hl8405.len_le
 refine wl_s (o_callK (vs := [v8404]) enter_26 (c_few (O := [] ++ O) v8404 d.ops w8397 hl8405 s8398.lt) rfl s8398 fun v8406 w8407 s8408 m8409 k8410 r8411 => (?_))
 obtain rfl := r8411
 have hp8395 := hp8395.mv m8409
 refine wl_s (o_not (decide ((d.ops.length : Int) ≤ 40)) rfl (wl_s (o_move (Value.bool (!(decide ((d.ops.length : Int) ≤ 40)))) rfl (?_))))
 cases hb8412 : (!(decide ((d.ops.length : Int) ≤ 40)))
 ·have hp8413 : (d.ops.length : Int) ≤ 40 := by first | simpa using hb8412 | (have e := hb8412; rw [Bool.not_eq_true'] at e; exact e) | (have e := hb8412; rw [Bool.not_eq_false'] at e; exact e) | (have e := hb8412; simp at e; omega)
  refine wl_t rfl (o_move (vI copies) rfl (wl_t rfl (o_gtr .i64 copies (40 : Int) rfl rfl (wl_s (o_pickF (Value.bool (decide ((40 : Int) < copies))) rfl rfl (wl_nil (thenQ_n (?_))))))))
  refine cw_cond (decide ((40 : Int) < copies)) rfl rfl (fun hc8414 => ?_) (fun hc8414 => ?_)
  ·have hp8415 : (40 : Int) < copies := by first | simpa using hc8414 | (have e := hc8414; simp at e; omega)
   refine cw_seq (?_)
   refine cw_region (by kernel_rfl) (wl_s (o_assign (Value.bool true) rfl (wl_nil (thenQ_n (?_)))))
   refine cw_ret (thenQ_r (end_r rfl (res1 rfl rfl rfl) (?_)))
   exact ⟨_, rfl, s8408.keep, rfl⟩
  ·have hp8416 : copies ≤ (40 : Int) := by first | simpa using hc8414 | (have e := hc8414; simp at e; omega)
   refine cw_skip (thenQ_n (?_))
   refine cw_seq (?_)
   refine cw_seq (?_)
   refine cw_region (by kernel_rfl) (wl_s (o_loadS Try.underlying31 rfl s_31 rfl hp8395 fun cs8417 hs8418 => (wl_s (o_callK (vs := [Value.agg cs8417.toArray]) enter_44 (c_start (O := [] ++ O) cs8417 d w8407 hs8418 s8408.lt) rfl s8408 fun v8419 w8420 s8421 m8422 k8423 r8424 => (?_)))))
   obtain ⟨cs8425, rfl, hs8426⟩ := r8424
   have hp8395 := hp8395.mv m8422
   refine wl_s (o_move (Value.tuple #[Value.agg cs8425.toArray, vI ((startM d).2)]) rfl (wl_s (o_extract (Value.agg cs8425.toArray) rfl rfl (wl_s (o_extract (vI ((startM d).2)) rfl rfl (wl_s (o_alloc [vI (0 : Int), vI (0 : Int), Value.slice none 0 0, Value.bool false] z_31 rfl s8421 fun b8427 w8428 e8433 s8429 m8430 k8431 bx8432 => (?_))))))))
   clear e8433
   have hp8395 := hp8395.mv m8430
   have hs8426 : Enc.device.rd w8428 ((b8427 :: []) ++ O) cs8425 ((startM d).1) := Enc.mv Enc.device (x := (startM d).1) hs8426 m8430
   obtain ⟨d8439, rfl, hd8440⟩ := hs8426
   have := hd8440.len_le
   refine wl_n (o_store (vs := [vI (((startM d).1).id), vI (((startM d).1).counter), d8439, Value.bool (((startM d).1).halted)]) (.agg #[vI (((startM d).1).id), vI (((startM d).1).counter), d8439, Value.bool (((startM d).1).halted)]) rfl rfl rfl s_31 (fun u hu => by simp only [List.mem_cons, List.not_mem_nil, or_false] at hu; rcases hu with rfl | rfl | rfl | rfl <;> first | rfl | exact hd8440.oneCell) (by repeat (first | assumption | constructor)) bx8432 (of_decide_eq_true rfl) s8429 fun w8434 s8435 m8436 k8437 bx8438 => (?_))
   have hp8395 := hp8395.mv m8436
   have hd8440 := hd8440.mv m8436
   refine wl_s (o_assign (vI ((startM d).2)) rfl (wl_nil (thenQ_n (?_))))
   refine cw_seq (?_)
   refine cw_region (by kernel_rfl) (wl_s (o_move (vI ((startM d).2)) rfl (wl_s (o_eql .i64 ((startM d).2) (0 : Int) rfl rfl (wl_s (o_move (Value.bool (((startM d).2) == (0 : Int))) rfl (?_)))))))
   cases hb8441 : (((startM d).2) == (0 : Int))
   ·have hp8442 : (startM d).2 ≠ (0 : Int) := by first | simpa using hb8441 | (have e := hb8441; simp at e; omega)
    refine wl_k rfl (wl_k rfl (wl_k rfl (wl_k rfl (wl_k rfl (wl_k rfl (wl_s (o_pickF (Value.bool false) rfl rfl (wl_nil (thenQ_n (?_))))))))))
    refine cw_cond false rfl rfl (fun h => by cases h) (fun _ => ?_)
    refine cw_skip (thenQ_n (?_))
    refine cw_seq (?_)
    refine cw_region (by kernel_rfl) (wl_s (o_fieldR 2 f_31_2 (d.ops) rfl hp8395 (fun _ _ _ h => Enc_device_f2 h) fun a8443 hp8444 => (wl_s (o_loadL Try.underlying26 rfl rfl hp8444 fun v8445 hl8446 => (?_)))))
    have := hl8446.len_le
    refine wl_s (o_move (vI copies) rfl (wl_s (o_move (vI first) rfl (wl_s (o_fieldR 0 f_31_0 (d.id) rfl hp8395 (fun _ _ _ h => Enc_device_f0 h) fun a8447 hp8448 => (wl_s (o_loadI Try.underlying3 rfl rfl hp8448 (wl_s (o_move (vI copy) rfl (wl_s (o_callK (vs := [v8445, vI copies, vI first, vI d.id, vI copy]) enter_34 (c_may (O := (b8427 :: []) ++ O) v8445 d.ops copies first d.id copy w8434 hl8446 s8435.lt) rfl s8435 fun v8449 w8450 s8451 m8452 k8453 r8454 => (?_))))))))))))
    obtain rfl := r8454
    have hp8395 := hp8395.mv m8452
    have bx8438 := bx8438.keep k8453 (by simp)
    refine wl_s (o_move (Value.tuple #[Value.bool ((mayM d.ops copies first d.id copy).1), vI ((mayM d.ops copies first d.id copy).2)]) rfl (wl_s (o_extract (Value.bool ((mayM d.ops copies first d.id copy).1)) rfl rfl (wl_s (o_extract (vI ((mayM d.ops copies first d.id copy).2)) rfl rfl (wl_s (o_assign (Value.bool ((mayM d.ops copies first d.id copy).1)) rfl (wl_s (o_assign (vI ((mayM d.ops copies first d.id copy).2)) rfl (wl_nil (thenQ_n (?_))))))))))))
    refine cw_seq (?_)
    refine cw_region (by kernel_rfl) (wl_s (o_loadS Try.underlying31 rfl s_31 rfl hp8395 fun cs8455 hs8456 => (wl_s (o_fieldR 0 f_31_0 (d.id) rfl hp8395 (fun _ _ _ h => Enc_device_f0 h) fun a8457 hp8458 => (wl_s (o_loadI Try.underlying3 rfl rfl hp8458 (wl_s (o_fieldR 1 f_31_1 (d.counter) rfl hp8395 (fun _ _ _ h => Enc_device_f1 h) fun a8459 hp8460 => (wl_s (o_loadI Try.underlying3 rfl rfl hp8460 (wl_s (o_add .i64 d.counter (1 : Int) (IntKind.i64.wrap (d.counter + (1 : Int))) rfl rfl rfl (wl_s (o_move (vI copy) rfl (wl_s (o_move (vI token) rfl (wl_s (o_build (l := [(0, .tmp 59), (1, .tmp 62), (2, .const (vI (2 : Int))), (3, .tmp 63), (5, .tmp 64)]) pl_40 z_40 rfl [(0, vI d.id, [vI d.id]), (1, vI (IntKind.i64.wrap (d.counter + (1 : Int))), [vI (IntKind.i64.wrap (d.counter + (1 : Int)))]), (2, vI (2 : Int), [vI (2 : Int)]), (3, vI copy, [vI copy]), (5, vI token, [vI token])] [vI d.id, vI (IntKind.i64.wrap (d.counter + (1 : Int))), vI (2 : Int), vI copy, vI (0 : Int), vI token] rfl ⟨_, rfl, rfl, (of_decide_eq_true rfl), ⟨_, rfl, rfl, (of_decide_eq_true rfl), ⟨_, rfl, rfl, (of_decide_eq_true rfl), ⟨_, rfl, rfl, (of_decide_eq_true rfl), ⟨_, rfl, rfl, (of_decide_eq_true rfl), rfl⟩⟩⟩⟩⟩ (wl_s (o_callK (vs := [Value.agg cs8455.toArray, Value.agg #[vI d.id, vI (IntKind.i64.wrap (d.counter + (1 : Int))), vI (2 : Int), vI copy, vI (0 : Int), vI token], vI (2 : Int)]) enter_40 (c_act (O := (b8427 :: []) ++ O) cs8455 d [vI d.id, vI (IntKind.i64.wrap (d.counter + (1 : Int))), vI (2 : Int), vI copy, vI (0 : Int), vI token] (⟨d.id, IntKind.i64.wrap (d.counter + (1 : Int)), (2 : Int), copy, (0 : Int), token⟩ : DeviceOp) (2 : Int) w8450 hs8456 rfl s8451.lt) rfl s8451 fun v8461 w8462 s8463 m8464 k8465 r8466 => (?_)))))))))))))))))))))
    obtain ⟨cs8467, rfl, hs8468⟩ := r8466
    have hp8395 := hp8395.mv m8464
    have bx8438 := bx8438.keep k8465 (by simp)
    refine wl_s (o_move (Value.tuple #[Value.agg cs8467.toArray, vI ((actM d (⟨d.id, IntKind.i64.wrap (d.counter + (1 : Int)), (2 : Int), copy, (0 : Int), token⟩ : DeviceOp) (2 : Int)).2)]) rfl (wl_s (o_extract (Value.agg cs8467.toArray) rfl rfl (wl_s (o_extract (vI ((actM d (⟨d.id, IntKind.i64.wrap (d.counter + (1 : Int)), (2 : Int), copy, (0 : Int), token⟩ : DeviceOp) (2 : Int)).2)) rfl rfl (wl_s (o_alloc [vI (0 : Int), vI (0 : Int), Value.slice none 0 0, Value.bool false] z_31 rfl s8463 fun b8469 w8470 e8475 s8471 m8472 k8473 bx8474 => (?_))))))))
    have ne8476 : NeB b8427 b8469 := by show b8427 ≠ b8469; have := bx8438.lt; omega
    clear e8475
    have hp8395 := hp8395.mv m8472
    have hs8468 : Enc.device.rd w8470 ((b8469 :: (b8427 :: [])) ++ O) cs8467 ((actM d (⟨d.id, IntKind.i64.wrap (d.counter + (1 : Int)), (2 : Int), copy, (0 : Int), token⟩ : DeviceOp) (2 : Int)).1) := Enc.mv Enc.device (x := (actM d (⟨d.id, IntKind.i64.wrap (d.counter + (1 : Int)), (2 : Int), copy, (0 : Int), token⟩ : DeviceOp) (2 : Int)).1) hs8468 m8472
    obtain ⟨d8482, rfl, hd8483⟩ := hs8468
    have := hd8483.len_le
    refine wl_n (o_store (vs := [vI (((actM d (⟨d.id, IntKind.i64.wrap (d.counter + (1 : Int)), (2 : Int), copy, (0 : Int), token⟩ : DeviceOp) (2 : Int)).1).id), vI (((actM d (⟨d.id, IntKind.i64.wrap (d.counter + (1 : Int)), (2 : Int), copy, (0 : Int), token⟩ : DeviceOp) (2 : Int)).1).counter), d8482, Value.bool (((actM d (⟨d.id, IntKind.i64.wrap (d.counter + (1 : Int)), (2 : Int), copy, (0 : Int), token⟩ : DeviceOp) (2 : Int)).1).halted)]) (.agg #[vI (((actM d (⟨d.id, IntKind.i64.wrap (d.counter + (1 : Int)), (2 : Int), copy, (0 : Int), token⟩ : DeviceOp) (2 : Int)).1).id), vI (((actM d (⟨d.id, IntKind.i64.wrap (d.counter + (1 : Int)), (2 : Int), copy, (0 : Int), token⟩ : DeviceOp) (2 : Int)).1).counter), d8482, Value.bool (((actM d (⟨d.id, IntKind.i64.wrap (d.counter + (1 : Int)), (2 : Int), copy, (0 : Int), token⟩ : DeviceOp) (2 : Int)).1).halted)]) rfl rfl rfl s_31 (fun u hu => by simp only [List.mem_cons, List.not_mem_nil, or_false] at hu; rcases hu with rfl | rfl | rfl | rfl <;> first | rfl | exact hd8483.oneCell) (by repeat (first | assumption | constructor)) bx8474 (of_decide_eq_true rfl) s8471 fun w8477 s8478 m8479 k8480 bx8481 => (?_))
    have hp8395 := hp8395.mv m8479
    have hd8483 := hd8483.mv m8479
    refine wl_s (o_assign (vI ((actM d (⟨d.id, IntKind.i64.wrap (d.counter + (1 : Int)), (2 : Int), copy, (0 : Int), token⟩ : DeviceOp) (2 : Int)).2)) rfl (wl_nil (thenQ_n (?_))))
    refine cw_seq (?_)
    refine cw_seq (?_)
    refine cw_region (by kernel_rfl) (wl_s (o_move (vI ((mayM d.ops copies first d.id copy).2)) rfl (wl_s (o_neq .i64 ((mayM d.ops copies first d.id copy).2) (0 : Int) rfl rfl (wl_s (o_move (Value.bool (((mayM d.ops copies first d.id copy).2) != (0 : Int))) rfl (?_)))))))
    cases hb8484 : (((mayM d.ops copies first d.id copy).2) != (0 : Int))
    ·have hp8485 : (mayM d.ops copies first d.id copy).2 = (0 : Int) := by first | simpa using hb8484 | (have e := hb8484; simp at e; omega)
     have hmay0 : (mayM d.ops copies first d.id copy).2 = 0 := hp8485
     have hms := (may_ok hmay0).1
     refine wl_t rfl (o_move (Value.bool ((mayM d.ops copies first d.id copy).1)) rfl (wl_t rfl (o_not ((mayM d.ops copies first d.id copy).1) rfl (wl_s (o_pickF (Value.bool (!((mayM d.ops copies first d.id copy).1))) rfl rfl (wl_s (o_move (Value.bool (!((mayM d.ops copies first d.id copy).1))) rfl (?_))))))))
     cases hb8486 : (!((mayM d.ops copies first d.id copy).1))
     ·have hp8487 : ((mayM d.ops copies first d.id copy).1) = true := by first | simpa using hb8486 | (have e := hb8486; rw [Bool.not_eq_true'] at e; exact e) | (have e := hb8486; rw [Bool.not_eq_false'] at e; exact e) | (have e := hb8486; simp at e; omega)
      have hmay1 : (mayM d.ops copies first d.id copy).1 = true := hp8487
      refine wl_t rfl (o_move (vI ((actM d (⟨d.id, IntKind.i64.wrap (d.counter + (1 : Int)), (2 : Int), copy, (0 : Int), token⟩ : DeviceOp) (2 : Int)).2)) rfl (wl_t rfl (o_neq .i64 ((actM d (⟨d.id, IntKind.i64.wrap (d.counter + (1 : Int)), (2 : Int), copy, (0 : Int), token⟩ : DeviceOp) (2 : Int)).2) (0 : Int) rfl rfl (wl_s (o_pickF (Value.bool (((actM d (⟨d.id, IntKind.i64.wrap (d.counter + (1 : Int)), (2 : Int), copy, (0 : Int), token⟩ : DeviceOp) (2 : Int)).2) != (0 : Int))) rfl rfl (wl_nil (thenQ_n (?_))))))))
      refine cw_cond (((actM d (⟨d.id, IntKind.i64.wrap (d.counter + (1 : Int)), (2 : Int), copy, (0 : Int), token⟩ : DeviceOp) (2 : Int)).2) != (0 : Int)) rfl rfl (fun hc8488 => ?_) (fun hc8488 => ?_)
      ·have hp8489 : (actM d (⟨d.id, IntKind.i64.wrap (d.counter + (1 : Int)), (2 : Int), copy, (0 : Int), token⟩ : DeviceOp) (2 : Int)).2 ≠ (0 : Int) := by first | simpa using hc8488 | (have e := hc8488; simp at e; omega)
       refine cw_seq (?_)
       refine cw_region (by kernel_rfl) (wl_s (o_assign (Value.bool true) rfl (wl_nil (thenQ_n (?_)))))
       refine cw_ret (thenQ_r (end_r rfl (res1 rfl rfl rfl) (?_)))
       exact ⟨_, rfl, s8478.keep, rfl⟩
      ·have hp8490 : (actM d (⟨d.id, IntKind.i64.wrap (d.counter + (1 : Int)), (2 : Int), copy, (0 : Int), token⟩ : DeviceOp) (2 : Int)).2 = (0 : Int) := by first | simpa using hc8488 | (have e := hc8488; simp at e; omega)
       have hact : (actM d (⟨d.id, IntKind.i64.wrap (d.counter + (1 : Int)), (2 : Int), copy, (0 : Int), token⟩ : DeviceOp) (2 : Int)).2 = 0 := hp8490
       have hstop := stop_0 hact
       refine cw_skip (thenQ_n (?_))
       refine cw_cut (fun FI wI => ∃ (vrc18_17 : Value) (B : List Nat), True ∧ (∃ F1, FI = upds F1 [(1, vI copy), (17, vrc18_17), (116, undef)]) ∧ St w O wI B ∧ RdL Enc.int wI (B ++ O) vrc18_17 (burnX d copies first)) ?_ ?_
       ·refine cw_draw' 6 _ _ [isV (Value.agg #[vI (((actM d (⟨d.id, IntKind.i64.wrap (d.counter + (1 : Int)), (2 : Int), copy, (0 : Int), token⟩ : DeviceOp) (2 : Int)).1).id), vI (((actM d (⟨d.id, IntKind.i64.wrap (d.counter + (1 : Int)), (2 : Int), copy, (0 : Int), token⟩ : DeviceOp) (2 : Int)).1).counter), d8482, Value.bool (((actM d (⟨d.id, IntKind.i64.wrap (d.counter + (1 : Int)), (2 : Int), copy, (0 : Int), token⟩ : DeviceOp) (2 : Int)).1).halted)]), fun (vT : Value) (wT : World) => ∃ csT : List Value, vT = .agg csT.toArray ∧ Enc.device.rd wT ((b8469 :: (b8427 :: [])) ++ O) csT (d), fun (vT : Value) (wT : World) => RdL Enc.devop wT ((b8469 :: (b8427 :: [])) ++ O) vT (d.ops), fun (vT : Value) (wT : World) => ∃ csT : List Value, vT = .agg csT.toArray ∧ Enc.device.rd wT ((b8469 :: (b8427 :: [])) ++ O) csT (restoreM ((actM d (⟨d.id, IntKind.i64.wrap (d.counter + (1 : Int)), (2 : Int), copy, (0 : Int), token⟩ : DeviceOp) (2 : Int)).1) d.ops), isV (vI copies), isV (vI first)] (by kernel_rfl) (by kernel_rfl) (by kernel_rfl) (by kernel_rfl) rfl rfl ⟨kI, fun _ _ _ ⟨a, e, h⟩ k => ⟨a, e, Enc.mv _ h (Mv.of_keep k)⟩, fun _ _ _ h k => h.mv (Mv.of_keep k), fun _ _ _ ⟨a, e, h⟩ k => ⟨a, e, Enc.mv _ h (Mv.of_keep k)⟩, kI, kI, trivial⟩ ⟨?_, ?_, ?_, ?_, ?_, ?_, trivial⟩ ?_
        ·intro F1 w1 k1 hf hd
         have k0 := (Keep.drew [] w8477).trans k1
         have bx8481 := bx8481.keep k0 (by simp)
         obtain ⟨F2, rfl⟩ := lit_of (F := F1) [(15, Value.pointer (some ⟨b8469, 0, none⟩))] ⟨hf 15 (by kernel_rfl), trivial⟩
         exact sp_plain rfl ((o_loadBxA (vs := [vI (((actM d (⟨d.id, IntKind.i64.wrap (d.counter + (1 : Int)), (2 : Int), copy, (0 : Int), token⟩ : DeviceOp) (2 : Int)).1).id), vI (((actM d (⟨d.id, IntKind.i64.wrap (d.counter + (1 : Int)), (2 : Int), copy, (0 : Int), token⟩ : DeviceOp) (2 : Int)).1).counter), d8482, Value.bool (((actM d (⟨d.id, IntKind.i64.wrap (d.counter + (1 : Int)), (2 : Int), copy, (0 : Int), token⟩ : DeviceOp) (2 : Int)).1).halted)]) Try.underlying31 rfl s_31 rfl bx8481 rfl (⟨(Keep.refl _ _), rfl⟩)))
        ·intro F1 w1 k1 hf hd
         have k0 := (Keep.drew [] w8477).trans k1
         have m1 : Mv (b8469 :: (b8427 :: [])) w8477 (b8469 :: (b8427 :: [])) w1 := Mv.of_keep k0
         have hp8395 := hp8395.mv m1
         obtain ⟨F2, rfl⟩ := lit_of (F := F1) [(5, Value.pointer (some a8390))] ⟨hf 5 (by kernel_rfl), trivial⟩
         exact sp_plain rfl ((o_loadS Try.underlying31 rfl s_31 rfl hp8395 fun cs8491 hs8492 => (⟨(Keep.refl _ _), ⟨cs8491, rfl, hs8492⟩⟩)))
        ·intro F1 w1 k1 hf hd
         have k0 := (Keep.drew [] w8477).trans k1
         have s1 := s8478.call k0
         obtain ⟨cs8493, e8495, hs8494⟩ : ∃ cs : List Value, F1 80 = .agg cs.toArray ∧ Enc.device.rd w1 ((b8469 :: (b8427 :: [])) ++ O) cs (d) := hd 1 80 (by kernel_rfl)
         obtain ⟨F2, rfl⟩ := lit_of (F := F1) [(80, Value.agg cs8493.toArray)] ⟨e8495, trivial⟩
         refine sp_plain rfl ((o_callK (vs := [Value.agg cs8493.toArray]) enter_46 (c_backup (O := (b8469 :: (b8427 :: [])) ++ O) cs8493 d w1 hs8494 (by first | omega | assumption | (simp; done)) s1.lt) rfl s1 fun v8496 w8497 s8498 m8499 k8500 r8501 => (?_)))
         obtain ⟨_, rfl, hl8502⟩ := r8501
         have := hl8502.len_le
         exact ⟨k8500, hl8502⟩
        ·intro F1 w1 k1 hf hd
         have k0 := (Keep.drew [] w8477).trans k1
         have s1 := s8478.call k0
         have m1 : Mv (b8469 :: (b8427 :: [])) w8477 (b8469 :: (b8427 :: [])) w1 := Mv.of_keep k0
         have hd8483 := hd8483.mv m1
         obtain ⟨v8503, e8505, hl8504⟩ : ∃ v, F1 81 = v ∧ RdL Enc.devop w1 ((b8469 :: (b8427 :: [])) ++ O) v (d.ops) := ⟨_, rfl, hd 2 81 (by kernel_rfl)⟩
         have := hl8504.len_le
         obtain ⟨F2, rfl⟩ := lit_of (F := F1) [(79, Value.agg #[vI (((actM d (⟨d.id, IntKind.i64.wrap (d.counter + (1 : Int)), (2 : Int), copy, (0 : Int), token⟩ : DeviceOp) (2 : Int)).1).id), vI (((actM d (⟨d.id, IntKind.i64.wrap (d.counter + (1 : Int)), (2 : Int), copy, (0 : Int), token⟩ : DeviceOp) (2 : Int)).1).counter), d8482, Value.bool (((actM d (⟨d.id, IntKind.i64.wrap (d.counter + (1 : Int)), (2 : Int), copy, (0 : Int), token⟩ : DeviceOp) (2 : Int)).1).halted)]), (81, v8503)] ⟨hd 0 79 (by kernel_rfl), e8505, trivial⟩
         refine sp_plain rfl ((o_callK (vs := [Value.agg #[vI (((actM d (⟨d.id, IntKind.i64.wrap (d.counter + (1 : Int)), (2 : Int), copy, (0 : Int), token⟩ : DeviceOp) (2 : Int)).1).id), vI (((actM d (⟨d.id, IntKind.i64.wrap (d.counter + (1 : Int)), (2 : Int), copy, (0 : Int), token⟩ : DeviceOp) (2 : Int)).1).counter), d8482, Value.bool (((actM d (⟨d.id, IntKind.i64.wrap (d.counter + (1 : Int)), (2 : Int), copy, (0 : Int), token⟩ : DeviceOp) (2 : Int)).1).halted)], v8503]) enter_47 (c_restore (O := (b8469 :: (b8427 :: [])) ++ O) [vI (((actM d (⟨d.id, IntKind.i64.wrap (d.counter + (1 : Int)), (2 : Int), copy, (0 : Int), token⟩ : DeviceOp) (2 : Int)).1).id), vI (((actM d (⟨d.id, IntKind.i64.wrap (d.counter + (1 : Int)), (2 : Int), copy, (0 : Int), token⟩ : DeviceOp) (2 : Int)).1).counter), d8482, Value.bool (((actM d (⟨d.id, IntKind.i64.wrap (d.counter + (1 : Int)), (2 : Int), copy, (0 : Int), token⟩ : DeviceOp) (2 : Int)).1).halted)] ((actM d (⟨d.id, IntKind.i64.wrap (d.counter + (1 : Int)), (2 : Int), copy, (0 : Int), token⟩ : DeviceOp) (2 : Int)).1) v8503 d.ops w1 ⟨_, rfl, hd8483⟩ hl8504 (by first | omega | assumption | (simp; done)) s1.lt) rfl s1 fun v8506 w8507 s8508 m8509 k8510 r8511 => (?_)))
         obtain ⟨cs8512, rfl, hs8513⟩ := r8511
         exact ⟨k8510, ⟨cs8512, rfl, hs8513⟩⟩
        ·intro F1 w1 k1 hf hd
         obtain ⟨F2, rfl⟩ := lit_of (F := F1) [(3, vI copies)] ⟨hf 3 (by kernel_rfl), trivial⟩
         exact sp_plain rfl ((o_move (vI copies) rfl (⟨(Keep.refl _ _), rfl⟩)))
        ·intro F1 w1 k1 hf hd
         obtain ⟨F2, rfl⟩ := lit_of (F := F1) [(4, vI first)] ⟨hf 4 (by kernel_rfl), trivial⟩
         exact sp_plain rfl ((o_move (vI first) rfl (⟨(Keep.refl _ _), rfl⟩)))
        intro F8515 w8516 k8514 hT8517 hF8518
        have s8519 := s8478.call k8514
        obtain ⟨cs8523, e8525, hs8524⟩ : ∃ cs : List Value, F8515 82 = .agg cs.toArray ∧ Enc.device.rd w8516 ((b8469 :: (b8427 :: [])) ++ O) cs (restoreM ((actM d (⟨d.id, IntKind.i64.wrap (d.counter + (1 : Int)), (2 : Int), copy, (0 : Int), token⟩ : DeviceOp) (2 : Int)).1) d.ops) := hT8517 3 82 (by kernel_rfl) (by decide)
        obtain ⟨F2, rfl⟩ := lit_of (F := F8515) [(1, vI copy), (116, undef), (82, Value.agg cs8523.toArray), (83, vI copies), (84, vI first)] ⟨hF8518 1 (by kernel_rfl), hF8518 116 (by kernel_rfl), e8525, hT8517 4 83 (by kernel_rfl) (by decide), hT8517 5 84 (by kernel_rfl) (by decide), trivial⟩
        clear hT8517 hF8518
        refine wl_s (o_callK (vs := [Value.agg cs8523.toArray, vI copies, vI first]) enter_50 (c_burnt (O := (b8469 :: (b8427 :: [])) ++ O) cs8523 (restoreM ((actM d (⟨d.id, IntKind.i64.wrap (d.counter + (1 : Int)), (2 : Int), copy, (0 : Int), token⟩ : DeviceOp) (2 : Int)).1) d.ops) copies first w8516 hs8524 s8519.lt) rfl s8519 fun v8526 w8527 s8528 m8529 k8530 r8531 => (?_))
        obtain ⟨_, rfl, hl8532⟩ := r8531
        have := hl8532.len_le
        refine wl_s (o_assign (v8526) rfl (wl_nil (thenQ_n (?_))))
        exact ⟨v8526, (b8469 :: (b8427 :: [])), trivial, ⟨_, upds_self _ ⟨rfl, rfl, rfl, trivial⟩⟩, s8528, (by rw [show burnX d copies first = burntM (restoreM ((actM d (⟨d.id, IntKind.i64.wrap (d.counter + (1 : Int)), (2 : Int), copy, (0 : Int), token⟩ : DeviceOp) (2 : Int)).1) d.ops) copies first from by unfold burnX; rw [stop_x hact (by decide)]]; exact hl8532)⟩
       ·intro F wlc18 hI
        obtain ⟨vrc18_17, Blc18, hmc18, ⟨Flc18, rfl⟩, slc18, hrdc18_17⟩ := hI
        have := hrdc18_17.len_le
        refine cw_seq (?_)
        refine cw_region (by kernel_rfl) (wl_s (o_assign (Value.bool false) rfl (wl_nil (thenQ_n (?_)))))
        refine cw_seq (?_)
        refine cw_seq (?_)
        refine cw_region (by kernel_rfl) (wl_s (o_assign (vI (0 : Int)) rfl (wl_nil (thenQ_n (?_)))))
        refine cw_block (?_)
        refine cw_loop (fun mI FI wI => ∃ (k : Nat) (B : List Nat), k ≤ (burnX d copies first).length ∧ mI = (burnX d copies first).length - k ∧ (∃ F1, FI = upds F1 [(1, vI copy), (17, vrc18_17), (18, Value.bool (metM (burnX d copies first) copy k)), (19, vI ((k : Nat) : Int)), (116, undef)]) ∧ St w O wI B ∧ RdL Enc.int wI (B ++ O) (vrc18_17) (burnX d copies first)) ((burnX d copies first).length - (0)) ?_ ?_
        ·exact ⟨(0), Blc18, (by omega), rfl, ⟨_, upds_self _ ⟨rfl, rfl, (congrArg Value.bool (by first | rfl | (exact (met_zero _ _).symm))), (by first | rfl | exact congrArg (Value.int _) (by first | omega | (simp))), rfl, trivial⟩⟩, slc18, hrdc18_17⟩
        ·intro ml0 F wl0 hI
         clear hrdc18_17
         obtain ⟨k, Bl0, hr0_0, hm0, ⟨Fl0, rfl⟩, sl0, hrdc18_17⟩ := hI
         refine cw_seq (?_)
         refine cw_seq (?_)
         refine cw_region (by kernel_rfl) (wl_s (o_move (vI ((k : Nat) : Int)) rfl (wl_s (o_move (vrc18_17) rfl (wl_s (o_lenR Try.underlying27 rfl hrdc18_17 (wl_s (o_lss .i64 ((k : Nat) : Int) ((burnX d copies first).length : Int) rfl rfl (wl_nil (thenQ_n (?_)))))))))))
         refine cw_cond (decide (((k : Nat) : Int) < ((burnX d copies first).length : Int))) rfl rfl (fun hc8533 => ?_) (fun hc8533 => ?_)
         ·have hp8534 : ((k : Nat) : Int) < ((burnX d copies first).length : Int) := by first | simpa using hc8533 | (have e := hc8533; simp at e; omega)
          refine cw_skip (thenQ_n (?_))
          refine cw_seq (?_)
          refine cw_block (?_)
          refine cw_seq (?_)
          refine cw_region (by kernel_rfl) (wl_s (o_move (Value.bool (metM (burnX d copies first) copy k)) rfl (wl_s (o_move (Value.bool (metM (burnX d copies first) copy k)) rfl (?_)))))
          cases hb8535 : (metM (burnX d copies first) copy k)
          ·have hp8536 : (metM (burnX d copies first) copy k) = false := by first | simpa using hb8535 | (have e := hb8535; simp at e; omega)
           refine wl_t rfl (o_move (vrc18_17) rfl (wl_t rfl (o_move (vI ((k : Nat) : Int)) rfl (wl_t rfl (o_idx Try.underlying27 s_3 .i64 ((k : Nat) : Int) k rfl rfl rfl hrdc18_17 (by omega) fun a8537 hp8538 => (wl_t rfl (o_loadI Try.underlying3 rfl rfl hp8538 (wl_t rfl (o_move (vI copy) rfl (wl_t rfl (o_eql .i64 ((burnX d copies first)[k]!) copy rfl rfl (wl_s (o_pickF (Value.bool (((burnX d copies first)[k]!) == copy)) rfl rfl (wl_s (o_assign (Value.bool (((burnX d copies first)[k]!) == copy)) rfl (wl_nil (thenQ_n (?_))))))))))))))))))
           refine cw_seq (?_)
           cases hb8539 : (decide ((0 : Int) < ((k : Nat) : Int)))
           ·have hp8540 : ((k : Nat) : Int) ≤ (0 : Int) := by first | simpa using hb8539 | (have e := hb8539; simp at e; omega)
            refine cw_draw' 12 _ _ [isV (vI ((k : Nat) : Int)), isV (Value.bool false), isV (Value.bool false), isV undef, isV undef, isV undef, isV undef, isV undef, isV undef, isV undef, isV undef, isV undef] (by kernel_rfl) (by kernel_rfl) (by kernel_rfl) (by kernel_rfl) rfl rfl ⟨kI, kI, kI, kI, kI, kI, kI, kI, kI, kI, kI, kI, trivial⟩ ⟨?_, ?_, ?_, ?_, ?_, ?_, ?_, ?_, ?_, ?_, ?_, ?_, trivial⟩ ?_
            ·intro F1 w1 k1 hf hd
             obtain ⟨F2, rfl⟩ := lit_of (F := F1) [(19, vI ((k : Nat) : Int))] ⟨hf 19 (by kernel_rfl), trivial⟩
             exact sp_plain rfl ((o_move (vI ((k : Nat) : Int)) rfl (⟨(Keep.refl _ _), rfl⟩)))
            ·intro F1 w1 k1 hf hd
             obtain ⟨F2, rfl⟩ := lit_of (F := F1) [(101, vI ((k : Nat) : Int))] ⟨hd 0 101 (by kernel_rfl), trivial⟩
             refine sp_plain rfl ((o_gtr .i64 ((k : Nat) : Int) (0 : Int) rfl rfl (?_)))
             exact ⟨(Keep.refl _ _), congrArg Value.bool (hb8539)⟩
            ·intro F1 w1 k1 hf hd
             obtain ⟨F2, rfl⟩ := lit_of (F := F1) [(102, Value.bool false)] ⟨hd 1 102 (by kernel_rfl), trivial⟩
             exact sp_plain rfl ((o_move (Value.bool false) rfl (⟨(Keep.refl _ _), rfl⟩)))
            ·intro F1 w1 k1 hf hd
             exact sp_skipD rfl rfl (hd 2 103 (by kernel_rfl)) rfl rfl
            ·intro F1 w1 k1 hf hd
             exact sp_skipD rfl rfl (hd 2 103 (by kernel_rfl)) rfl rfl
            ·intro F1 w1 k1 hf hd
             exact sp_skipD rfl rfl (hd 2 103 (by kernel_rfl)) rfl rfl
            ·intro F1 w1 k1 hf hd
             exact sp_skipD rfl rfl (hd 2 103 (by kernel_rfl)) rfl rfl
            ·intro F1 w1 k1 hf hd
             exact sp_skipD rfl rfl (hd 2 103 (by kernel_rfl)) rfl rfl
            ·intro F1 w1 k1 hf hd
             exact sp_skipD rfl rfl (hd 2 103 (by kernel_rfl)) rfl rfl
            ·intro F1 w1 k1 hf hd
             exact sp_skipD rfl rfl (hd 2 103 (by kernel_rfl)) rfl rfl
            ·intro F1 w1 k1 hf hd
             exact sp_skipD rfl rfl (hd 2 103 (by kernel_rfl)) rfl rfl
            ·intro F1 w1 k1 hf hd
             exact sp_skipD rfl rfl (hd 2 103 (by kernel_rfl)) rfl rfl
            intro F8542 w8543 k8541 hT8544 hF8545
            have s8546 := sl0.call k8541
            have m8547 : Mv Bl0 wl0 Bl0 w8543 := Mv.of_keep k8541
            have hrdc18_17 := hrdc18_17.mv m8547
            obtain ⟨F2, rfl⟩ := lit_of (F := F8542) [(1, vI copy), (17, vrc18_17), (18, Value.bool (((burnX d copies first)[k]!) == copy)), (19, vI ((k : Nat) : Int)), (116, undef), (103, Value.bool false)] ⟨hF8545 1 (by kernel_rfl), hF8545 17 (by kernel_rfl), hF8545 18 (by kernel_rfl), hF8545 19 (by kernel_rfl), hF8545 116 (by kernel_rfl), hT8544 2 103 (by kernel_rfl) (by decide), trivial⟩
            clear hT8544 hF8545
            refine wl_k rfl (wl_s (o_pickF (Value.bool false) rfl rfl (wl_nil (thenQ_n (?_)))))
            refine cw_cond false rfl rfl (fun h => by cases h) (fun _ => ?_)
            refine cw_skip (blockQ_n (thenQ_n (?_)))
            refine cw_region (by kernel_rfl) (wl_s (o_move (vI ((k : Nat) : Int)) rfl (wl_s (o_add .i64 ((k : Nat) : Int) (1 : Int) (((k + 1 : Nat) : Int)) rfl rfl (w64 (by omega) (by omega)) (wl_s (o_assign (vI ((k + 1 : Nat) : Int)) rfl (wl_nil (thenQ_n (?_)))))))))
            exact ⟨_, (by omega), (k + 1), Bl0, (by omega), rfl, ⟨_, upds_self _ ⟨rfl, rfl, (congrArg Value.bool (by first | rfl | (rw [met_succ (by omega)]; simp [*]))), (by first | rfl | exact congrArg (Value.int _) (by first | omega | (simp))), rfl, trivial⟩⟩, s8546, hrdc18_17⟩
           ·have hp8550 : (0 : Int) < ((k : Nat) : Int) := by first | simpa using hb8539 | (have e := hb8539; simp at e; omega)
            refine cw_draw' 12 _ _ [isV (vI ((k : Nat) : Int)), isV (Value.bool true), isV (Value.bool true), fun (vT : Value) (wT : World) => RdL Enc.int wT (Bl0 ++ O) vT (burnX d copies first), isV (vI ((k : Nat) : Int)), isV (vI ((k - 1 : Nat) : Int)), fun (vT : Value) (wT : World) => ∃ aT, vT = .pointer (some aT) ∧ PT Enc.int wT (Bl0 ++ O) (.pointer (some aT)) ((burnX d copies first)[k - 1]!), isV (vI ((burnX d copies first)[k - 1]!)), fun (vT : Value) (wT : World) => RdL Enc.int wT (Bl0 ++ O) vT (burnX d copies first), isV (vI ((k : Nat) : Int)), fun (vT : Value) (wT : World) => ∃ aT, vT = .pointer (some aT) ∧ PT Enc.int wT (Bl0 ++ O) (.pointer (some aT)) ((burnX d copies first)[k]!), isV (vI ((burnX d copies first)[k]!))] (by kernel_rfl) (by kernel_rfl) (by kernel_rfl) (by kernel_rfl) rfl rfl ⟨kI, kI, kI, fun _ _ _ h k => h.mv (Mv.of_keep k), kI, kI, fun _ _ _ ⟨a, e, h⟩ k => ⟨a, e, h.mv (Mv.of_keep k)⟩, kI, fun _ _ _ h k => h.mv (Mv.of_keep k), kI, fun _ _ _ ⟨a, e, h⟩ k => ⟨a, e, h.mv (Mv.of_keep k)⟩, kI, trivial⟩ ⟨?_, ?_, ?_, ?_, ?_, ?_, ?_, ?_, ?_, ?_, ?_, ?_, trivial⟩ ?_
            ·intro F1 w1 k1 hf hd
             obtain ⟨F2, rfl⟩ := lit_of (F := F1) [(19, vI ((k : Nat) : Int))] ⟨hf 19 (by kernel_rfl), trivial⟩
             exact sp_plain rfl ((o_move (vI ((k : Nat) : Int)) rfl (⟨(Keep.refl _ _), rfl⟩)))
            ·intro F1 w1 k1 hf hd
             obtain ⟨F2, rfl⟩ := lit_of (F := F1) [(101, vI ((k : Nat) : Int))] ⟨hd 0 101 (by kernel_rfl), trivial⟩
             refine sp_plain rfl ((o_gtr .i64 ((k : Nat) : Int) (0 : Int) rfl rfl (?_)))
             exact ⟨(Keep.refl _ _), congrArg Value.bool (hb8539)⟩
            ·intro F1 w1 k1 hf hd
             obtain ⟨F2, rfl⟩ := lit_of (F := F1) [(102, Value.bool true)] ⟨hd 1 102 (by kernel_rfl), trivial⟩
             exact sp_plain rfl ((o_move (Value.bool true) rfl (⟨(Keep.refl _ _), rfl⟩)))
            ·intro F1 w1 k1 hf hd
             have k0 := (Keep.drew [] wl0).trans k1
             have m1 : Mv Bl0 wl0 Bl0 w1 := Mv.of_keep k0
             have hrdc18_17 := hrdc18_17.mv m1
             obtain ⟨F2, rfl⟩ := lit_of (F := F1) [(17, vrc18_17), (103, Value.bool true)] ⟨hf 17 (by kernel_rfl), hd 2 103 (by kernel_rfl), trivial⟩
             exact sp_take rfl rfl ((o_move (vrc18_17) rfl (⟨(Keep.refl _ _), hrdc18_17⟩)))
            ·intro F1 w1 k1 hf hd
             obtain ⟨F2, rfl⟩ := lit_of (F := F1) [(19, vI ((k : Nat) : Int)), (103, Value.bool true)] ⟨hf 19 (by kernel_rfl), hd 2 103 (by kernel_rfl), trivial⟩
             exact sp_take rfl rfl ((o_move (vI ((k : Nat) : Int)) rfl (⟨(Keep.refl _ _), rfl⟩)))
            ·intro F1 w1 k1 hf hd
             obtain ⟨F2, rfl⟩ := lit_of (F := F1) [(103, Value.bool true), (105, vI ((k : Nat) : Int))] ⟨hd 2 103 (by kernel_rfl), hd 4 105 (by kernel_rfl), trivial⟩
             exact sp_take rfl rfl ((o_sub .i64 ((k : Nat) : Int) (1 : Int) (((k - 1 : Nat) : Int)) rfl rfl (w64 (by omega) (by omega)) (⟨(Keep.refl _ _), rfl⟩)))
            ·intro F1 w1 k1 hf hd
             obtain ⟨v8551, e8553, hl8552⟩ : ∃ v, F1 104 = v ∧ RdL Enc.int w1 (Bl0 ++ O) v (burnX d copies first) := ⟨_, rfl, hd 3 104 (by kernel_rfl)⟩
             have := hl8552.len_le
             obtain ⟨F2, rfl⟩ := lit_of (F := F1) [(103, Value.bool true), (104, v8551), (106, vI ((k - 1 : Nat) : Int))] ⟨hd 2 103 (by kernel_rfl), e8553, hd 5 106 (by kernel_rfl), trivial⟩
             exact sp_take rfl rfl ((o_idx Try.underlying27 s_3 .i64 ((k - 1 : Nat) : Int) (k - 1) rfl rfl rfl hl8552 (by omega) fun a8554 hp8555 => (⟨(Keep.refl _ _), ⟨a8554, rfl, hp8555⟩⟩)))
            ·intro F1 w1 k1 hf hd
             obtain ⟨a8556, e8558, hp8557⟩ : ∃ aX_, F1 107 = .pointer (some aX_) ∧ PT Enc.int w1 (Bl0 ++ O) (.pointer (some aX_)) ((burnX d copies first)[k - 1]!) := hd 6 107 (by kernel_rfl)
             obtain ⟨F2, rfl⟩ := lit_of (F := F1) [(103, Value.bool true), (107, Value.pointer (some a8556))] ⟨hd 2 103 (by kernel_rfl), e8558, trivial⟩
             exact sp_take rfl rfl ((o_loadI Try.underlying3 rfl rfl hp8557 (⟨(Keep.refl _ _), rfl⟩)))
            ·intro F1 w1 k1 hf hd
             have k0 := (Keep.drew [] wl0).trans k1
             have m1 : Mv Bl0 wl0 Bl0 w1 := Mv.of_keep k0
             have hrdc18_17 := hrdc18_17.mv m1
             obtain ⟨F2, rfl⟩ := lit_of (F := F1) [(17, vrc18_17), (103, Value.bool true)] ⟨hf 17 (by kernel_rfl), hd 2 103 (by kernel_rfl), trivial⟩
             exact sp_take rfl rfl ((o_move (vrc18_17) rfl (⟨(Keep.refl _ _), hrdc18_17⟩)))
            ·intro F1 w1 k1 hf hd
             obtain ⟨F2, rfl⟩ := lit_of (F := F1) [(19, vI ((k : Nat) : Int)), (103, Value.bool true)] ⟨hf 19 (by kernel_rfl), hd 2 103 (by kernel_rfl), trivial⟩
             exact sp_take rfl rfl ((o_move (vI ((k : Nat) : Int)) rfl (⟨(Keep.refl _ _), rfl⟩)))
            ·intro F1 w1 k1 hf hd
             obtain ⟨v8559, e8561, hl8560⟩ : ∃ v, F1 109 = v ∧ RdL Enc.int w1 (Bl0 ++ O) v (burnX d copies first) := ⟨_, rfl, hd 8 109 (by kernel_rfl)⟩
             have := hl8560.len_le
             obtain ⟨F2, rfl⟩ := lit_of (F := F1) [(103, Value.bool true), (109, v8559), (110, vI ((k : Nat) : Int))] ⟨hd 2 103 (by kernel_rfl), e8561, hd 9 110 (by kernel_rfl), trivial⟩
             exact sp_take rfl rfl ((o_idx Try.underlying27 s_3 .i64 ((k : Nat) : Int) k rfl rfl rfl hl8560 (by omega) fun a8562 hp8563 => (⟨(Keep.refl _ _), ⟨a8562, rfl, hp8563⟩⟩)))
            ·intro F1 w1 k1 hf hd
             obtain ⟨a8564, e8566, hp8565⟩ : ∃ aX_, F1 111 = .pointer (some aX_) ∧ PT Enc.int w1 (Bl0 ++ O) (.pointer (some aX_)) ((burnX d copies first)[k]!) := hd 10 111 (by kernel_rfl)
             obtain ⟨F2, rfl⟩ := lit_of (F := F1) [(103, Value.bool true), (111, Value.pointer (some a8564))] ⟨hd 2 103 (by kernel_rfl), e8566, trivial⟩
             exact sp_take rfl rfl ((o_loadI Try.underlying3 rfl rfl hp8565 (⟨(Keep.refl _ _), rfl⟩)))
            intro F8568 w8569 k8567 hT8570 hF8571
            have s8572 := sl0.call k8567
            have m8573 : Mv Bl0 wl0 Bl0 w8569 := Mv.of_keep k8567
            have hrdc18_17 := hrdc18_17.mv m8573
            obtain ⟨F2, rfl⟩ := lit_of (F := F8568) [(1, vI copy), (17, vrc18_17), (18, Value.bool (((burnX d copies first)[k]!) == copy)), (19, vI ((k : Nat) : Int)), (116, undef), (103, Value.bool true), (108, vI ((burnX d copies first)[k - 1]!)), (112, vI ((burnX d copies first)[k]!))] ⟨hF8571 1 (by kernel_rfl), hF8571 17 (by kernel_rfl), hF8571 18 (by kernel_rfl), hF8571 19 (by kernel_rfl), hF8571 116 (by kernel_rfl), hT8570 2 103 (by kernel_rfl) (by decide), hT8570 7 108 (by kernel_rfl) (by decide), hT8570 11 112 (by kernel_rfl) (by decide), trivial⟩
            clear hT8570 hF8571
            refine wl_t rfl (o_geq .i64 ((burnX d copies first)[k - 1]!) ((burnX d copies first)[k]!) rfl rfl (wl_s (o_pickT (Value.bool (decide ((burnX d copies first)[k]! ≤ (burnX d copies first)[k - 1]!))) rfl rfl (wl_nil (thenQ_n (?_))))))
            have hb8576 : (decide ((burnX d copies first)[k]! ≤ (burnX d copies first)[k - 1]!)) = false := (decide_eq_false (by have := burnX_inc hstop hms (k := k) (by omega) (by omega); omega))
            rw [hb8576]
            refine cw_cond false rfl rfl (fun h => by cases h) (fun _ => ?_)
            refine cw_skip (blockQ_n (thenQ_n (?_)))
            refine cw_region (by kernel_rfl) (wl_s (o_move (vI ((k : Nat) : Int)) rfl (wl_s (o_add .i64 ((k : Nat) : Int) (1 : Int) (((k + 1 : Nat) : Int)) rfl rfl (w64 (by omega) (by omega)) (wl_s (o_assign (vI ((k + 1 : Nat) : Int)) rfl (wl_nil (thenQ_n (?_)))))))))
            exact ⟨_, (by omega), (k + 1), Bl0, (by omega), rfl, ⟨_, upds_self _ ⟨rfl, rfl, (congrArg Value.bool (by first | rfl | (rw [met_succ (by omega)]; simp [*]))), (by first | rfl | exact congrArg (Value.int _) (by first | omega | (simp))), rfl, trivial⟩⟩, s8572, hrdc18_17⟩
          ·have hp8577 : (metM (burnX d copies first) copy k) = true := by first | simpa using hb8535 | (have e := hb8535; simp at e; omega)
           refine wl_k rfl (wl_k rfl (wl_k rfl (wl_k rfl (wl_k rfl (wl_k rfl (wl_s (o_pickT (Value.bool true) rfl rfl (wl_s (o_assign (Value.bool true) rfl (wl_nil (thenQ_n (?_))))))))))))
           refine cw_seq (?_)
           cases hb8578 : (decide ((0 : Int) < ((k : Nat) : Int)))
           ·have hp8579 : ((k : Nat) : Int) ≤ (0 : Int) := by first | simpa using hb8578 | (have e := hb8578; simp at e; omega)
            refine cw_draw' 12 _ _ [isV (vI ((k : Nat) : Int)), isV (Value.bool false), isV (Value.bool false), isV undef, isV undef, isV undef, isV undef, isV undef, isV undef, isV undef, isV undef, isV undef] (by kernel_rfl) (by kernel_rfl) (by kernel_rfl) (by kernel_rfl) rfl rfl ⟨kI, kI, kI, kI, kI, kI, kI, kI, kI, kI, kI, kI, trivial⟩ ⟨?_, ?_, ?_, ?_, ?_, ?_, ?_, ?_, ?_, ?_, ?_, ?_, trivial⟩ ?_
            ·intro F1 w1 k1 hf hd
             obtain ⟨F2, rfl⟩ := lit_of (F := F1) [(19, vI ((k : Nat) : Int))] ⟨hf 19 (by kernel_rfl), trivial⟩
             exact sp_plain rfl ((o_move (vI ((k : Nat) : Int)) rfl (⟨(Keep.refl _ _), rfl⟩)))
            ·intro F1 w1 k1 hf hd
             obtain ⟨F2, rfl⟩ := lit_of (F := F1) [(101, vI ((k : Nat) : Int))] ⟨hd 0 101 (by kernel_rfl), trivial⟩
             refine sp_plain rfl ((o_gtr .i64 ((k : Nat) : Int) (0 : Int) rfl rfl (?_)))
             exact ⟨(Keep.refl _ _), congrArg Value.bool (hb8578)⟩
            ·intro F1 w1 k1 hf hd
             obtain ⟨F2, rfl⟩ := lit_of (F := F1) [(102, Value.bool false)] ⟨hd 1 102 (by kernel_rfl), trivial⟩
             exact sp_plain rfl ((o_move (Value.bool false) rfl (⟨(Keep.refl _ _), rfl⟩)))
            ·intro F1 w1 k1 hf hd
             exact sp_skipD rfl rfl (hd 2 103 (by kernel_rfl)) rfl rfl
            ·intro F1 w1 k1 hf hd
             exact sp_skipD rfl rfl (hd 2 103 (by kernel_rfl)) rfl rfl
            ·intro F1 w1 k1 hf hd
             exact sp_skipD rfl rfl (hd 2 103 (by kernel_rfl)) rfl rfl
            ·intro F1 w1 k1 hf hd
             exact sp_skipD rfl rfl (hd 2 103 (by kernel_rfl)) rfl rfl
            ·intro F1 w1 k1 hf hd
             exact sp_skipD rfl rfl (hd 2 103 (by kernel_rfl)) rfl rfl
            ·intro F1 w1 k1 hf hd
             exact sp_skipD rfl rfl (hd 2 103 (by kernel_rfl)) rfl rfl
            ·intro F1 w1 k1 hf hd
             exact sp_skipD rfl rfl (hd 2 103 (by kernel_rfl)) rfl rfl
            ·intro F1 w1 k1 hf hd
             exact sp_skipD rfl rfl (hd 2 103 (by kernel_rfl)) rfl rfl
            ·intro F1 w1 k1 hf hd
             exact sp_skipD rfl rfl (hd 2 103 (by kernel_rfl)) rfl rfl
            intro F8581 w8582 k8580 hT8583 hF8584
            have s8585 := sl0.call k8580
            have m8586 : Mv Bl0 wl0 Bl0 w8582 := Mv.of_keep k8580
            have hrdc18_17 := hrdc18_17.mv m8586
            obtain ⟨F2, rfl⟩ := lit_of (F := F8581) [(1, vI copy), (17, vrc18_17), (18, Value.bool true), (19, vI ((k : Nat) : Int)), (116, undef), (103, Value.bool false)] ⟨hF8584 1 (by kernel_rfl), hF8584 17 (by kernel_rfl), hF8584 18 (by kernel_rfl), hF8584 19 (by kernel_rfl), hF8584 116 (by kernel_rfl), hT8583 2 103 (by kernel_rfl) (by decide), trivial⟩
            clear hT8583 hF8584
            refine wl_k rfl (wl_s (o_pickF (Value.bool false) rfl rfl (wl_nil (thenQ_n (?_)))))
            refine cw_cond false rfl rfl (fun h => by cases h) (fun _ => ?_)
            refine cw_skip (blockQ_n (thenQ_n (?_)))
            refine cw_region (by kernel_rfl) (wl_s (o_move (vI ((k : Nat) : Int)) rfl (wl_s (o_add .i64 ((k : Nat) : Int) (1 : Int) (((k + 1 : Nat) : Int)) rfl rfl (w64 (by omega) (by omega)) (wl_s (o_assign (vI ((k + 1 : Nat) : Int)) rfl (wl_nil (thenQ_n (?_)))))))))
            exact ⟨_, (by omega), (k + 1), Bl0, (by omega), rfl, ⟨_, upds_self _ ⟨rfl, rfl, (congrArg Value.bool (by first | rfl | (rw [met_succ (by omega)]; simp [*]))), (by first | rfl | exact congrArg (Value.int _) (by first | omega | (simp))), rfl, trivial⟩⟩, s8585, hrdc18_17⟩
           ·have hp8589 : (0 : Int) < ((k : Nat) : Int) := by first | simpa using hb8578 | (have e := hb8578; simp at e; omega)
            refine cw_draw' 12 _ _ [isV (vI ((k : Nat) : Int)), isV (Value.bool true), isV (Value.bool true), fun (vT : Value) (wT : World) => RdL Enc.int wT (Bl0 ++ O) vT (burnX d copies first), isV (vI ((k : Nat) : Int)), isV (vI ((k - 1 : Nat) : Int)), fun (vT : Value) (wT : World) => ∃ aT, vT = .pointer (some aT) ∧ PT Enc.int wT (Bl0 ++ O) (.pointer (some aT)) ((burnX d copies first)[k - 1]!), isV (vI ((burnX d copies first)[k - 1]!)), fun (vT : Value) (wT : World) => RdL Enc.int wT (Bl0 ++ O) vT (burnX d copies first), isV (vI ((k : Nat) : Int)), fun (vT : Value) (wT : World) => ∃ aT, vT = .pointer (some aT) ∧ PT Enc.int wT (Bl0 ++ O) (.pointer (some aT)) ((burnX d copies first)[k]!), isV (vI ((burnX d copies first)[k]!))] (by kernel_rfl) (by kernel_rfl) (by kernel_rfl) (by kernel_rfl) rfl rfl ⟨kI, kI, kI, fun _ _ _ h k => h.mv (Mv.of_keep k), kI, kI, fun _ _ _ ⟨a, e, h⟩ k => ⟨a, e, h.mv (Mv.of_keep k)⟩, kI, fun _ _ _ h k => h.mv (Mv.of_keep k), kI, fun _ _ _ ⟨a, e, h⟩ k => ⟨a, e, h.mv (Mv.of_keep k)⟩, kI, trivial⟩ ⟨?_, ?_, ?_, ?_, ?_, ?_, ?_, ?_, ?_, ?_, ?_, ?_, trivial⟩ ?_
            ·intro F1 w1 k1 hf hd
             obtain ⟨F2, rfl⟩ := lit_of (F := F1) [(19, vI ((k : Nat) : Int))] ⟨hf 19 (by kernel_rfl), trivial⟩
             exact sp_plain rfl ((o_move (vI ((k : Nat) : Int)) rfl (⟨(Keep.refl _ _), rfl⟩)))
            ·intro F1 w1 k1 hf hd
             obtain ⟨F2, rfl⟩ := lit_of (F := F1) [(101, vI ((k : Nat) : Int))] ⟨hd 0 101 (by kernel_rfl), trivial⟩
             refine sp_plain rfl ((o_gtr .i64 ((k : Nat) : Int) (0 : Int) rfl rfl (?_)))
             exact ⟨(Keep.refl _ _), congrArg Value.bool (hb8578)⟩
            ·intro F1 w1 k1 hf hd
             obtain ⟨F2, rfl⟩ := lit_of (F := F1) [(102, Value.bool true)] ⟨hd 1 102 (by kernel_rfl), trivial⟩
             exact sp_plain rfl ((o_move (Value.bool true) rfl (⟨(Keep.refl _ _), rfl⟩)))
            ·intro F1 w1 k1 hf hd
             have k0 := (Keep.drew [] wl0).trans k1
             have m1 : Mv Bl0 wl0 Bl0 w1 := Mv.of_keep k0
             have hrdc18_17 := hrdc18_17.mv m1
             obtain ⟨F2, rfl⟩ := lit_of (F := F1) [(17, vrc18_17), (103, Value.bool true)] ⟨hf 17 (by kernel_rfl), hd 2 103 (by kernel_rfl), trivial⟩
             exact sp_take rfl rfl ((o_move (vrc18_17) rfl (⟨(Keep.refl _ _), hrdc18_17⟩)))
            ·intro F1 w1 k1 hf hd
             obtain ⟨F2, rfl⟩ := lit_of (F := F1) [(19, vI ((k : Nat) : Int)), (103, Value.bool true)] ⟨hf 19 (by kernel_rfl), hd 2 103 (by kernel_rfl), trivial⟩
             exact sp_take rfl rfl ((o_move (vI ((k : Nat) : Int)) rfl (⟨(Keep.refl _ _), rfl⟩)))
            ·intro F1 w1 k1 hf hd
             obtain ⟨F2, rfl⟩ := lit_of (F := F1) [(103, Value.bool true), (105, vI ((k : Nat) : Int))] ⟨hd 2 103 (by kernel_rfl), hd 4 105 (by kernel_rfl), trivial⟩
             exact sp_take rfl rfl ((o_sub .i64 ((k : Nat) : Int) (1 : Int) (((k - 1 : Nat) : Int)) rfl rfl (w64 (by omega) (by omega)) (⟨(Keep.refl _ _), rfl⟩)))
            ·intro F1 w1 k1 hf hd
             obtain ⟨v8590, e8592, hl8591⟩ : ∃ v, F1 104 = v ∧ RdL Enc.int w1 (Bl0 ++ O) v (burnX d copies first) := ⟨_, rfl, hd 3 104 (by kernel_rfl)⟩
             have := hl8591.len_le
             obtain ⟨F2, rfl⟩ := lit_of (F := F1) [(103, Value.bool true), (104, v8590), (106, vI ((k - 1 : Nat) : Int))] ⟨hd 2 103 (by kernel_rfl), e8592, hd 5 106 (by kernel_rfl), trivial⟩
             exact sp_take rfl rfl ((o_idx Try.underlying27 s_3 .i64 ((k - 1 : Nat) : Int) (k - 1) rfl rfl rfl hl8591 (by omega) fun a8593 hp8594 => (⟨(Keep.refl _ _), ⟨a8593, rfl, hp8594⟩⟩)))
            ·intro F1 w1 k1 hf hd
             obtain ⟨a8595, e8597, hp8596⟩ : ∃ aX_, F1 107 = .pointer (some aX_) ∧ PT Enc.int w1 (Bl0 ++ O) (.pointer (some aX_)) ((burnX d copies first)[k - 1]!) := hd 6 107 (by kernel_rfl)
             obtain ⟨F2, rfl⟩ := lit_of (F := F1) [(103, Value.bool true), (107, Value.pointer (some a8595))] ⟨hd 2 103 (by kernel_rfl), e8597, trivial⟩
             exact sp_take rfl rfl ((o_loadI Try.underlying3 rfl rfl hp8596 (⟨(Keep.refl _ _), rfl⟩)))
            ·intro F1 w1 k1 hf hd
             have k0 := (Keep.drew [] wl0).trans k1
             have m1 : Mv Bl0 wl0 Bl0 w1 := Mv.of_keep k0
             have hrdc18_17 := hrdc18_17.mv m1
             obtain ⟨F2, rfl⟩ := lit_of (F := F1) [(17, vrc18_17), (103, Value.bool true)] ⟨hf 17 (by kernel_rfl), hd 2 103 (by kernel_rfl), trivial⟩
             exact sp_take rfl rfl ((o_move (vrc18_17) rfl (⟨(Keep.refl _ _), hrdc18_17⟩)))
            ·intro F1 w1 k1 hf hd
             obtain ⟨F2, rfl⟩ := lit_of (F := F1) [(19, vI ((k : Nat) : Int)), (103, Value.bool true)] ⟨hf 19 (by kernel_rfl), hd 2 103 (by kernel_rfl), trivial⟩
             exact sp_take rfl rfl ((o_move (vI ((k : Nat) : Int)) rfl (⟨(Keep.refl _ _), rfl⟩)))
            ·intro F1 w1 k1 hf hd
             obtain ⟨v8598, e8600, hl8599⟩ : ∃ v, F1 109 = v ∧ RdL Enc.int w1 (Bl0 ++ O) v (burnX d copies first) := ⟨_, rfl, hd 8 109 (by kernel_rfl)⟩
             have := hl8599.len_le
             obtain ⟨F2, rfl⟩ := lit_of (F := F1) [(103, Value.bool true), (109, v8598), (110, vI ((k : Nat) : Int))] ⟨hd 2 103 (by kernel_rfl), e8600, hd 9 110 (by kernel_rfl), trivial⟩
             exact sp_take rfl rfl ((o_idx Try.underlying27 s_3 .i64 ((k : Nat) : Int) k rfl rfl rfl hl8599 (by omega) fun a8601 hp8602 => (⟨(Keep.refl _ _), ⟨a8601, rfl, hp8602⟩⟩)))
            ·intro F1 w1 k1 hf hd
             obtain ⟨a8603, e8605, hp8604⟩ : ∃ aX_, F1 111 = .pointer (some aX_) ∧ PT Enc.int w1 (Bl0 ++ O) (.pointer (some aX_)) ((burnX d copies first)[k]!) := hd 10 111 (by kernel_rfl)
             obtain ⟨F2, rfl⟩ := lit_of (F := F1) [(103, Value.bool true), (111, Value.pointer (some a8603))] ⟨hd 2 103 (by kernel_rfl), e8605, trivial⟩
             exact sp_take rfl rfl ((o_loadI Try.underlying3 rfl rfl hp8604 (⟨(Keep.refl _ _), rfl⟩)))
            intro F8607 w8608 k8606 hT8609 hF8610
            have s8611 := sl0.call k8606
            have m8612 : Mv Bl0 wl0 Bl0 w8608 := Mv.of_keep k8606
            have hrdc18_17 := hrdc18_17.mv m8612
            obtain ⟨F2, rfl⟩ := lit_of (F := F8607) [(1, vI copy), (17, vrc18_17), (18, Value.bool true), (19, vI ((k : Nat) : Int)), (116, undef), (103, Value.bool true), (108, vI ((burnX d copies first)[k - 1]!)), (112, vI ((burnX d copies first)[k]!))] ⟨hF8610 1 (by kernel_rfl), hF8610 17 (by kernel_rfl), hF8610 18 (by kernel_rfl), hF8610 19 (by kernel_rfl), hF8610 116 (by kernel_rfl), hT8609 2 103 (by kernel_rfl) (by decide), hT8609 7 108 (by kernel_rfl) (by decide), hT8609 11 112 (by kernel_rfl) (by decide), trivial⟩
            clear hT8609 hF8610
            refine wl_t rfl (o_geq .i64 ((burnX d copies first)[k - 1]!) ((burnX d copies first)[k]!) rfl rfl (wl_s (o_pickT (Value.bool (decide ((burnX d copies first)[k]! ≤ (burnX d copies first)[k - 1]!))) rfl rfl (wl_nil (thenQ_n (?_))))))
            have hb8615 : (decide ((burnX d copies first)[k]! ≤ (burnX d copies first)[k - 1]!)) = false := (decide_eq_false (by have := burnX_inc hstop hms (k := k) (by omega) (by omega); omega))
            rw [hb8615]
            refine cw_cond false rfl rfl (fun h => by cases h) (fun _ => ?_)
            refine cw_skip (blockQ_n (thenQ_n (?_)))
            refine cw_region (by kernel_rfl) (wl_s (o_move (vI ((k : Nat) : Int)) rfl (wl_s (o_add .i64 ((k : Nat) : Int) (1 : Int) (((k + 1 : Nat) : Int)) rfl rfl (w64 (by omega) (by omega)) (wl_s (o_assign (vI ((k + 1 : Nat) : Int)) rfl (wl_nil (thenQ_n (?_)))))))))
            exact ⟨_, (by omega), (k + 1), Bl0, (by omega), rfl, ⟨_, upds_self _ ⟨rfl, rfl, (congrArg Value.bool (by first | rfl | (rw [met_succ (by omega)]; simp [*]))), (by first | rfl | exact congrArg (Value.int _) (by first | omega | (simp))), rfl, trivial⟩⟩, s8611, hrdc18_17⟩
         ·have hp8616 : ((burnX d copies first).length : Int) ≤ ((k : Nat) : Int) := by first | simpa using hc8533 | (have e := hc8533; simp at e; omega)
          obtain rfl : k = (burnX d copies first).length := by omega
          refine cw_exit (thenQ_x (thenQ_x (blockQ_x (thenQ_n (?_)))))
          refine cw_seq (?_)
          refine cw_region (by kernel_rfl) (wl_s (o_move (Value.bool (metM (burnX d copies first) copy ((burnX d copies first).length))) rfl (wl_s (o_assign (Value.bool (metM (burnX d copies first) copy ((burnX d copies first).length))) rfl (wl_nil (thenQ_n (?_)))))))
          refine cw_ret (end_r rfl (res1 rfl rfl rfl) (?_))
          have e : true = (metM (burnX d copies first) copy ((burnX d copies first).length)) := by first | rfl | (rw [met_end]; exact (burnX_mem hstop hmay0 hmay1).symm)
          exact ⟨_, rfl, sl0.keep, (by first | exact congrArg Value.bool e.symm | rfl)⟩
     ·have hp8617 : ((mayM d.ops copies first d.id copy).1) = false := by first | simpa using hb8486 | (have e := hb8486; rw [Bool.not_eq_true'] at e; exact e) | (have e := hb8486; rw [Bool.not_eq_false'] at e; exact e) | (have e := hb8486; simp at e; omega)
      refine wl_k rfl (wl_k rfl (wl_s (o_pickT (Value.bool true) rfl rfl (wl_nil (thenQ_n (?_))))))
      refine cw_cond true rfl rfl (fun _ => ?_) (fun h => by cases h)
      refine cw_seq (?_)
      refine cw_region (by kernel_rfl) (wl_s (o_assign (Value.bool true) rfl (wl_nil (thenQ_n (?_)))))
      refine cw_ret (thenQ_r (end_r rfl (res1 rfl rfl rfl) (?_)))
      exact ⟨_, rfl, s8478.keep, rfl⟩
    ·have hp8618 : (mayM d.ops copies first d.id copy).2 ≠ (0 : Int) := by first | simpa using hb8484 | (have e := hb8484; simp at e; omega)
     refine wl_k rfl (wl_k rfl (wl_s (o_pickT (Value.bool true) rfl rfl (wl_s (o_move (Value.bool true) rfl (wl_k rfl (wl_k rfl (wl_s (o_pickT (Value.bool true) rfl rfl (wl_nil (thenQ_n (?_))))))))))))
     refine cw_cond true rfl rfl (fun _ => ?_) (fun h => by cases h)
     refine cw_seq (?_)
     refine cw_region (by kernel_rfl) (wl_s (o_assign (Value.bool true) rfl (wl_nil (thenQ_n (?_)))))
     refine cw_ret (thenQ_r (end_r rfl (res1 rfl rfl rfl) (?_)))
     exact ⟨_, rfl, s8478.keep, rfl⟩
   ·have hp8619 : (startM d).2 = (0 : Int) := by first | simpa using hb8441 | (have e := hb8441; simp at e; omega)
    refine wl_t rfl (o_loadBxA (vs := [vI (((startM d).1).id), vI (((startM d).1).counter), d8439, Value.bool (((startM d).1).halted)]) Try.underlying31 rfl s_31 rfl bx8438 rfl (wl_t rfl (o_move (vI copies) rfl (wl_t rfl (o_move (vI first) rfl (wl_t rfl (o_callK (vs := [Value.agg #[vI (((startM d).1).id), vI (((startM d).1).counter), d8439, Value.bool (((startM d).1).halted)], vI copies, vI first]) enter_50 (c_burnt (O := (b8427 :: []) ++ O) [vI (((startM d).1).id), vI (((startM d).1).counter), d8439, Value.bool (((startM d).1).halted)] ((startM d).1) copies first w8434 ⟨_, rfl, hd8440⟩ s8435.lt) rfl s8435 fun v8620 w8621 s8622 m8623 k8624 r8625 => (?_))))))))
    obtain ⟨_, rfl, hl8626⟩ := r8625
    have := hl8626.len_le
    have hp8395 := hp8395.mv m8623
    have bx8438 := bx8438.keep k8624 (by simp)
    refine wl_t rfl (o_lenR Try.underlying27 rfl hl8626 (wl_t rfl (o_gtr .i64 ((burntM ((startM d).1) copies first).length : Int) (0 : Int) rfl rfl (wl_s (o_pickT (Value.bool (decide ((0 : Int) < ((burntM ((startM d).1) copies first).length : Int)))) rfl rfl (wl_nil (thenQ_n (?_))))))))
    have hb8627 : (decide ((0 : Int) < ((burntM ((startM d).1) copies first).length : Int))) = false := (decide_eq_false (by rw [start_burnt (by assumption)]; decide))
    rw [hb8627]
    refine cw_cond false rfl rfl (fun h => by cases h) (fun _ => ?_)
    refine cw_skip (thenQ_n (?_))
    refine cw_seq (?_)
    refine cw_region (by kernel_rfl) (wl_s (o_fieldR 2 f_31_2 (d.ops) rfl hp8395 (fun _ _ _ h => Enc_device_f2 h) fun a8628 hp8629 => (wl_s (o_loadL Try.underlying26 rfl rfl hp8629 fun v8630 hl8631 => (?_)))))
    have := hl8631.len_le
    refine wl_s (o_move (vI copies) rfl (wl_s (o_move (vI first) rfl (wl_s (o_fieldR 0 f_31_0 (d.id) rfl hp8395 (fun _ _ _ h => Enc_device_f0 h) fun a8632 hp8633 => (wl_s (o_loadI Try.underlying3 rfl rfl hp8633 (wl_s (o_move (vI copy) rfl (wl_s (o_callK (vs := [v8630, vI copies, vI first, vI d.id, vI copy]) enter_34 (c_may (O := (b8427 :: []) ++ O) v8630 d.ops copies first d.id copy w8621 hl8631 s8622.lt) rfl s8622 fun v8634 w8635 s8636 m8637 k8638 r8639 => (?_))))))))))))
    obtain rfl := r8639
    have hp8395 := hp8395.mv m8637
    have bx8438 := bx8438.keep k8638 (by simp)
    refine wl_s (o_move (Value.tuple #[Value.bool ((mayM d.ops copies first d.id copy).1), vI ((mayM d.ops copies first d.id copy).2)]) rfl (wl_s (o_extract (Value.bool ((mayM d.ops copies first d.id copy).1)) rfl rfl (wl_s (o_extract (vI ((mayM d.ops copies first d.id copy).2)) rfl rfl (wl_s (o_assign (Value.bool ((mayM d.ops copies first d.id copy).1)) rfl (wl_s (o_assign (vI ((mayM d.ops copies first d.id copy).2)) rfl (wl_nil (thenQ_n (?_))))))))))))
    refine cw_seq (?_)
    refine cw_region (by kernel_rfl) (wl_s (o_loadS Try.underlying31 rfl s_31 rfl hp8395 fun cs8640 hs8641 => (wl_s (o_fieldR 0 f_31_0 (d.id) rfl hp8395 (fun _ _ _ h => Enc_device_f0 h) fun a8642 hp8643 => (wl_s (o_loadI Try.underlying3 rfl rfl hp8643 (wl_s (o_fieldR 1 f_31_1 (d.counter) rfl hp8395 (fun _ _ _ h => Enc_device_f1 h) fun a8644 hp8645 => (wl_s (o_loadI Try.underlying3 rfl rfl hp8645 (wl_s (o_add .i64 d.counter (1 : Int) (IntKind.i64.wrap (d.counter + (1 : Int))) rfl rfl rfl (wl_s (o_move (vI copy) rfl (wl_s (o_move (vI token) rfl (wl_s (o_build (l := [(0, .tmp 59), (1, .tmp 62), (2, .const (vI (2 : Int))), (3, .tmp 63), (5, .tmp 64)]) pl_40 z_40 rfl [(0, vI d.id, [vI d.id]), (1, vI (IntKind.i64.wrap (d.counter + (1 : Int))), [vI (IntKind.i64.wrap (d.counter + (1 : Int)))]), (2, vI (2 : Int), [vI (2 : Int)]), (3, vI copy, [vI copy]), (5, vI token, [vI token])] [vI d.id, vI (IntKind.i64.wrap (d.counter + (1 : Int))), vI (2 : Int), vI copy, vI (0 : Int), vI token] rfl ⟨_, rfl, rfl, (of_decide_eq_true rfl), ⟨_, rfl, rfl, (of_decide_eq_true rfl), ⟨_, rfl, rfl, (of_decide_eq_true rfl), ⟨_, rfl, rfl, (of_decide_eq_true rfl), ⟨_, rfl, rfl, (of_decide_eq_true rfl), rfl⟩⟩⟩⟩⟩ (wl_s (o_callK (vs := [Value.agg cs8640.toArray, Value.agg #[vI d.id, vI (IntKind.i64.wrap (d.counter + (1 : Int))), vI (2 : Int), vI copy, vI (0 : Int), vI token], vI (2 : Int)]) enter_40 (c_act (O := (b8427 :: []) ++ O) cs8640 d [vI d.id, vI (IntKind.i64.wrap (d.counter + (1 : Int))), vI (2 : Int), vI copy, vI (0 : Int), vI token] (⟨d.id, IntKind.i64.wrap (d.counter + (1 : Int)), (2 : Int), copy, (0 : Int), token⟩ : DeviceOp) (2 : Int) w8635 hs8641 rfl s8636.lt) rfl s8636 fun v8646 w8647 s8648 m8649 k8650 r8651 => (?_)))))))))))))))))))))
    obtain ⟨cs8652, rfl, hs8653⟩ := r8651
    have hp8395 := hp8395.mv m8649
    have bx8438 := bx8438.keep k8650 (by simp)
    refine wl_s (o_move (Value.tuple #[Value.agg cs8652.toArray, vI ((actM d (⟨d.id, IntKind.i64.wrap (d.counter + (1 : Int)), (2 : Int), copy, (0 : Int), token⟩ : DeviceOp) (2 : Int)).2)]) rfl (wl_s (o_extract (Value.agg cs8652.toArray) rfl rfl (wl_s (o_extract (vI ((actM d (⟨d.id, IntKind.i64.wrap (d.counter + (1 : Int)), (2 : Int), copy, (0 : Int), token⟩ : DeviceOp) (2 : Int)).2)) rfl rfl (wl_s (o_alloc [vI (0 : Int), vI (0 : Int), Value.slice none 0 0, Value.bool false] z_31 rfl s8648 fun b8654 w8655 e8660 s8656 m8657 k8658 bx8659 => (?_))))))))
    have ne8661 : NeB b8427 b8654 := by show b8427 ≠ b8654; have := bx8438.lt; omega
    clear e8660
    have hp8395 := hp8395.mv m8657
    have hs8653 : Enc.device.rd w8655 ((b8654 :: (b8427 :: [])) ++ O) cs8652 ((actM d (⟨d.id, IntKind.i64.wrap (d.counter + (1 : Int)), (2 : Int), copy, (0 : Int), token⟩ : DeviceOp) (2 : Int)).1) := Enc.mv Enc.device (x := (actM d (⟨d.id, IntKind.i64.wrap (d.counter + (1 : Int)), (2 : Int), copy, (0 : Int), token⟩ : DeviceOp) (2 : Int)).1) hs8653 m8657
    obtain ⟨d8667, rfl, hd8668⟩ := hs8653
    have := hd8668.len_le
    refine wl_n (o_store (vs := [vI (((actM d (⟨d.id, IntKind.i64.wrap (d.counter + (1 : Int)), (2 : Int), copy, (0 : Int), token⟩ : DeviceOp) (2 : Int)).1).id), vI (((actM d (⟨d.id, IntKind.i64.wrap (d.counter + (1 : Int)), (2 : Int), copy, (0 : Int), token⟩ : DeviceOp) (2 : Int)).1).counter), d8667, Value.bool (((actM d (⟨d.id, IntKind.i64.wrap (d.counter + (1 : Int)), (2 : Int), copy, (0 : Int), token⟩ : DeviceOp) (2 : Int)).1).halted)]) (.agg #[vI (((actM d (⟨d.id, IntKind.i64.wrap (d.counter + (1 : Int)), (2 : Int), copy, (0 : Int), token⟩ : DeviceOp) (2 : Int)).1).id), vI (((actM d (⟨d.id, IntKind.i64.wrap (d.counter + (1 : Int)), (2 : Int), copy, (0 : Int), token⟩ : DeviceOp) (2 : Int)).1).counter), d8667, Value.bool (((actM d (⟨d.id, IntKind.i64.wrap (d.counter + (1 : Int)), (2 : Int), copy, (0 : Int), token⟩ : DeviceOp) (2 : Int)).1).halted)]) rfl rfl rfl s_31 (fun u hu => by simp only [List.mem_cons, List.not_mem_nil, or_false] at hu; rcases hu with rfl | rfl | rfl | rfl <;> first | rfl | exact hd8668.oneCell) (by repeat (first | assumption | constructor)) bx8659 (of_decide_eq_true rfl) s8656 fun w8662 s8663 m8664 k8665 bx8666 => (?_))
    have hp8395 := hp8395.mv m8664
    have hd8668 := hd8668.mv m8664
    refine wl_s (o_assign (vI ((actM d (⟨d.id, IntKind.i64.wrap (d.counter + (1 : Int)), (2 : Int), copy, (0 : Int), token⟩ : DeviceOp) (2 : Int)).2)) rfl (wl_nil (thenQ_n (?_))))
    refine cw_seq (?_)
    refine cw_seq (?_)
    refine cw_region (by kernel_rfl) (wl_s (o_move (vI ((mayM d.ops copies first d.id copy).2)) rfl (wl_s (o_neq .i64 ((mayM d.ops copies first d.id copy).2) (0 : Int) rfl rfl (wl_s (o_move (Value.bool (((mayM d.ops copies first d.id copy).2) != (0 : Int))) rfl (?_)))))))
    cases hb8669 : (((mayM d.ops copies first d.id copy).2) != (0 : Int))
    ·have hp8670 : (mayM d.ops copies first d.id copy).2 = (0 : Int) := by first | simpa using hb8669 | (have e := hb8669; simp at e; omega)
     have hmay0 : (mayM d.ops copies first d.id copy).2 = 0 := hp8670
     have hms := (may_ok hmay0).1
     refine wl_t rfl (o_move (Value.bool ((mayM d.ops copies first d.id copy).1)) rfl (wl_t rfl (o_not ((mayM d.ops copies first d.id copy).1) rfl (wl_s (o_pickF (Value.bool (!((mayM d.ops copies first d.id copy).1))) rfl rfl (wl_s (o_move (Value.bool (!((mayM d.ops copies first d.id copy).1))) rfl (?_))))))))
     cases hb8671 : (!((mayM d.ops copies first d.id copy).1))
     ·have hp8672 : ((mayM d.ops copies first d.id copy).1) = true := by first | simpa using hb8671 | (have e := hb8671; rw [Bool.not_eq_true'] at e; exact e) | (have e := hb8671; rw [Bool.not_eq_false'] at e; exact e) | (have e := hb8671; simp at e; omega)
      have hmay1 : (mayM d.ops copies first d.id copy).1 = true := hp8672
      refine wl_t rfl (o_move (vI ((actM d (⟨d.id, IntKind.i64.wrap (d.counter + (1 : Int)), (2 : Int), copy, (0 : Int), token⟩ : DeviceOp) (2 : Int)).2)) rfl (wl_t rfl (o_neq .i64 ((actM d (⟨d.id, IntKind.i64.wrap (d.counter + (1 : Int)), (2 : Int), copy, (0 : Int), token⟩ : DeviceOp) (2 : Int)).2) (0 : Int) rfl rfl (wl_s (o_pickF (Value.bool (((actM d (⟨d.id, IntKind.i64.wrap (d.counter + (1 : Int)), (2 : Int), copy, (0 : Int), token⟩ : DeviceOp) (2 : Int)).2) != (0 : Int))) rfl rfl (wl_nil (thenQ_n (?_))))))))
      refine cw_cond (((actM d (⟨d.id, IntKind.i64.wrap (d.counter + (1 : Int)), (2 : Int), copy, (0 : Int), token⟩ : DeviceOp) (2 : Int)).2) != (0 : Int)) rfl rfl (fun hc8673 => ?_) (fun hc8673 => ?_)
      ·have hp8674 : (actM d (⟨d.id, IntKind.i64.wrap (d.counter + (1 : Int)), (2 : Int), copy, (0 : Int), token⟩ : DeviceOp) (2 : Int)).2 ≠ (0 : Int) := by first | simpa using hc8673 | (have e := hc8673; simp at e; omega)
       refine cw_seq (?_)
       refine cw_region (by kernel_rfl) (wl_s (o_assign (Value.bool true) rfl (wl_nil (thenQ_n (?_)))))
       refine cw_ret (thenQ_r (end_r rfl (res1 rfl rfl rfl) (?_)))
       exact ⟨_, rfl, s8663.keep, rfl⟩
      ·have hp8675 : (actM d (⟨d.id, IntKind.i64.wrap (d.counter + (1 : Int)), (2 : Int), copy, (0 : Int), token⟩ : DeviceOp) (2 : Int)).2 = (0 : Int) := by first | simpa using hc8673 | (have e := hc8673; simp at e; omega)
       have hact : (actM d (⟨d.id, IntKind.i64.wrap (d.counter + (1 : Int)), (2 : Int), copy, (0 : Int), token⟩ : DeviceOp) (2 : Int)).2 = 0 := hp8675
       have hstop := stop_0 hact
       refine cw_skip (thenQ_n (?_))
       refine cw_cut (fun FI wI => ∃ (vrc18_17 : Value) (B : List Nat), True ∧ (∃ F1, FI = upds F1 [(1, vI copy), (17, vrc18_17), (116, undef)]) ∧ St w O wI B ∧ RdL Enc.int wI (B ++ O) vrc18_17 (burnX d copies first)) ?_ ?_
       ·refine cw_draw' 6 _ _ [isV (Value.agg #[vI (((actM d (⟨d.id, IntKind.i64.wrap (d.counter + (1 : Int)), (2 : Int), copy, (0 : Int), token⟩ : DeviceOp) (2 : Int)).1).id), vI (((actM d (⟨d.id, IntKind.i64.wrap (d.counter + (1 : Int)), (2 : Int), copy, (0 : Int), token⟩ : DeviceOp) (2 : Int)).1).counter), d8667, Value.bool (((actM d (⟨d.id, IntKind.i64.wrap (d.counter + (1 : Int)), (2 : Int), copy, (0 : Int), token⟩ : DeviceOp) (2 : Int)).1).halted)]), fun (vT : Value) (wT : World) => ∃ csT : List Value, vT = .agg csT.toArray ∧ Enc.device.rd wT ((b8654 :: (b8427 :: [])) ++ O) csT (d), fun (vT : Value) (wT : World) => RdL Enc.devop wT ((b8654 :: (b8427 :: [])) ++ O) vT (d.ops), fun (vT : Value) (wT : World) => ∃ csT : List Value, vT = .agg csT.toArray ∧ Enc.device.rd wT ((b8654 :: (b8427 :: [])) ++ O) csT (restoreM ((actM d (⟨d.id, IntKind.i64.wrap (d.counter + (1 : Int)), (2 : Int), copy, (0 : Int), token⟩ : DeviceOp) (2 : Int)).1) d.ops), isV (vI copies), isV (vI first)] (by kernel_rfl) (by kernel_rfl) (by kernel_rfl) (by kernel_rfl) rfl rfl ⟨kI, fun _ _ _ ⟨a, e, h⟩ k => ⟨a, e, Enc.mv _ h (Mv.of_keep k)⟩, fun _ _ _ h k => h.mv (Mv.of_keep k), fun _ _ _ ⟨a, e, h⟩ k => ⟨a, e, Enc.mv _ h (Mv.of_keep k)⟩, kI, kI, trivial⟩ ⟨?_, ?_, ?_, ?_, ?_, ?_, trivial⟩ ?_
        ·intro F1 w1 k1 hf hd
         have k0 := (Keep.drew [] w8662).trans k1
         have bx8666 := bx8666.keep k0 (by simp)
         obtain ⟨F2, rfl⟩ := lit_of (F := F1) [(15, Value.pointer (some ⟨b8654, 0, none⟩))] ⟨hf 15 (by kernel_rfl), trivial⟩
         exact sp_plain rfl ((o_loadBxA (vs := [vI (((actM d (⟨d.id, IntKind.i64.wrap (d.counter + (1 : Int)), (2 : Int), copy, (0 : Int), token⟩ : DeviceOp) (2 : Int)).1).id), vI (((actM d (⟨d.id, IntKind.i64.wrap (d.counter + (1 : Int)), (2 : Int), copy, (0 : Int), token⟩ : DeviceOp) (2 : Int)).1).counter), d8667, Value.bool (((actM d (⟨d.id, IntKind.i64.wrap (d.counter + (1 : Int)), (2 : Int), copy, (0 : Int), token⟩ : DeviceOp) (2 : Int)).1).halted)]) Try.underlying31 rfl s_31 rfl bx8666 rfl (⟨(Keep.refl _ _), rfl⟩)))
        ·intro F1 w1 k1 hf hd
         have k0 := (Keep.drew [] w8662).trans k1
         have m1 : Mv (b8654 :: (b8427 :: [])) w8662 (b8654 :: (b8427 :: [])) w1 := Mv.of_keep k0
         have hp8395 := hp8395.mv m1
         obtain ⟨F2, rfl⟩ := lit_of (F := F1) [(5, Value.pointer (some a8390))] ⟨hf 5 (by kernel_rfl), trivial⟩
         exact sp_plain rfl ((o_loadS Try.underlying31 rfl s_31 rfl hp8395 fun cs8676 hs8677 => (⟨(Keep.refl _ _), ⟨cs8676, rfl, hs8677⟩⟩)))
        ·intro F1 w1 k1 hf hd
         have k0 := (Keep.drew [] w8662).trans k1
         have s1 := s8663.call k0
         obtain ⟨cs8678, e8680, hs8679⟩ : ∃ cs : List Value, F1 80 = .agg cs.toArray ∧ Enc.device.rd w1 ((b8654 :: (b8427 :: [])) ++ O) cs (d) := hd 1 80 (by kernel_rfl)
         obtain ⟨F2, rfl⟩ := lit_of (F := F1) [(80, Value.agg cs8678.toArray)] ⟨e8680, trivial⟩
         refine sp_plain rfl ((o_callK (vs := [Value.agg cs8678.toArray]) enter_46 (c_backup (O := (b8654 :: (b8427 :: [])) ++ O) cs8678 d w1 hs8679 (by first | omega | assumption | (simp; done)) s1.lt) rfl s1 fun v8681 w8682 s8683 m8684 k8685 r8686 => (?_)))
         obtain ⟨_, rfl, hl8687⟩ := r8686
         have := hl8687.len_le
         exact ⟨k8685, hl8687⟩
        ·intro F1 w1 k1 hf hd
         have k0 := (Keep.drew [] w8662).trans k1
         have s1 := s8663.call k0
         have m1 : Mv (b8654 :: (b8427 :: [])) w8662 (b8654 :: (b8427 :: [])) w1 := Mv.of_keep k0
         have hd8668 := hd8668.mv m1
         obtain ⟨v8688, e8690, hl8689⟩ : ∃ v, F1 81 = v ∧ RdL Enc.devop w1 ((b8654 :: (b8427 :: [])) ++ O) v (d.ops) := ⟨_, rfl, hd 2 81 (by kernel_rfl)⟩
         have := hl8689.len_le
         obtain ⟨F2, rfl⟩ := lit_of (F := F1) [(79, Value.agg #[vI (((actM d (⟨d.id, IntKind.i64.wrap (d.counter + (1 : Int)), (2 : Int), copy, (0 : Int), token⟩ : DeviceOp) (2 : Int)).1).id), vI (((actM d (⟨d.id, IntKind.i64.wrap (d.counter + (1 : Int)), (2 : Int), copy, (0 : Int), token⟩ : DeviceOp) (2 : Int)).1).counter), d8667, Value.bool (((actM d (⟨d.id, IntKind.i64.wrap (d.counter + (1 : Int)), (2 : Int), copy, (0 : Int), token⟩ : DeviceOp) (2 : Int)).1).halted)]), (81, v8688)] ⟨hd 0 79 (by kernel_rfl), e8690, trivial⟩
         refine sp_plain rfl ((o_callK (vs := [Value.agg #[vI (((actM d (⟨d.id, IntKind.i64.wrap (d.counter + (1 : Int)), (2 : Int), copy, (0 : Int), token⟩ : DeviceOp) (2 : Int)).1).id), vI (((actM d (⟨d.id, IntKind.i64.wrap (d.counter + (1 : Int)), (2 : Int), copy, (0 : Int), token⟩ : DeviceOp) (2 : Int)).1).counter), d8667, Value.bool (((actM d (⟨d.id, IntKind.i64.wrap (d.counter + (1 : Int)), (2 : Int), copy, (0 : Int), token⟩ : DeviceOp) (2 : Int)).1).halted)], v8688]) enter_47 (c_restore (O := (b8654 :: (b8427 :: [])) ++ O) [vI (((actM d (⟨d.id, IntKind.i64.wrap (d.counter + (1 : Int)), (2 : Int), copy, (0 : Int), token⟩ : DeviceOp) (2 : Int)).1).id), vI (((actM d (⟨d.id, IntKind.i64.wrap (d.counter + (1 : Int)), (2 : Int), copy, (0 : Int), token⟩ : DeviceOp) (2 : Int)).1).counter), d8667, Value.bool (((actM d (⟨d.id, IntKind.i64.wrap (d.counter + (1 : Int)), (2 : Int), copy, (0 : Int), token⟩ : DeviceOp) (2 : Int)).1).halted)] ((actM d (⟨d.id, IntKind.i64.wrap (d.counter + (1 : Int)), (2 : Int), copy, (0 : Int), token⟩ : DeviceOp) (2 : Int)).1) v8688 d.ops w1 ⟨_, rfl, hd8668⟩ hl8689 (by first | omega | assumption | (simp; done)) s1.lt) rfl s1 fun v8691 w8692 s8693 m8694 k8695 r8696 => (?_)))
         obtain ⟨cs8697, rfl, hs8698⟩ := r8696
         exact ⟨k8695, ⟨cs8697, rfl, hs8698⟩⟩
        ·intro F1 w1 k1 hf hd
         obtain ⟨F2, rfl⟩ := lit_of (F := F1) [(3, vI copies)] ⟨hf 3 (by kernel_rfl), trivial⟩
         exact sp_plain rfl ((o_move (vI copies) rfl (⟨(Keep.refl _ _), rfl⟩)))
        ·intro F1 w1 k1 hf hd
         obtain ⟨F2, rfl⟩ := lit_of (F := F1) [(4, vI first)] ⟨hf 4 (by kernel_rfl), trivial⟩
         exact sp_plain rfl ((o_move (vI first) rfl (⟨(Keep.refl _ _), rfl⟩)))
        intro F8700 w8701 k8699 hT8702 hF8703
        have s8704 := s8663.call k8699
        obtain ⟨cs8708, e8710, hs8709⟩ : ∃ cs : List Value, F8700 82 = .agg cs.toArray ∧ Enc.device.rd w8701 ((b8654 :: (b8427 :: [])) ++ O) cs (restoreM ((actM d (⟨d.id, IntKind.i64.wrap (d.counter + (1 : Int)), (2 : Int), copy, (0 : Int), token⟩ : DeviceOp) (2 : Int)).1) d.ops) := hT8702 3 82 (by kernel_rfl) (by decide)
        obtain ⟨F2, rfl⟩ := lit_of (F := F8700) [(1, vI copy), (116, undef), (82, Value.agg cs8708.toArray), (83, vI copies), (84, vI first)] ⟨hF8703 1 (by kernel_rfl), hF8703 116 (by kernel_rfl), e8710, hT8702 4 83 (by kernel_rfl) (by decide), hT8702 5 84 (by kernel_rfl) (by decide), trivial⟩
        clear hT8702 hF8703
        refine wl_s (o_callK (vs := [Value.agg cs8708.toArray, vI copies, vI first]) enter_50 (c_burnt (O := (b8654 :: (b8427 :: [])) ++ O) cs8708 (restoreM ((actM d (⟨d.id, IntKind.i64.wrap (d.counter + (1 : Int)), (2 : Int), copy, (0 : Int), token⟩ : DeviceOp) (2 : Int)).1) d.ops) copies first w8701 hs8709 s8704.lt) rfl s8704 fun v8711 w8712 s8713 m8714 k8715 r8716 => (?_))
        obtain ⟨_, rfl, hl8717⟩ := r8716
        have := hl8717.len_le
        refine wl_s (o_assign (v8711) rfl (wl_nil (thenQ_n (?_))))
        exact ⟨v8711, (b8654 :: (b8427 :: [])), trivial, ⟨_, upds_self _ ⟨rfl, rfl, rfl, trivial⟩⟩, s8713, (by rw [show burnX d copies first = burntM (restoreM ((actM d (⟨d.id, IntKind.i64.wrap (d.counter + (1 : Int)), (2 : Int), copy, (0 : Int), token⟩ : DeviceOp) (2 : Int)).1) d.ops) copies first from by unfold burnX; rw [stop_x hact (by decide)]]; exact hl8717)⟩
       ·intro F wlc18 hI
        obtain ⟨vrc18_17, Blc18, hmc18, ⟨Flc18, rfl⟩, slc18, hrdc18_17⟩ := hI
        have := hrdc18_17.len_le
        refine cw_seq (?_)
        refine cw_region (by kernel_rfl) (wl_s (o_assign (Value.bool false) rfl (wl_nil (thenQ_n (?_)))))
        refine cw_seq (?_)
        refine cw_seq (?_)
        refine cw_region (by kernel_rfl) (wl_s (o_assign (vI (0 : Int)) rfl (wl_nil (thenQ_n (?_)))))
        refine cw_block (?_)
        refine cw_loop (fun mI FI wI => ∃ (k : Nat) (B : List Nat), k ≤ (burnX d copies first).length ∧ mI = (burnX d copies first).length - k ∧ (∃ F1, FI = upds F1 [(1, vI copy), (17, vrc18_17), (18, Value.bool (metM (burnX d copies first) copy k)), (19, vI ((k : Nat) : Int)), (116, undef)]) ∧ St w O wI B ∧ RdL Enc.int wI (B ++ O) (vrc18_17) (burnX d copies first)) ((burnX d copies first).length - (0)) ?_ ?_
        ·exact ⟨(0), Blc18, (by omega), rfl, ⟨_, upds_self _ ⟨rfl, rfl, (congrArg Value.bool (by first | rfl | (exact (met_zero _ _).symm))), (by first | rfl | exact congrArg (Value.int _) (by first | omega | (simp))), rfl, trivial⟩⟩, slc18, hrdc18_17⟩
        ·intro ml0 F wl0 hI
         clear hrdc18_17
         obtain ⟨k, Bl0, hr0_0, hm0, ⟨Fl0, rfl⟩, sl0, hrdc18_17⟩ := hI
         refine cw_seq (?_)
         refine cw_seq (?_)
         refine cw_region (by kernel_rfl) (wl_s (o_move (vI ((k : Nat) : Int)) rfl (wl_s (o_move (vrc18_17) rfl (wl_s (o_lenR Try.underlying27 rfl hrdc18_17 (wl_s (o_lss .i64 ((k : Nat) : Int) ((burnX d copies first).length : Int) rfl rfl (wl_nil (thenQ_n (?_)))))))))))
         refine cw_cond (decide (((k : Nat) : Int) < ((burnX d copies first).length : Int))) rfl rfl (fun hc8718 => ?_) (fun hc8718 => ?_)
         ·have hp8719 : ((k : Nat) : Int) < ((burnX d copies first).length : Int) := by first | simpa using hc8718 | (have e := hc8718; simp at e; omega)
          refine cw_skip (thenQ_n (?_))
          refine cw_seq (?_)
          refine cw_block (?_)
          refine cw_seq (?_)
          refine cw_region (by kernel_rfl) (wl_s (o_move (Value.bool (metM (burnX d copies first) copy k)) rfl (wl_s (o_move (Value.bool (metM (burnX d copies first) copy k)) rfl (?_)))))
          cases hb8720 : (metM (burnX d copies first) copy k)
          ·have hp8721 : (metM (burnX d copies first) copy k) = false := by first | simpa using hb8720 | (have e := hb8720; simp at e; omega)
           refine wl_t rfl (o_move (vrc18_17) rfl (wl_t rfl (o_move (vI ((k : Nat) : Int)) rfl (wl_t rfl (o_idx Try.underlying27 s_3 .i64 ((k : Nat) : Int) k rfl rfl rfl hrdc18_17 (by omega) fun a8722 hp8723 => (wl_t rfl (o_loadI Try.underlying3 rfl rfl hp8723 (wl_t rfl (o_move (vI copy) rfl (wl_t rfl (o_eql .i64 ((burnX d copies first)[k]!) copy rfl rfl (wl_s (o_pickF (Value.bool (((burnX d copies first)[k]!) == copy)) rfl rfl (wl_s (o_assign (Value.bool (((burnX d copies first)[k]!) == copy)) rfl (wl_nil (thenQ_n (?_))))))))))))))))))
           refine cw_seq (?_)
           cases hb8724 : (decide ((0 : Int) < ((k : Nat) : Int)))
           ·have hp8725 : ((k : Nat) : Int) ≤ (0 : Int) := by first | simpa using hb8724 | (have e := hb8724; simp at e; omega)
            refine cw_draw' 12 _ _ [isV (vI ((k : Nat) : Int)), isV (Value.bool false), isV (Value.bool false), isV undef, isV undef, isV undef, isV undef, isV undef, isV undef, isV undef, isV undef, isV undef] (by kernel_rfl) (by kernel_rfl) (by kernel_rfl) (by kernel_rfl) rfl rfl ⟨kI, kI, kI, kI, kI, kI, kI, kI, kI, kI, kI, kI, trivial⟩ ⟨?_, ?_, ?_, ?_, ?_, ?_, ?_, ?_, ?_, ?_, ?_, ?_, trivial⟩ ?_
            ·intro F1 w1 k1 hf hd
             obtain ⟨F2, rfl⟩ := lit_of (F := F1) [(19, vI ((k : Nat) : Int))] ⟨hf 19 (by kernel_rfl), trivial⟩
             exact sp_plain rfl ((o_move (vI ((k : Nat) : Int)) rfl (⟨(Keep.refl _ _), rfl⟩)))
            ·intro F1 w1 k1 hf hd
             obtain ⟨F2, rfl⟩ := lit_of (F := F1) [(101, vI ((k : Nat) : Int))] ⟨hd 0 101 (by kernel_rfl), trivial⟩
             refine sp_plain rfl ((o_gtr .i64 ((k : Nat) : Int) (0 : Int) rfl rfl (?_)))
             exact ⟨(Keep.refl _ _), congrArg Value.bool (hb8724)⟩
            ·intro F1 w1 k1 hf hd
             obtain ⟨F2, rfl⟩ := lit_of (F := F1) [(102, Value.bool false)] ⟨hd 1 102 (by kernel_rfl), trivial⟩
             exact sp_plain rfl ((o_move (Value.bool false) rfl (⟨(Keep.refl _ _), rfl⟩)))
            ·intro F1 w1 k1 hf hd
             exact sp_skipD rfl rfl (hd 2 103 (by kernel_rfl)) rfl rfl
            ·intro F1 w1 k1 hf hd
             exact sp_skipD rfl rfl (hd 2 103 (by kernel_rfl)) rfl rfl
            ·intro F1 w1 k1 hf hd
             exact sp_skipD rfl rfl (hd 2 103 (by kernel_rfl)) rfl rfl
            ·intro F1 w1 k1 hf hd
             exact sp_skipD rfl rfl (hd 2 103 (by kernel_rfl)) rfl rfl
            ·intro F1 w1 k1 hf hd
             exact sp_skipD rfl rfl (hd 2 103 (by kernel_rfl)) rfl rfl
            ·intro F1 w1 k1 hf hd
             exact sp_skipD rfl rfl (hd 2 103 (by kernel_rfl)) rfl rfl
            ·intro F1 w1 k1 hf hd
             exact sp_skipD rfl rfl (hd 2 103 (by kernel_rfl)) rfl rfl
            ·intro F1 w1 k1 hf hd
             exact sp_skipD rfl rfl (hd 2 103 (by kernel_rfl)) rfl rfl
            ·intro F1 w1 k1 hf hd
             exact sp_skipD rfl rfl (hd 2 103 (by kernel_rfl)) rfl rfl
            intro F8727 w8728 k8726 hT8729 hF8730
            have s8731 := sl0.call k8726
            have m8732 : Mv Bl0 wl0 Bl0 w8728 := Mv.of_keep k8726
            have hrdc18_17 := hrdc18_17.mv m8732
            obtain ⟨F2, rfl⟩ := lit_of (F := F8727) [(1, vI copy), (17, vrc18_17), (18, Value.bool (((burnX d copies first)[k]!) == copy)), (19, vI ((k : Nat) : Int)), (116, undef), (103, Value.bool false)] ⟨hF8730 1 (by kernel_rfl), hF8730 17 (by kernel_rfl), hF8730 18 (by kernel_rfl), hF8730 19 (by kernel_rfl), hF8730 116 (by kernel_rfl), hT8729 2 103 (by kernel_rfl) (by decide), trivial⟩
            clear hT8729 hF8730
            refine wl_k rfl (wl_s (o_pickF (Value.bool false) rfl rfl (wl_nil (thenQ_n (?_)))))
            refine cw_cond false rfl rfl (fun h => by cases h) (fun _ => ?_)
            refine cw_skip (blockQ_n (thenQ_n (?_)))
            refine cw_region (by kernel_rfl) (wl_s (o_move (vI ((k : Nat) : Int)) rfl (wl_s (o_add .i64 ((k : Nat) : Int) (1 : Int) (((k + 1 : Nat) : Int)) rfl rfl (w64 (by omega) (by omega)) (wl_s (o_assign (vI ((k + 1 : Nat) : Int)) rfl (wl_nil (thenQ_n (?_)))))))))
            exact ⟨_, (by omega), (k + 1), Bl0, (by omega), rfl, ⟨_, upds_self _ ⟨rfl, rfl, (congrArg Value.bool (by first | rfl | (rw [met_succ (by omega)]; simp [*]))), (by first | rfl | exact congrArg (Value.int _) (by first | omega | (simp))), rfl, trivial⟩⟩, s8731, hrdc18_17⟩
           ·have hp8735 : (0 : Int) < ((k : Nat) : Int) := by first | simpa using hb8724 | (have e := hb8724; simp at e; omega)
            refine cw_draw' 12 _ _ [isV (vI ((k : Nat) : Int)), isV (Value.bool true), isV (Value.bool true), fun (vT : Value) (wT : World) => RdL Enc.int wT (Bl0 ++ O) vT (burnX d copies first), isV (vI ((k : Nat) : Int)), isV (vI ((k - 1 : Nat) : Int)), fun (vT : Value) (wT : World) => ∃ aT, vT = .pointer (some aT) ∧ PT Enc.int wT (Bl0 ++ O) (.pointer (some aT)) ((burnX d copies first)[k - 1]!), isV (vI ((burnX d copies first)[k - 1]!)), fun (vT : Value) (wT : World) => RdL Enc.int wT (Bl0 ++ O) vT (burnX d copies first), isV (vI ((k : Nat) : Int)), fun (vT : Value) (wT : World) => ∃ aT, vT = .pointer (some aT) ∧ PT Enc.int wT (Bl0 ++ O) (.pointer (some aT)) ((burnX d copies first)[k]!), isV (vI ((burnX d copies first)[k]!))] (by kernel_rfl) (by kernel_rfl) (by kernel_rfl) (by kernel_rfl) rfl rfl ⟨kI, kI, kI, fun _ _ _ h k => h.mv (Mv.of_keep k), kI, kI, fun _ _ _ ⟨a, e, h⟩ k => ⟨a, e, h.mv (Mv.of_keep k)⟩, kI, fun _ _ _ h k => h.mv (Mv.of_keep k), kI, fun _ _ _ ⟨a, e, h⟩ k => ⟨a, e, h.mv (Mv.of_keep k)⟩, kI, trivial⟩ ⟨?_, ?_, ?_, ?_, ?_, ?_, ?_, ?_, ?_, ?_, ?_, ?_, trivial⟩ ?_
            ·intro F1 w1 k1 hf hd
             obtain ⟨F2, rfl⟩ := lit_of (F := F1) [(19, vI ((k : Nat) : Int))] ⟨hf 19 (by kernel_rfl), trivial⟩
             exact sp_plain rfl ((o_move (vI ((k : Nat) : Int)) rfl (⟨(Keep.refl _ _), rfl⟩)))
            ·intro F1 w1 k1 hf hd
             obtain ⟨F2, rfl⟩ := lit_of (F := F1) [(101, vI ((k : Nat) : Int))] ⟨hd 0 101 (by kernel_rfl), trivial⟩
             refine sp_plain rfl ((o_gtr .i64 ((k : Nat) : Int) (0 : Int) rfl rfl (?_)))
             exact ⟨(Keep.refl _ _), congrArg Value.bool (hb8724)⟩
            ·intro F1 w1 k1 hf hd
             obtain ⟨F2, rfl⟩ := lit_of (F := F1) [(102, Value.bool true)] ⟨hd 1 102 (by kernel_rfl), trivial⟩
             exact sp_plain rfl ((o_move (Value.bool true) rfl (⟨(Keep.refl _ _), rfl⟩)))
            ·intro F1 w1 k1 hf hd
             have k0 := (Keep.drew [] wl0).trans k1
             have m1 : Mv Bl0 wl0 Bl0 w1 := Mv.of_keep k0
             have hrdc18_17 := hrdc18_17.mv m1
             obtain ⟨F2, rfl⟩ := lit_of (F := F1) [(17, vrc18_17), (103, Value.bool true)] ⟨hf 17 (by kernel_rfl), hd 2 103 (by kernel_rfl), trivial⟩
             exact sp_take rfl rfl ((o_move (vrc18_17) rfl (⟨(Keep.refl _ _), hrdc18_17⟩)))
            ·intro F1 w1 k1 hf hd
             obtain ⟨F2, rfl⟩ := lit_of (F := F1) [(19, vI ((k : Nat) : Int)), (103, Value.bool true)] ⟨hf 19 (by kernel_rfl), hd 2 103 (by kernel_rfl), trivial⟩
             exact sp_take rfl rfl ((o_move (vI ((k : Nat) : Int)) rfl (⟨(Keep.refl _ _), rfl⟩)))
            ·intro F1 w1 k1 hf hd
             obtain ⟨F2, rfl⟩ := lit_of (F := F1) [(103, Value.bool true), (105, vI ((k : Nat) : Int))] ⟨hd 2 103 (by kernel_rfl), hd 4 105 (by kernel_rfl), trivial⟩
             exact sp_take rfl rfl ((o_sub .i64 ((k : Nat) : Int) (1 : Int) (((k - 1 : Nat) : Int)) rfl rfl (w64 (by omega) (by omega)) (⟨(Keep.refl _ _), rfl⟩)))
            ·intro F1 w1 k1 hf hd
             obtain ⟨v8736, e8738, hl8737⟩ : ∃ v, F1 104 = v ∧ RdL Enc.int w1 (Bl0 ++ O) v (burnX d copies first) := ⟨_, rfl, hd 3 104 (by kernel_rfl)⟩
             have := hl8737.len_le
             obtain ⟨F2, rfl⟩ := lit_of (F := F1) [(103, Value.bool true), (104, v8736), (106, vI ((k - 1 : Nat) : Int))] ⟨hd 2 103 (by kernel_rfl), e8738, hd 5 106 (by kernel_rfl), trivial⟩
             exact sp_take rfl rfl ((o_idx Try.underlying27 s_3 .i64 ((k - 1 : Nat) : Int) (k - 1) rfl rfl rfl hl8737 (by omega) fun a8739 hp8740 => (⟨(Keep.refl _ _), ⟨a8739, rfl, hp8740⟩⟩)))
            ·intro F1 w1 k1 hf hd
             obtain ⟨a8741, e8743, hp8742⟩ : ∃ aX_, F1 107 = .pointer (some aX_) ∧ PT Enc.int w1 (Bl0 ++ O) (.pointer (some aX_)) ((burnX d copies first)[k - 1]!) := hd 6 107 (by kernel_rfl)
             obtain ⟨F2, rfl⟩ := lit_of (F := F1) [(103, Value.bool true), (107, Value.pointer (some a8741))] ⟨hd 2 103 (by kernel_rfl), e8743, trivial⟩
             exact sp_take rfl rfl ((o_loadI Try.underlying3 rfl rfl hp8742 (⟨(Keep.refl _ _), rfl⟩)))
            ·intro F1 w1 k1 hf hd
             have k0 := (Keep.drew [] wl0).trans k1
             have m1 : Mv Bl0 wl0 Bl0 w1 := Mv.of_keep k0
             have hrdc18_17 := hrdc18_17.mv m1
             obtain ⟨F2, rfl⟩ := lit_of (F := F1) [(17, vrc18_17), (103, Value.bool true)] ⟨hf 17 (by kernel_rfl), hd 2 103 (by kernel_rfl), trivial⟩
             exact sp_take rfl rfl ((o_move (vrc18_17) rfl (⟨(Keep.refl _ _), hrdc18_17⟩)))
            ·intro F1 w1 k1 hf hd
             obtain ⟨F2, rfl⟩ := lit_of (F := F1) [(19, vI ((k : Nat) : Int)), (103, Value.bool true)] ⟨hf 19 (by kernel_rfl), hd 2 103 (by kernel_rfl), trivial⟩
             exact sp_take rfl rfl ((o_move (vI ((k : Nat) : Int)) rfl (⟨(Keep.refl _ _), rfl⟩)))
            ·intro F1 w1 k1 hf hd
             obtain ⟨v8744, e8746, hl8745⟩ : ∃ v, F1 109 = v ∧ RdL Enc.int w1 (Bl0 ++ O) v (burnX d copies first) := ⟨_, rfl, hd 8 109 (by kernel_rfl)⟩
             have := hl8745.len_le
             obtain ⟨F2, rfl⟩ := lit_of (F := F1) [(103, Value.bool true), (109, v8744), (110, vI ((k : Nat) : Int))] ⟨hd 2 103 (by kernel_rfl), e8746, hd 9 110 (by kernel_rfl), trivial⟩
             exact sp_take rfl rfl ((o_idx Try.underlying27 s_3 .i64 ((k : Nat) : Int) k rfl rfl rfl hl8745 (by omega) fun a8747 hp8748 => (⟨(Keep.refl _ _), ⟨a8747, rfl, hp8748⟩⟩)))
            ·intro F1 w1 k1 hf hd
             obtain ⟨a8749, e8751, hp8750⟩ : ∃ aX_, F1 111 = .pointer (some aX_) ∧ PT Enc.int w1 (Bl0 ++ O) (.pointer (some aX_)) ((burnX d copies first)[k]!) := hd 10 111 (by kernel_rfl)
             obtain ⟨F2, rfl⟩ := lit_of (F := F1) [(103, Value.bool true), (111, Value.pointer (some a8749))] ⟨hd 2 103 (by kernel_rfl), e8751, trivial⟩
             exact sp_take rfl rfl ((o_loadI Try.underlying3 rfl rfl hp8750 (⟨(Keep.refl _ _), rfl⟩)))
            intro F8753 w8754 k8752 hT8755 hF8756
            have s8757 := sl0.call k8752
            have m8758 : Mv Bl0 wl0 Bl0 w8754 := Mv.of_keep k8752
            have hrdc18_17 := hrdc18_17.mv m8758
            obtain ⟨F2, rfl⟩ := lit_of (F := F8753) [(1, vI copy), (17, vrc18_17), (18, Value.bool (((burnX d copies first)[k]!) == copy)), (19, vI ((k : Nat) : Int)), (116, undef), (103, Value.bool true), (108, vI ((burnX d copies first)[k - 1]!)), (112, vI ((burnX d copies first)[k]!))] ⟨hF8756 1 (by kernel_rfl), hF8756 17 (by kernel_rfl), hF8756 18 (by kernel_rfl), hF8756 19 (by kernel_rfl), hF8756 116 (by kernel_rfl), hT8755 2 103 (by kernel_rfl) (by decide), hT8755 7 108 (by kernel_rfl) (by decide), hT8755 11 112 (by kernel_rfl) (by decide), trivial⟩
            clear hT8755 hF8756
            refine wl_t rfl (o_geq .i64 ((burnX d copies first)[k - 1]!) ((burnX d copies first)[k]!) rfl rfl (wl_s (o_pickT (Value.bool (decide ((burnX d copies first)[k]! ≤ (burnX d copies first)[k - 1]!))) rfl rfl (wl_nil (thenQ_n (?_))))))
            have hb8761 : (decide ((burnX d copies first)[k]! ≤ (burnX d copies first)[k - 1]!)) = false := (decide_eq_false (by have := burnX_inc hstop hms (k := k) (by omega) (by omega); omega))
            rw [hb8761]
            refine cw_cond false rfl rfl (fun h => by cases h) (fun _ => ?_)
            refine cw_skip (blockQ_n (thenQ_n (?_)))
            refine cw_region (by kernel_rfl) (wl_s (o_move (vI ((k : Nat) : Int)) rfl (wl_s (o_add .i64 ((k : Nat) : Int) (1 : Int) (((k + 1 : Nat) : Int)) rfl rfl (w64 (by omega) (by omega)) (wl_s (o_assign (vI ((k + 1 : Nat) : Int)) rfl (wl_nil (thenQ_n (?_)))))))))
            exact ⟨_, (by omega), (k + 1), Bl0, (by omega), rfl, ⟨_, upds_self _ ⟨rfl, rfl, (congrArg Value.bool (by first | rfl | (rw [met_succ (by omega)]; simp [*]))), (by first | rfl | exact congrArg (Value.int _) (by first | omega | (simp))), rfl, trivial⟩⟩, s8757, hrdc18_17⟩
          ·have hp8762 : (metM (burnX d copies first) copy k) = true := by first | simpa using hb8720 | (have e := hb8720; simp at e; omega)
           refine wl_k rfl (wl_k rfl (wl_k rfl (wl_k rfl (wl_k rfl (wl_k rfl (wl_s (o_pickT (Value.bool true) rfl rfl (wl_s (o_assign (Value.bool true) rfl (wl_nil (thenQ_n (?_))))))))))))
           refine cw_seq (?_)
           cases hb8763 : (decide ((0 : Int) < ((k : Nat) : Int)))
           ·have hp8764 : ((k : Nat) : Int) ≤ (0 : Int) := by first | simpa using hb8763 | (have e := hb8763; simp at e; omega)
            refine cw_draw' 12 _ _ [isV (vI ((k : Nat) : Int)), isV (Value.bool false), isV (Value.bool false), isV undef, isV undef, isV undef, isV undef, isV undef, isV undef, isV undef, isV undef, isV undef] (by kernel_rfl) (by kernel_rfl) (by kernel_rfl) (by kernel_rfl) rfl rfl ⟨kI, kI, kI, kI, kI, kI, kI, kI, kI, kI, kI, kI, trivial⟩ ⟨?_, ?_, ?_, ?_, ?_, ?_, ?_, ?_, ?_, ?_, ?_, ?_, trivial⟩ ?_
            ·intro F1 w1 k1 hf hd
             obtain ⟨F2, rfl⟩ := lit_of (F := F1) [(19, vI ((k : Nat) : Int))] ⟨hf 19 (by kernel_rfl), trivial⟩
             exact sp_plain rfl ((o_move (vI ((k : Nat) : Int)) rfl (⟨(Keep.refl _ _), rfl⟩)))
            ·intro F1 w1 k1 hf hd
             obtain ⟨F2, rfl⟩ := lit_of (F := F1) [(101, vI ((k : Nat) : Int))] ⟨hd 0 101 (by kernel_rfl), trivial⟩
             refine sp_plain rfl ((o_gtr .i64 ((k : Nat) : Int) (0 : Int) rfl rfl (?_)))
             exact ⟨(Keep.refl _ _), congrArg Value.bool (hb8763)⟩
            ·intro F1 w1 k1 hf hd
             obtain ⟨F2, rfl⟩ := lit_of (F := F1) [(102, Value.bool false)] ⟨hd 1 102 (by kernel_rfl), trivial⟩
             exact sp_plain rfl ((o_move (Value.bool false) rfl (⟨(Keep.refl _ _), rfl⟩)))
            ·intro F1 w1 k1 hf hd
             exact sp_skipD rfl rfl (hd 2 103 (by kernel_rfl)) rfl rfl
            ·intro F1 w1 k1 hf hd
             exact sp_skipD rfl rfl (hd 2 103 (by kernel_rfl)) rfl rfl
            ·intro F1 w1 k1 hf hd
             exact sp_skipD rfl rfl (hd 2 103 (by kernel_rfl)) rfl rfl
            ·intro F1 w1 k1 hf hd
             exact sp_skipD rfl rfl (hd 2 103 (by kernel_rfl)) rfl rfl
            ·intro F1 w1 k1 hf hd
             exact sp_skipD rfl rfl (hd 2 103 (by kernel_rfl)) rfl rfl
            ·intro F1 w1 k1 hf hd
             exact sp_skipD rfl rfl (hd 2 103 (by kernel_rfl)) rfl rfl
            ·intro F1 w1 k1 hf hd
             exact sp_skipD rfl rfl (hd 2 103 (by kernel_rfl)) rfl rfl
            ·intro F1 w1 k1 hf hd
             exact sp_skipD rfl rfl (hd 2 103 (by kernel_rfl)) rfl rfl
            ·intro F1 w1 k1 hf hd
             exact sp_skipD rfl rfl (hd 2 103 (by kernel_rfl)) rfl rfl
            intro F8766 w8767 k8765 hT8768 hF8769
            have s8770 := sl0.call k8765
            have m8771 : Mv Bl0 wl0 Bl0 w8767 := Mv.of_keep k8765
            have hrdc18_17 := hrdc18_17.mv m8771
            obtain ⟨F2, rfl⟩ := lit_of (F := F8766) [(1, vI copy), (17, vrc18_17), (18, Value.bool true), (19, vI ((k : Nat) : Int)), (116, undef), (103, Value.bool false)] ⟨hF8769 1 (by kernel_rfl), hF8769 17 (by kernel_rfl), hF8769 18 (by kernel_rfl), hF8769 19 (by kernel_rfl), hF8769 116 (by kernel_rfl), hT8768 2 103 (by kernel_rfl) (by decide), trivial⟩
            clear hT8768 hF8769
            refine wl_k rfl (wl_s (o_pickF (Value.bool false) rfl rfl (wl_nil (thenQ_n (?_)))))
            refine cw_cond false rfl rfl (fun h => by cases h) (fun _ => ?_)
            refine cw_skip (blockQ_n (thenQ_n (?_)))
            refine cw_region (by kernel_rfl) (wl_s (o_move (vI ((k : Nat) : Int)) rfl (wl_s (o_add .i64 ((k : Nat) : Int) (1 : Int) (((k + 1 : Nat) : Int)) rfl rfl (w64 (by omega) (by omega)) (wl_s (o_assign (vI ((k + 1 : Nat) : Int)) rfl (wl_nil (thenQ_n (?_)))))))))
            exact ⟨_, (by omega), (k + 1), Bl0, (by omega), rfl, ⟨_, upds_self _ ⟨rfl, rfl, (congrArg Value.bool (by first | rfl | (rw [met_succ (by omega)]; simp [*]))), (by first | rfl | exact congrArg (Value.int _) (by first | omega | (simp))), rfl, trivial⟩⟩, s8770, hrdc18_17⟩
           ·have hp8774 : (0 : Int) < ((k : Nat) : Int) := by first | simpa using hb8763 | (have e := hb8763; simp at e; omega)
            refine cw_draw' 12 _ _ [isV (vI ((k : Nat) : Int)), isV (Value.bool true), isV (Value.bool true), fun (vT : Value) (wT : World) => RdL Enc.int wT (Bl0 ++ O) vT (burnX d copies first), isV (vI ((k : Nat) : Int)), isV (vI ((k - 1 : Nat) : Int)), fun (vT : Value) (wT : World) => ∃ aT, vT = .pointer (some aT) ∧ PT Enc.int wT (Bl0 ++ O) (.pointer (some aT)) ((burnX d copies first)[k - 1]!), isV (vI ((burnX d copies first)[k - 1]!)), fun (vT : Value) (wT : World) => RdL Enc.int wT (Bl0 ++ O) vT (burnX d copies first), isV (vI ((k : Nat) : Int)), fun (vT : Value) (wT : World) => ∃ aT, vT = .pointer (some aT) ∧ PT Enc.int wT (Bl0 ++ O) (.pointer (some aT)) ((burnX d copies first)[k]!), isV (vI ((burnX d copies first)[k]!))] (by kernel_rfl) (by kernel_rfl) (by kernel_rfl) (by kernel_rfl) rfl rfl ⟨kI, kI, kI, fun _ _ _ h k => h.mv (Mv.of_keep k), kI, kI, fun _ _ _ ⟨a, e, h⟩ k => ⟨a, e, h.mv (Mv.of_keep k)⟩, kI, fun _ _ _ h k => h.mv (Mv.of_keep k), kI, fun _ _ _ ⟨a, e, h⟩ k => ⟨a, e, h.mv (Mv.of_keep k)⟩, kI, trivial⟩ ⟨?_, ?_, ?_, ?_, ?_, ?_, ?_, ?_, ?_, ?_, ?_, ?_, trivial⟩ ?_
            ·intro F1 w1 k1 hf hd
             obtain ⟨F2, rfl⟩ := lit_of (F := F1) [(19, vI ((k : Nat) : Int))] ⟨hf 19 (by kernel_rfl), trivial⟩
             exact sp_plain rfl ((o_move (vI ((k : Nat) : Int)) rfl (⟨(Keep.refl _ _), rfl⟩)))
            ·intro F1 w1 k1 hf hd
             obtain ⟨F2, rfl⟩ := lit_of (F := F1) [(101, vI ((k : Nat) : Int))] ⟨hd 0 101 (by kernel_rfl), trivial⟩
             refine sp_plain rfl ((o_gtr .i64 ((k : Nat) : Int) (0 : Int) rfl rfl (?_)))
             exact ⟨(Keep.refl _ _), congrArg Value.bool (hb8763)⟩
            ·intro F1 w1 k1 hf hd
             obtain ⟨F2, rfl⟩ := lit_of (F := F1) [(102, Value.bool true)] ⟨hd 1 102 (by kernel_rfl), trivial⟩
             exact sp_plain rfl ((o_move (Value.bool true) rfl (⟨(Keep.refl _ _), rfl⟩)))
            ·intro F1 w1 k1 hf hd
             have k0 := (Keep.drew [] wl0).trans k1
             have m1 : Mv Bl0 wl0 Bl0 w1 := Mv.of_keep k0
             have hrdc18_17 := hrdc18_17.mv m1
             obtain ⟨F2, rfl⟩ := lit_of (F := F1) [(17, vrc18_17), (103, Value.bool true)] ⟨hf 17 (by kernel_rfl), hd 2 103 (by kernel_rfl), trivial⟩
             exact sp_take rfl rfl ((o_move (vrc18_17) rfl (⟨(Keep.refl _ _), hrdc18_17⟩)))
            ·intro F1 w1 k1 hf hd
             obtain ⟨F2, rfl⟩ := lit_of (F := F1) [(19, vI ((k : Nat) : Int)), (103, Value.bool true)] ⟨hf 19 (by kernel_rfl), hd 2 103 (by kernel_rfl), trivial⟩
             exact sp_take rfl rfl ((o_move (vI ((k : Nat) : Int)) rfl (⟨(Keep.refl _ _), rfl⟩)))
            ·intro F1 w1 k1 hf hd
             obtain ⟨F2, rfl⟩ := lit_of (F := F1) [(103, Value.bool true), (105, vI ((k : Nat) : Int))] ⟨hd 2 103 (by kernel_rfl), hd 4 105 (by kernel_rfl), trivial⟩
             exact sp_take rfl rfl ((o_sub .i64 ((k : Nat) : Int) (1 : Int) (((k - 1 : Nat) : Int)) rfl rfl (w64 (by omega) (by omega)) (⟨(Keep.refl _ _), rfl⟩)))
            ·intro F1 w1 k1 hf hd
             obtain ⟨v8775, e8777, hl8776⟩ : ∃ v, F1 104 = v ∧ RdL Enc.int w1 (Bl0 ++ O) v (burnX d copies first) := ⟨_, rfl, hd 3 104 (by kernel_rfl)⟩
             have := hl8776.len_le
             obtain ⟨F2, rfl⟩ := lit_of (F := F1) [(103, Value.bool true), (104, v8775), (106, vI ((k - 1 : Nat) : Int))] ⟨hd 2 103 (by kernel_rfl), e8777, hd 5 106 (by kernel_rfl), trivial⟩
             exact sp_take rfl rfl ((o_idx Try.underlying27 s_3 .i64 ((k - 1 : Nat) : Int) (k - 1) rfl rfl rfl hl8776 (by omega) fun a8778 hp8779 => (⟨(Keep.refl _ _), ⟨a8778, rfl, hp8779⟩⟩)))
            ·intro F1 w1 k1 hf hd
             obtain ⟨a8780, e8782, hp8781⟩ : ∃ aX_, F1 107 = .pointer (some aX_) ∧ PT Enc.int w1 (Bl0 ++ O) (.pointer (some aX_)) ((burnX d copies first)[k - 1]!) := hd 6 107 (by kernel_rfl)
             obtain ⟨F2, rfl⟩ := lit_of (F := F1) [(103, Value.bool true), (107, Value.pointer (some a8780))] ⟨hd 2 103 (by kernel_rfl), e8782, trivial⟩
             exact sp_take rfl rfl ((o_loadI Try.underlying3 rfl rfl hp8781 (⟨(Keep.refl _ _), rfl⟩)))
            ·intro F1 w1 k1 hf hd
             have k0 := (Keep.drew [] wl0).trans k1
             have m1 : Mv Bl0 wl0 Bl0 w1 := Mv.of_keep k0
             have hrdc18_17 := hrdc18_17.mv m1
             obtain ⟨F2, rfl⟩ := lit_of (F := F1) [(17, vrc18_17), (103, Value.bool true)] ⟨hf 17 (by kernel_rfl), hd 2 103 (by kernel_rfl), trivial⟩
             exact sp_take rfl rfl ((o_move (vrc18_17) rfl (⟨(Keep.refl _ _), hrdc18_17⟩)))
            ·intro F1 w1 k1 hf hd
             obtain ⟨F2, rfl⟩ := lit_of (F := F1) [(19, vI ((k : Nat) : Int)), (103, Value.bool true)] ⟨hf 19 (by kernel_rfl), hd 2 103 (by kernel_rfl), trivial⟩
             exact sp_take rfl rfl ((o_move (vI ((k : Nat) : Int)) rfl (⟨(Keep.refl _ _), rfl⟩)))
            ·intro F1 w1 k1 hf hd
             obtain ⟨v8783, e8785, hl8784⟩ : ∃ v, F1 109 = v ∧ RdL Enc.int w1 (Bl0 ++ O) v (burnX d copies first) := ⟨_, rfl, hd 8 109 (by kernel_rfl)⟩
             have := hl8784.len_le
             obtain ⟨F2, rfl⟩ := lit_of (F := F1) [(103, Value.bool true), (109, v8783), (110, vI ((k : Nat) : Int))] ⟨hd 2 103 (by kernel_rfl), e8785, hd 9 110 (by kernel_rfl), trivial⟩
             exact sp_take rfl rfl ((o_idx Try.underlying27 s_3 .i64 ((k : Nat) : Int) k rfl rfl rfl hl8784 (by omega) fun a8786 hp8787 => (⟨(Keep.refl _ _), ⟨a8786, rfl, hp8787⟩⟩)))
            ·intro F1 w1 k1 hf hd
             obtain ⟨a8788, e8790, hp8789⟩ : ∃ aX_, F1 111 = .pointer (some aX_) ∧ PT Enc.int w1 (Bl0 ++ O) (.pointer (some aX_)) ((burnX d copies first)[k]!) := hd 10 111 (by kernel_rfl)
             obtain ⟨F2, rfl⟩ := lit_of (F := F1) [(103, Value.bool true), (111, Value.pointer (some a8788))] ⟨hd 2 103 (by kernel_rfl), e8790, trivial⟩
             exact sp_take rfl rfl ((o_loadI Try.underlying3 rfl rfl hp8789 (⟨(Keep.refl _ _), rfl⟩)))
            intro F8792 w8793 k8791 hT8794 hF8795
            have s8796 := sl0.call k8791
            have m8797 : Mv Bl0 wl0 Bl0 w8793 := Mv.of_keep k8791
            have hrdc18_17 := hrdc18_17.mv m8797
            obtain ⟨F2, rfl⟩ := lit_of (F := F8792) [(1, vI copy), (17, vrc18_17), (18, Value.bool true), (19, vI ((k : Nat) : Int)), (116, undef), (103, Value.bool true), (108, vI ((burnX d copies first)[k - 1]!)), (112, vI ((burnX d copies first)[k]!))] ⟨hF8795 1 (by kernel_rfl), hF8795 17 (by kernel_rfl), hF8795 18 (by kernel_rfl), hF8795 19 (by kernel_rfl), hF8795 116 (by kernel_rfl), hT8794 2 103 (by kernel_rfl) (by decide), hT8794 7 108 (by kernel_rfl) (by decide), hT8794 11 112 (by kernel_rfl) (by decide), trivial⟩
            clear hT8794 hF8795
            refine wl_t rfl (o_geq .i64 ((burnX d copies first)[k - 1]!) ((burnX d copies first)[k]!) rfl rfl (wl_s (o_pickT (Value.bool (decide ((burnX d copies first)[k]! ≤ (burnX d copies first)[k - 1]!))) rfl rfl (wl_nil (thenQ_n (?_))))))
            have hb8800 : (decide ((burnX d copies first)[k]! ≤ (burnX d copies first)[k - 1]!)) = false := (decide_eq_false (by have := burnX_inc hstop hms (k := k) (by omega) (by omega); omega))
            rw [hb8800]
            refine cw_cond false rfl rfl (fun h => by cases h) (fun _ => ?_)
            refine cw_skip (blockQ_n (thenQ_n (?_)))
            refine cw_region (by kernel_rfl) (wl_s (o_move (vI ((k : Nat) : Int)) rfl (wl_s (o_add .i64 ((k : Nat) : Int) (1 : Int) (((k + 1 : Nat) : Int)) rfl rfl (w64 (by omega) (by omega)) (wl_s (o_assign (vI ((k + 1 : Nat) : Int)) rfl (wl_nil (thenQ_n (?_)))))))))
            exact ⟨_, (by omega), (k + 1), Bl0, (by omega), rfl, ⟨_, upds_self _ ⟨rfl, rfl, (congrArg Value.bool (by first | rfl | (rw [met_succ (by omega)]; simp [*]))), (by first | rfl | exact congrArg (Value.int _) (by first | omega | (simp))), rfl, trivial⟩⟩, s8796, hrdc18_17⟩
         ·have hp8801 : ((burnX d copies first).length : Int) ≤ ((k : Nat) : Int) := by first | simpa using hc8718 | (have e := hc8718; simp at e; omega)
          obtain rfl : k = (burnX d copies first).length := by omega
          refine cw_exit (thenQ_x (thenQ_x (blockQ_x (thenQ_n (?_)))))
          refine cw_seq (?_)
          refine cw_region (by kernel_rfl) (wl_s (o_move (Value.bool (metM (burnX d copies first) copy ((burnX d copies first).length))) rfl (wl_s (o_assign (Value.bool (metM (burnX d copies first) copy ((burnX d copies first).length))) rfl (wl_nil (thenQ_n (?_)))))))
          refine cw_ret (end_r rfl (res1 rfl rfl rfl) (?_))
          have e : true = (metM (burnX d copies first) copy ((burnX d copies first).length)) := by first | rfl | (rw [met_end]; exact (burnX_mem hstop hmay0 hmay1).symm)
          exact ⟨_, rfl, sl0.keep, (by first | exact congrArg Value.bool e.symm | rfl)⟩
     ·have hp8802 : ((mayM d.ops copies first d.id copy).1) = false := by first | simpa using hb8671 | (have e := hb8671; rw [Bool.not_eq_true'] at e; exact e) | (have e := hb8671; rw [Bool.not_eq_false'] at e; exact e) | (have e := hb8671; simp at e; omega)
      refine wl_k rfl (wl_k rfl (wl_s (o_pickT (Value.bool true) rfl rfl (wl_nil (thenQ_n (?_))))))
      refine cw_cond true rfl rfl (fun _ => ?_) (fun h => by cases h)
      refine cw_seq (?_)
      refine cw_region (by kernel_rfl) (wl_s (o_assign (Value.bool true) rfl (wl_nil (thenQ_n (?_)))))
      refine cw_ret (thenQ_r (end_r rfl (res1 rfl rfl rfl) (?_)))
      exact ⟨_, rfl, s8663.keep, rfl⟩
    ·have hp8803 : (mayM d.ops copies first d.id copy).2 ≠ (0 : Int) := by first | simpa using hb8669 | (have e := hb8669; simp at e; omega)
     refine wl_k rfl (wl_k rfl (wl_s (o_pickT (Value.bool true) rfl rfl (wl_s (o_move (Value.bool true) rfl (wl_k rfl (wl_k rfl (wl_s (o_pickT (Value.bool true) rfl rfl (wl_nil (thenQ_n (?_))))))))))))
     refine cw_cond true rfl rfl (fun _ => ?_) (fun h => by cases h)
     refine cw_seq (?_)
     refine cw_region (by kernel_rfl) (wl_s (o_assign (Value.bool true) rfl (wl_nil (thenQ_n (?_)))))
     refine cw_ret (thenQ_r (end_r rfl (res1 rfl rfl rfl) (?_)))
     exact ⟨_, rfl, s8663.keep, rfl⟩
 ·have hp8804 : 40 < (d.ops.length : Int) := by first | simpa using hb8412 | (have e := hb8412; rw [Bool.not_eq_true'] at e; exact e) | (have e := hb8412; rw [Bool.not_eq_false'] at e; exact e) | (have e := hb8412; simp at e; omega)
  refine wl_k rfl (wl_k rfl (wl_s (o_pickT (Value.bool true) rfl rfl (wl_nil (thenQ_n (?_))))))
  refine cw_cond true rfl rfl (fun _ => ?_) (fun h => by cases h)
  refine cw_seq (?_)
  refine cw_region (by kernel_rfl) (wl_s (o_assign (Value.bool true) rfl (wl_nil (thenQ_n (?_)))))
  refine cw_ret (thenQ_r (end_r rfl (res1 rfl rfl rfl) (?_)))
  exact ⟨_, rfl, s8408.keep, rfl⟩

end Go.Proofs.Ytjpniibleelgiaa
