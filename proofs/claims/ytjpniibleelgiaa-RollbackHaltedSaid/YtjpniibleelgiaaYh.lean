/- Walks, printed by gen.py. -/
import Derived.Test.YtjpniibleelgiaaYk
import Derived.Test.YtjpniibleelgiaaMrB
set_option linter.unusedSimpArgs false
set_option linter.unusedVariables false
namespace Go.Proofs.Ytjpniibleelgiaa
open Go.Fw Go.RowKit

set_option maxHeartbeats 4000000 in
set_option maxRecDepth 100000 in
theorem c_RollbackHalted {O : List Nat} (d_cs : List Value) (d : Device) (l_v : Value) (l : List DeviceOp) (o_cs : List Value) (o : DeviceOp) (crash : UInt8) (w : World) (h_d : Enc.device.rd w O d_cs d) (h_l : RdL Enc.devop w O l_v l) (h_o : Enc.devop.rd w O o_cs o) (hO : ∀ b ∈ O, b < w.heap.size) : CallsK Try.prog 16 [.agg d_cs.toArray, l_v, .agg o_cs.toArray, vB crash] w (fun v _ => v = .bool (true)) :=  by
 have h_d : Enc.device.rd w ([] ++ O) d_cs d := h_d
 have lim_l := h_l.len_le
 have h_l : RdL Enc.devop w ([] ++ O) l_v l := h_l
 obtain rfl := h_o
 have s0 : St w O w [] := St.start hO
 refine callsK_of 91 Try.func16 rfl rfl (of_decide_eq_true rfl) (fun F0 => ?_)
 refine cw_seq (?_)
 refine cw_region (by kernel_rfl) (?_)
 obtain ⟨d7404, rfl, hd7405⟩ := h_d
 have := hd7405.len_le
 refine wl_s (o_box (Value.agg #[vI d.id, vI d.counter, d7404, Value.bool d.halted]) [vI d.id, vI d.counter, d7404, Value.bool d.halted] rfl rfl s0 fun b7406 w7407 e7412 s7408 m7409 k7410 bx7411 => (?_))
 clear e7412
 have hd7405 := hd7405.mv m7409
 have h_l := h_l.mv m7409
 refine wl_s (o_boxR (E := Enc.devop) (Value.agg #[vI o.device, vI o.no, vI o.kind, vI o.copy, vI o.to, vI o.token]) ([vI o.device, vI o.no, vI o.kind, vI o.copy, vI o.to, vI o.token]) o rfl rfl rfl s7408 fun a7413 w7414 s7415 m7416 k7417 hp7418 => (?_))
 have hd7405 := hd7405.mv m7416
 have h_l := h_l.mv m7416
 have bx7411 := bx7411.keep k7417 (by simp)
 refine wl_s (o_assign (Value.bool false) rfl (wl_nil (thenQ_n (?_))))
 refine cw_seq (?_)
 refine cw_seq (?_)
 refine cw_region (by kernel_rfl) (wl_s (o_callK (vs := []) enter_39 (c_sane43 (O := (b7406 :: []) ++ O) w7414 s7415.lt) rfl s7415 fun v7419 w7420 s7421 m7422 k7423 r7424 => (?_)))
 obtain rfl := r7424
 have hd7405 := hd7405.mv m7422
 have h_l := h_l.mv m7422
 have hp7418 := hp7418.mv m7422
 have bx7411 := bx7411.keep k7423 (by simp)
 refine wl_s (o_not true rfl (wl_nil (thenQ_n (?_))))
 refine cw_cond false rfl rfl (fun h => by cases h) (fun _ => ?_)
 refine cw_skip (thenQ_n (?_))
 refine cw_seq (?_)
 refine cw_seq (?_)
 refine cw_region (by kernel_rfl) (wl_s (o_fieldL 2 f_31_2 rfl (wl_s (o_loadBx Try.underlying26 rfl (d7404) rfl bx7411 rfl (wl_s (o_callK (vs := [d7404]) enter_26 (c_few (O := (b7406 :: []) ++ O) d7404 d.ops w7420 hd7405 s7421.lt) rfl s7421 fun v7425 w7426 s7427 m7428 k7429 r7430 => (?_)))))))
 obtain rfl := r7430
 have hd7405 := hd7405.mv m7428
 have h_l := h_l.mv m7428
 have hp7418 := hp7418.mv m7428
 have bx7411 := bx7411.keep k7429 (by simp)
 refine wl_s (o_not (decide ((d.ops.length : Int) ≤ 40)) rfl (wl_s (o_move (Value.bool (!(decide ((d.ops.length : Int) ≤ 40)))) rfl (?_))))
 cases hb7431 : (!(decide ((d.ops.length : Int) ≤ 40)))
 ·have hp7432 : (d.ops.length : Int) ≤ 40 := by first | simpa using hb7431 | (have e := hb7431; rw [Bool.not_eq_true'] at e; exact e) | (have e := hb7431; rw [Bool.not_eq_false'] at e; exact e) | (have e := hb7431; simp at e; omega)
  refine wl_t rfl (o_move (l_v) rfl (wl_t rfl (o_callK (vs := [l_v]) enter_26 (c_few (O := (b7406 :: []) ++ O) l_v l w7426 h_l s7427.lt) rfl s7427 fun v7433 w7434 s7435 m7436 k7437 r7438 => (?_))))
  obtain rfl := r7438
  have hd7405 := hd7405.mv m7436
  have h_l := h_l.mv m7436
  have hp7418 := hp7418.mv m7436
  have bx7411 := bx7411.keep k7437 (by simp)
  refine wl_t rfl (o_not (decide ((l.length : Int) ≤ 40)) rfl (wl_s (o_pickF (Value.bool (!(decide ((l.length : Int) ≤ 40)))) rfl rfl (wl_nil (thenQ_n (?_))))))
  refine cw_cond (!(decide ((l.length : Int) ≤ 40))) rfl rfl (fun hc7439 => ?_) (fun hc7439 => ?_)
  ·have hp7440 : 40 < (l.length : Int) := by first | simpa using hc7439 | (have e := hc7439; rw [Bool.not_eq_true'] at e; exact e) | (have e := hc7439; rw [Bool.not_eq_false'] at e; exact e) | (have e := hc7439; simp at e; omega)
   refine cw_seq (?_)
   refine cw_region (by kernel_rfl) (wl_s (o_assign (Value.bool true) rfl (wl_nil (thenQ_n (?_)))))
   refine cw_ret (thenQ_r (end_r rfl (res1 rfl rfl rfl) (?_)))
   exact ⟨_, rfl, s7435.keep, rfl⟩
  ·have hp7441 : (l.length : Int) ≤ 40 := by first | simpa using hc7439 | (have e := hc7439; rw [Bool.not_eq_true'] at e; exact e) | (have e := hc7439; rw [Bool.not_eq_false'] at e; exact e) | (have e := hc7439; simp at e; omega)
   refine cw_skip (thenQ_n (?_))
   refine cw_seq (?_)
   refine cw_region (by kernel_rfl) (wl_s (o_fieldL 3 f_31_3 rfl (wl_n (o_store1 (Value.bool true) rfl rfl rfl s_4 (by repeat (first | assumption | constructor)) bx7411 (of_decide_eq_true rfl) s7435 fun w7442 s7443 m7444 k7445 bx7446 => (?_)))))
   have hd7405 := hd7405.mv m7444
   have h_l := h_l.mv m7444
   have hp7418 := hp7418.mv m7444
   refine wl_nil (thenQ_n (?_))
   refine cw_seq (?_)
   refine cw_region (by kernel_rfl) (wl_s (o_loadBxA (vs := [vI d.id, vI d.counter, d7404, Value.bool true]) Try.underlying31 rfl s_31 rfl bx7446 rfl (wl_s (o_callK (vs := [Value.agg #[vI d.id, vI d.counter, d7404, Value.bool true]]) enter_44 (c_start (O := (b7406 :: []) ++ O) [vI d.id, vI d.counter, d7404, Value.bool true] (⟨d.id, d.counter, d.ops, true⟩ : Device) w7442 ⟨_, rfl, hd7405⟩ s7443.lt) rfl s7443 fun v7447 w7448 s7449 m7450 k7451 r7452 => (?_)))))
   obtain ⟨cs7453, rfl, hs7454⟩ := r7452
   have hd7405 := hd7405.mv m7450
   have h_l := h_l.mv m7450
   have hp7418 := hp7418.mv m7450
   have bx7446 := bx7446.keep k7451 (by simp)
   refine wl_s (o_move (Value.tuple #[Value.agg cs7453.toArray, vI ((startM (⟨d.id, d.counter, d.ops, true⟩ : Device)).2)]) rfl (wl_s (o_extract (Value.agg cs7453.toArray) rfl rfl (wl_s (o_extract (vI ((startM (⟨d.id, d.counter, d.ops, true⟩ : Device)).2)) rfl rfl (wl_s (o_alloc [vI (0 : Int), vI (0 : Int), Value.slice none 0 0, Value.bool false] z_31 rfl s7449 fun b7455 w7456 e7461 s7457 m7458 k7459 bx7460 => (?_))))))))
   have ne7462 : NeB b7406 b7455 := by show b7406 ≠ b7455; have := bx7446.lt; omega
   clear e7461
   have hd7405 := hd7405.mv m7458
   have h_l := h_l.mv m7458
   have hp7418 := hp7418.mv m7458
   have hs7454 : Enc.device.rd w7456 ((b7455 :: (b7406 :: [])) ++ O) cs7453 ((startM (⟨d.id, d.counter, d.ops, true⟩ : Device)).1) := Enc.mv Enc.device (x := (startM (⟨d.id, d.counter, d.ops, true⟩ : Device)).1) hs7454 m7458
   have bx7446 := bx7446.keep k7459 (by simp)
   obtain ⟨d7468, rfl, hd7469⟩ := hs7454
   have := hd7469.len_le
   refine wl_n (o_store (vs := [vI (((startM (⟨d.id, d.counter, d.ops, true⟩ : Device)).1).id), vI (((startM (⟨d.id, d.counter, d.ops, true⟩ : Device)).1).counter), d7468, Value.bool (((startM (⟨d.id, d.counter, d.ops, true⟩ : Device)).1).halted)]) (.agg #[vI (((startM (⟨d.id, d.counter, d.ops, true⟩ : Device)).1).id), vI (((startM (⟨d.id, d.counter, d.ops, true⟩ : Device)).1).counter), d7468, Value.bool (((startM (⟨d.id, d.counter, d.ops, true⟩ : Device)).1).halted)]) rfl rfl rfl s_31 (fun u hu => by simp only [List.mem_cons, List.not_mem_nil, or_false] at hu; rcases hu with rfl | rfl | rfl | rfl <;> first | rfl | exact hd7469.oneCell) (by repeat (first | assumption | constructor)) bx7460 (of_decide_eq_true rfl) s7457 fun w7463 s7464 m7465 k7466 bx7467 => (?_))
   have hd7405 := hd7405.mv m7465
   have h_l := h_l.mv m7465
   have hp7418 := hp7418.mv m7465
   have hd7469 := hd7469.mv m7465
   have bx7446 := bx7446.keep k7466 (nin1 ne7462)
   refine wl_s (o_assign (vI ((startM (⟨d.id, d.counter, d.ops, true⟩ : Device)).2)) rfl (wl_nil (thenQ_n (?_))))
   refine cw_seq (?_)
   refine cw_region (by kernel_rfl) (wl_s (o_loadBxA (vs := [vI d.id, vI d.counter, d7404, Value.bool true]) Try.underlying31 rfl s_31 rfl bx7446 rfl (wl_s (o_move (l_v) rfl (wl_s (o_callK (vs := [Value.agg #[vI d.id, vI d.counter, d7404, Value.bool true], l_v]) enter_47 (c_restore (O := (b7455 :: (b7406 :: [])) ++ O) [vI d.id, vI d.counter, d7404, Value.bool true] (⟨d.id, d.counter, d.ops, true⟩ : Device) l_v l w7463 ⟨_, rfl, hd7405⟩ h_l (by first | omega | assumption | (simp; done)) s7464.lt) rfl s7464 fun v7470 w7471 s7472 m7473 k7474 r7475 => (?_)))))))
   obtain ⟨cs7476, rfl, hs7477⟩ := r7475
   have hd7405 := hd7405.mv m7473
   have h_l := h_l.mv m7473
   have hp7418 := hp7418.mv m7473
   have hd7469 := hd7469.mv m7473
   have bx7446 := bx7446.keep k7474 (by simp)
   have bx7467 := bx7467.keep k7474 (by simp)
   refine wl_s (o_callK (vs := [Value.agg cs7476.toArray]) enter_44 (c_start (O := (b7455 :: (b7406 :: [])) ++ O) cs7476 (restoreM (⟨d.id, d.counter, d.ops, true⟩ : Device) l) w7471 hs7477 s7472.lt) rfl s7472 fun v7478 w7479 s7480 m7481 k7482 r7483 => (?_))
   obtain ⟨cs7484, rfl, hs7485⟩ := r7483
   have hd7405 := hd7405.mv m7481
   have h_l := h_l.mv m7481
   have hp7418 := hp7418.mv m7481
   have hd7469 := hd7469.mv m7481
   have bx7446 := bx7446.keep k7482 (by simp)
   have bx7467 := bx7467.keep k7482 (by simp)
   refine wl_s (o_move (Value.tuple #[Value.agg cs7484.toArray, vI ((startM (restoreM (⟨d.id, d.counter, d.ops, true⟩ : Device) l)).2)]) rfl (wl_s (o_extract (Value.agg cs7484.toArray) rfl rfl (wl_s (o_extract (vI ((startM (restoreM (⟨d.id, d.counter, d.ops, true⟩ : Device) l)).2)) rfl rfl (wl_s (o_alloc [vI (0 : Int), vI (0 : Int), Value.slice none 0 0, Value.bool false] z_31 rfl s7480 fun b7486 w7487 e7492 s7488 m7489 k7490 bx7491 => (?_))))))))
   have ne7493 : NeB b7406 b7486 := by show b7406 ≠ b7486; have := bx7446.lt; omega
   have ne7494 : NeB b7455 b7486 := by show b7455 ≠ b7486; have := bx7467.lt; omega
   clear e7492
   have hd7405 := hd7405.mv m7489
   have h_l := h_l.mv m7489
   have hp7418 := hp7418.mv m7489
   have hd7469 := hd7469.mv m7489
   have hs7485 : Enc.device.rd w7487 ((b7486 :: (b7455 :: (b7406 :: []))) ++ O) cs7484 ((startM (restoreM (⟨d.id, d.counter, d.ops, true⟩ : Device) l)).1) := Enc.mv Enc.device (x := (startM (restoreM (⟨d.id, d.counter, d.ops, true⟩ : Device) l)).1) hs7485 m7489
   have bx7446 := bx7446.keep k7490 (by simp)
   have bx7467 := bx7467.keep k7490 (by simp)
   obtain ⟨d7500, rfl, hd7501⟩ := hs7485
   have := hd7501.len_le
   refine wl_n (o_store (vs := [vI (((startM (restoreM (⟨d.id, d.counter, d.ops, true⟩ : Device) l)).1).id), vI (((startM (restoreM (⟨d.id, d.counter, d.ops, true⟩ : Device) l)).1).counter), d7500, Value.bool (((startM (restoreM (⟨d.id, d.counter, d.ops, true⟩ : Device) l)).1).halted)]) (.agg #[vI (((startM (restoreM (⟨d.id, d.counter, d.ops, true⟩ : Device) l)).1).id), vI (((startM (restoreM (⟨d.id, d.counter, d.ops, true⟩ : Device) l)).1).counter), d7500, Value.bool (((startM (restoreM (⟨d.id, d.counter, d.ops, true⟩ : Device) l)).1).halted)]) rfl rfl rfl s_31 (fun u hu => by simp only [List.mem_cons, List.not_mem_nil, or_false] at hu; rcases hu with rfl | rfl | rfl | rfl <;> first | rfl | exact hd7501.oneCell) (by repeat (first | assumption | constructor)) bx7491 (of_decide_eq_true rfl) s7488 fun w7495 s7496 m7497 k7498 bx7499 => (?_))
   have hd7405 := hd7405.mv m7497
   have h_l := h_l.mv m7497
   have hp7418 := hp7418.mv m7497
   have hd7469 := hd7469.mv m7497
   have hd7501 := hd7501.mv m7497
   have bx7446 := bx7446.keep k7498 (nin1 ne7493)
   have bx7467 := bx7467.keep k7498 (nin1 ne7494)
   refine wl_s (o_assign (vI ((startM (restoreM (⟨d.id, d.counter, d.ops, true⟩ : Device) l)).2)) rfl (wl_nil (thenQ_n (?_))))
   refine cw_seq (?_)
   refine cw_region (by kernel_rfl) (wl_s (o_loadBxA (vs := [vI d.id, vI d.counter, d7404, Value.bool true]) Try.underlying31 rfl s_31 rfl bx7446 rfl (wl_s (o_loadS Try.underlying40 rfl s_40 rfl hp7418 fun cs7502 hs7503 => (?_)))))
   obtain rfl := hs7503
   refine wl_s (o_move (vB crash) rfl (wl_s (o_rem8 crash (3 : UInt8) (by decide) rfl rfl (wl_s (o_conv .u8 .i64 Try.underlying5 Try.underlying3 ((crash % 3).toNat : Int) ((crash % 3).toNat : Int) rfl (by have := (crash % 3).toNat_lt; exact w64 (by omega) rfl) (wl_s (o_callK (vs := [Value.agg #[vI d.id, vI d.counter, d7404, Value.bool true], Value.agg #[vI o.device, vI o.no, vI o.kind, vI o.copy, vI o.to, vI o.token], vI ((crash % 3).toNat : Int)]) enter_40 (c_act (O := (b7486 :: (b7455 :: (b7406 :: []))) ++ O) [vI d.id, vI d.counter, d7404, Value.bool true] (⟨d.id, d.counter, d.ops, true⟩ : Device) [vI o.device, vI o.no, vI o.kind, vI o.copy, vI o.to, vI o.token] o ((crash % 3).toNat : Int) w7495 ⟨_, rfl, hd7405⟩ rfl s7496.lt) rfl s7496 fun v7504 w7505 s7506 m7507 k7508 r7509 => (?_))))))))
   obtain ⟨cs7510, rfl, hs7511⟩ := r7509
   have hd7405 := hd7405.mv m7507
   have h_l := h_l.mv m7507
   have hp7418 := hp7418.mv m7507
   have hd7469 := hd7469.mv m7507
   have hd7501 := hd7501.mv m7507
   have bx7446 := bx7446.keep k7508 (by simp)
   have bx7467 := bx7467.keep k7508 (by simp)
   have bx7499 := bx7499.keep k7508 (by simp)
   refine wl_s (o_move (Value.tuple #[Value.agg cs7510.toArray, vI ((actM (⟨d.id, d.counter, d.ops, true⟩ : Device) o ((crash % 3).toNat : Int)).2)]) rfl (wl_s (o_extract (Value.agg cs7510.toArray) rfl rfl (wl_s (o_extract (vI ((actM (⟨d.id, d.counter, d.ops, true⟩ : Device) o ((crash % 3).toNat : Int)).2)) rfl rfl (wl_s (o_alloc [vI (0 : Int), vI (0 : Int), Value.slice none 0 0, Value.bool false] z_31 rfl s7506 fun b7512 w7513 e7518 s7514 m7515 k7516 bx7517 => (?_))))))))
   have ne7519 : NeB b7406 b7512 := by show b7406 ≠ b7512; have := bx7446.lt; omega
   have ne7520 : NeB b7455 b7512 := by show b7455 ≠ b7512; have := bx7467.lt; omega
   have ne7521 : NeB b7486 b7512 := by show b7486 ≠ b7512; have := bx7499.lt; omega
   clear e7518
   have hd7405 := hd7405.mv m7515
   have h_l := h_l.mv m7515
   have hp7418 := hp7418.mv m7515
   have hd7469 := hd7469.mv m7515
   have hd7501 := hd7501.mv m7515
   have hs7511 : Enc.device.rd w7513 ((b7512 :: (b7486 :: (b7455 :: (b7406 :: [])))) ++ O) cs7510 ((actM (⟨d.id, d.counter, d.ops, true⟩ : Device) o ((crash % 3).toNat : Int)).1) := Enc.mv Enc.device (x := (actM (⟨d.id, d.counter, d.ops, true⟩ : Device) o ((crash % 3).toNat : Int)).1) hs7511 m7515
   have bx7446 := bx7446.keep k7516 (by simp)
   have bx7467 := bx7467.keep k7516 (by simp)
   have bx7499 := bx7499.keep k7516 (by simp)
   obtain ⟨d7527, rfl, hd7528⟩ := hs7511
   have := hd7528.len_le
   refine wl_n (o_store (vs := [vI (((actM (⟨d.id, d.counter, d.ops, true⟩ : Device) o ((crash % 3).toNat : Int)).1).id), vI (((actM (⟨d.id, d.counter, d.ops, true⟩ : Device) o ((crash % 3).toNat : Int)).1).counter), d7527, Value.bool (((actM (⟨d.id, d.counter, d.ops, true⟩ : Device) o ((crash % 3).toNat : Int)).1).halted)]) (.agg #[vI (((actM (⟨d.id, d.counter, d.ops, true⟩ : Device) o ((crash % 3).toNat : Int)).1).id), vI (((actM (⟨d.id, d.counter, d.ops, true⟩ : Device) o ((crash % 3).toNat : Int)).1).counter), d7527, Value.bool (((actM (⟨d.id, d.counter, d.ops, true⟩ : Device) o ((crash % 3).toNat : Int)).1).halted)]) rfl rfl rfl s_31 (fun u hu => by simp only [List.mem_cons, List.not_mem_nil, or_false] at hu; rcases hu with rfl | rfl | rfl | rfl <;> first | rfl | exact hd7528.oneCell) (by repeat (first | assumption | constructor)) bx7517 (of_decide_eq_true rfl) s7514 fun w7522 s7523 m7524 k7525 bx7526 => (?_))
   have hd7405 := hd7405.mv m7524
   have h_l := h_l.mv m7524
   have hp7418 := hp7418.mv m7524
   have hd7469 := hd7469.mv m7524
   have hd7501 := hd7501.mv m7524
   have bx7446 := bx7446.keep k7525 (nin1 ne7519)
   have bx7467 := bx7467.keep k7525 (nin1 ne7520)
   have bx7499 := bx7499.keep k7525 (nin1 ne7521)
   refine wl_s (o_assign (vI ((actM (⟨d.id, d.counter, d.ops, true⟩ : Device) o ((crash % 3).toNat : Int)).2)) rfl (wl_nil (thenQ_n (?_))))
   refine cw_cut (fun FI wI => ∃ (B : List Nat), True ∧ (∃ F1, FI = upds F1 [(9, Value.pointer (some ⟨b7455, 0, none⟩)), (10, vI ((startM (⟨d.id, d.counter, d.ops, true⟩ : Device)).2)), (11, Value.pointer (some ⟨b7486, 0, none⟩)), (12, vI ((startM (restoreM (⟨d.id, d.counter, d.ops, true⟩ : Device) l)).2)), (14, vI ((actM (⟨d.id, d.counter, d.ops, true⟩ : Device) o ((crash % 3).toNat : Int)).2)), (16, vI ((actM (restoreM (⟨d.id, d.counter, d.ops, true⟩ : Device) l) o ((crash % 3).toNat : Int)).2)), (91, undef)]) ∧ St w O wI B ∧ RdL Enc.devop wI (B ++ O) (d7468) (((startM (⟨d.id, d.counter, d.ops, true⟩ : Device)).1).ops) ∧ Box wI b7455 31 [vI (((startM (⟨d.id, d.counter, d.ops, true⟩ : Device)).1).id), vI (((startM (⟨d.id, d.counter, d.ops, true⟩ : Device)).1).counter), d7468, Value.bool (((startM (⟨d.id, d.counter, d.ops, true⟩ : Device)).1).halted)] ∧ b7455 ∈ B ∧ RdL Enc.devop wI (B ++ O) (d7500) (((startM (restoreM (⟨d.id, d.counter, d.ops, true⟩ : Device) l)).1).ops) ∧ Box wI b7486 31 [vI (((startM (restoreM (⟨d.id, d.counter, d.ops, true⟩ : Device) l)).1).id), vI (((startM (restoreM (⟨d.id, d.counter, d.ops, true⟩ : Device) l)).1).counter), d7500, Value.bool (((startM (restoreM (⟨d.id, d.counter, d.ops, true⟩ : Device) l)).1).halted)] ∧ b7486 ∈ B) ?_ ?_
   ·refine cw_drawUL 12 [10] _ _ _ [fun _ => isV (Value.agg #[vI d.id, vI d.counter, d7404, Value.bool true]), fun _ => fun (vT : Value) (_ : World) => RdL Enc.devop w7522 ((b7512 :: (b7486 :: (b7455 :: (b7406 :: [])))) ++ O) vT (l), fun (BT : List Nat) (vT : Value) (wT : World) => ∃ csT : List Value, vT = .agg csT.toArray ∧ Enc.device.rd wT (BT ++ O) csT (restoreM (⟨d.id, d.counter, d.ops, true⟩ : Device) l), fun _ => isV (Value.agg #[vI o.device, vI o.no, vI o.kind, vI o.copy, vI o.to, vI o.token]), fun _ => isV (vB crash), fun _ => isV (vB (crash % 3)), fun _ => isV (vI ((crash % 3).toNat : Int)), fun (BT : List Nat) (vT : Value) (wT : World) => ∃ (xT0 : List Value), vT = .tuple #[.agg xT0.toArray, vI ((actM (restoreM (⟨d.id, d.counter, d.ops, true⟩ : Device) l) o ((crash % 3).toNat : Int)).2)] ∧ Enc.device.rd wT (BT ++ O) xT0 ((actM (restoreM (⟨d.id, d.counter, d.ops, true⟩ : Device) l) o ((crash % 3).toNat : Int)).1), fun (BT : List Nat) (vT : Value) (wT : World) => ∃ (xT0 : List Value), vT = .tuple #[.agg xT0.toArray, vI ((actM (restoreM (⟨d.id, d.counter, d.ops, true⟩ : Device) l) o ((crash % 3).toNat : Int)).2)] ∧ Enc.device.rd wT (BT ++ O) xT0 ((actM (restoreM (⟨d.id, d.counter, d.ops, true⟩ : Device) l) o ((crash % 3).toNat : Int)).1), fun (BT : List Nat) (vT : Value) (wT : World) => ∃ csT : List Value, vT = .agg csT.toArray ∧ Enc.device.rd wT (BT ++ O) csT ((actM (restoreM (⟨d.id, d.counter, d.ops, true⟩ : Device) l) o ((crash % 3).toNat : Int)).1), fun _ => isV (vI ((actM (restoreM (⟨d.id, d.counter, d.ops, true⟩ : Device) l) o ((crash % 3).toNat : Int)).2)), TBx w7522 31 [vI (0 : Int), vI (0 : Int), Value.slice none 0 0, Value.bool false]] [⟨0, [], [], [], false, []⟩, ⟨0, [], [], [], false, []⟩, ⟨1, [], [], [], false, [0, 1]⟩, ⟨0, [], [], [], false, []⟩, ⟨0, [], [], [], false, []⟩, ⟨0, [], [], [], false, [4]⟩, ⟨0, [], [], [], false, [5]⟩, ⟨1, [1], [], [], false, [2, 3, 6]⟩, ⟨1, [1], [], [], false, [7]⟩, ⟨1, [1], [], [], false, [8]⟩, ⟨0, [1], [], [], false, [8]⟩, ⟨2, [], [], [], false, []⟩] (b7512 :: (b7486 :: (b7455 :: (b7406 :: [])))) (by kernel_rfl) (by kernel_rfl) (by kernel_rfl) (by kernel_rfl) (by kernel_rfl) (by decide) rfl rfl rfl ⟨fun _ _ _ _ _ h => h, fun _ _ _ _ _ h => h, (show ∀ B B2 v w w2, (fun (BT : List Nat) (vT : Value) (wT : World) => ∃ csT : List Value, vT = .agg csT.toArray ∧ Enc.device.rd wT (BT ++ O) csT (restoreM (⟨d.id, d.counter, d.ops, true⟩ : Device) l)) B v w → Mv B w B2 w2 → (fun (BT : List Nat) (vT : Value) (wT : World) => ∃ csT : List Value, vT = .agg csT.toArray ∧ Enc.device.rd wT (BT ++ O) csT (restoreM (⟨d.id, d.counter, d.ops, true⟩ : Device) l)) B2 v w2 from fun _ _ _ _ _ ⟨a, e, h⟩ m => ⟨a, e, Enc.mv _ h m⟩), fun _ _ _ _ _ h => h, fun _ _ _ _ _ h => h, fun _ _ _ _ _ h => h, fun _ _ _ _ _ h => h, (show ∀ B B2 v w w2, (fun (BT : List Nat) (vT : Value) (wT : World) => ∃ (xT0 : List Value), vT = .tuple #[.agg xT0.toArray, vI ((actM (restoreM (⟨d.id, d.counter, d.ops, true⟩ : Device) l) o ((crash % 3).toNat : Int)).2)] ∧ Enc.device.rd wT (BT ++ O) xT0 ((actM (restoreM (⟨d.id, d.counter, d.ops, true⟩ : Device) l) o ((crash % 3).toNat : Int)).1)) B v w → Mv B w B2 w2 → (fun (BT : List Nat) (vT : Value) (wT : World) => ∃ (xT0 : List Value), vT = .tuple #[.agg xT0.toArray, vI ((actM (restoreM (⟨d.id, d.counter, d.ops, true⟩ : Device) l) o ((crash % 3).toNat : Int)).2)] ∧ Enc.device.rd wT (BT ++ O) xT0 ((actM (restoreM (⟨d.id, d.counter, d.ops, true⟩ : Device) l) o ((crash % 3).toNat : Int)).1)) B2 v w2 from fun _ _ _ _ _ ⟨y0, e, h0⟩ m => ⟨y0, e, Enc.mv _ h0 m⟩), (show ∀ B B2 v w w2, (fun (BT : List Nat) (vT : Value) (wT : World) => ∃ (xT0 : List Value), vT = .tuple #[.agg xT0.toArray, vI ((actM (restoreM (⟨d.id, d.counter, d.ops, true⟩ : Device) l) o ((crash % 3).toNat : Int)).2)] ∧ Enc.device.rd wT (BT ++ O) xT0 ((actM (restoreM (⟨d.id, d.counter, d.ops, true⟩ : Device) l) o ((crash % 3).toNat : Int)).1)) B v w → Mv B w B2 w2 → (fun (BT : List Nat) (vT : Value) (wT : World) => ∃ (xT0 : List Value), vT = .tuple #[.agg xT0.toArray, vI ((actM (restoreM (⟨d.id, d.counter, d.ops, true⟩ : Device) l) o ((crash % 3).toNat : Int)).2)] ∧ Enc.device.rd wT (BT ++ O) xT0 ((actM (restoreM (⟨d.id, d.counter, d.ops, true⟩ : Device) l) o ((crash % 3).toNat : Int)).1)) B2 v w2 from fun _ _ _ _ _ ⟨y0, e, h0⟩ m => ⟨y0, e, Enc.mv _ h0 m⟩), (show ∀ B B2 v w w2, (fun (BT : List Nat) (vT : Value) (wT : World) => ∃ csT : List Value, vT = .agg csT.toArray ∧ Enc.device.rd wT (BT ++ O) csT ((actM (restoreM (⟨d.id, d.counter, d.ops, true⟩ : Device) l) o ((crash % 3).toNat : Int)).1)) B v w → Mv B w B2 w2 → (fun (BT : List Nat) (vT : Value) (wT : World) => ∃ csT : List Value, vT = .agg csT.toArray ∧ Enc.device.rd wT (BT ++ O) csT ((actM (restoreM (⟨d.id, d.counter, d.ops, true⟩ : Device) l) o ((crash % 3).toNat : Int)).1)) B2 v w2 from fun _ _ _ _ _ ⟨a, e, h⟩ m => ⟨a, e, Enc.mv _ h m⟩), fun _ _ _ _ _ h => h, TBx.st, trivial⟩ ⟨?_, ?_, ?_, ?_, ?_, ?_, ?_, ?_, ?_, ?_, ?_, ?_, trivial⟩ ?_ ?_
    ·intro F1 w1 B1_ Bs_ k1 hs_ hl_ hr_ hsep_ hf hd
     have k0 := (Keep.drew [] w7522).trans k1
     have bx7446 := bx7446.keep k0 (by simp)
     obtain ⟨F2, rfl⟩ := lit_of (F := F1) [(4, Value.pointer (some ⟨b7406, 0, none⟩))] ⟨hf 4 (by kernel_rfl), trivial⟩
     exact sp_plain rfl ((o_loadBxA (vs := [vI d.id, vI d.counter, d7404, Value.bool true]) Try.underlying31 rfl s_31 rfl bx7446 rfl (⟨[], (Keep.refl _ _), noC, rfl⟩)))
    ·intro F1 w1 B1_ Bs_ k1 hs_ hl_ hr_ hsep_ hf hd
     obtain ⟨F2, rfl⟩ := lit_of (F := F1) [(1, l_v)] ⟨hf 1 (by kernel_rfl), trivial⟩
     exact sp_plain rfl ((o_move (l_v) rfl (⟨[], (Keep.refl _ _), noC, h_l⟩)))
    ·intro F1 w1 B1_ Bs_ k1 hs_ hl_ hr_ hsep_ hf hd
     have k0 := (Keep.drew [] w7522).trans k1
     have s1 := s7523.adoptL k0 hl_
     have m1 : Mv (b7512 :: (b7486 :: (b7455 :: (b7406 :: [])))) w7522 B1_ w1 := Mv.adoptL k0 hl_
     have hd7405 := hd7405.mv m1
     obtain ⟨v7529, e7531, hl7530⟩ : ∃ v, F1 52 = v ∧ RdL Enc.devop w7522 ((b7512 :: (b7486 :: (b7455 :: (b7406 :: [])))) ++ O) v (l) := ⟨_, rfl, hd 1 52 (by kernel_rfl) (by kernel_rfl)⟩
     have := hl7530.len_le
     have hl7530 := hl7530.mv m1
     obtain ⟨F2, rfl⟩ := lit_of (F := F1) [(51, Value.agg #[vI d.id, vI d.counter, d7404, Value.bool true]), (52, v7529)] ⟨hd 0 51 (by kernel_rfl) (by kernel_rfl), e7531, trivial⟩
     refine sp_plain rfl ((o_callK (vs := [Value.agg #[vI d.id, vI d.counter, d7404, Value.bool true], v7529]) enter_47 (c_restore (O := B1_ ++ O) [vI d.id, vI d.counter, d7404, Value.bool true] (⟨d.id, d.counter, d.ops, true⟩ : Device) v7529 l w1 ⟨_, rfl, hd7405⟩ hl7530 (by first | omega | assumption | (simp; done)) s1.lt) rfl s1 fun v7532 w7533 s7534 m7535 k7536 r7537 => (?_)))
     obtain ⟨cs7538, rfl, hs7539⟩ := r7537
     exact ⟨[], k7536, noC, ⟨cs7538, rfl, hs7539⟩⟩
    ·intro F1 w1 B1_ Bs_ k1 hs_ hl_ hr_ hsep_ hf hd
     have k0 := (Keep.drew [] w7522).trans k1
     obtain ⟨F2, rfl⟩ := lit_of (F := F1) [(6, Value.pointer (some a7413))] ⟨hf 6 (by kernel_rfl), trivial⟩
     refine sp_plain rfl ((o_loadSU Try.underlying40 rfl s_40 rfl hp7418 k0 fun cs7540 hs7541 => (?_)))
     obtain rfl := hs7541
     exact ⟨[], (Keep.refl _ _), noC, rfl⟩
    ·intro F1 w1 B1_ Bs_ k1 hs_ hl_ hr_ hsep_ hf hd
     obtain ⟨F2, rfl⟩ := lit_of (F := F1) [(3, vB crash)] ⟨hf 3 (by kernel_rfl), trivial⟩
     exact sp_plain rfl ((o_move (vB crash) rfl (⟨[], (Keep.refl _ _), noC, rfl⟩)))
    ·intro F1 w1 B1_ Bs_ k1 hs_ hl_ hr_ hsep_ hf hd
     obtain ⟨F2, rfl⟩ := lit_of (F := F1) [(55, vB crash)] ⟨hd 4 55 (by kernel_rfl) (by kernel_rfl), trivial⟩
     exact sp_plain rfl ((o_rem8 crash (3 : UInt8) (by decide) rfl rfl (⟨[], (Keep.refl _ _), noC, rfl⟩)))
    ·intro F1 w1 B1_ Bs_ k1 hs_ hl_ hr_ hsep_ hf hd
     obtain ⟨F2, rfl⟩ := lit_of (F := F1) [(56, vB (crash % 3))] ⟨hd 5 56 (by kernel_rfl) (by kernel_rfl), trivial⟩
     exact sp_plain rfl ((o_conv .u8 .i64 Try.underlying5 Try.underlying3 ((crash % 3).toNat : Int) ((crash % 3).toNat : Int) rfl (by have := (crash % 3).toNat_lt; exact w64 (by omega) rfl) (⟨[], (Keep.refl _ _), noC, rfl⟩)))
    ·intro F1 w1 B1_ Bs_ k1 hs_ hl_ hr_ hsep_ hf hd
     have k0 := (Keep.drew [] w7522).trans k1
     have s1 := s7523.adoptL k0 hl_
     obtain ⟨cs7542, e7544, hs7543⟩ : ∃ cs : List Value, F1 53 = .agg cs.toArray ∧ Enc.device.rd w1 ((Bs_ 1) ++ O) cs (restoreM (⟨d.id, d.counter, d.ops, true⟩ : Device) l) := hd 2 53 (by kernel_rfl) (by kernel_rfl)
     have hs7543 : Enc.device.rd w1 (B1_ ++ O) cs7542 (restoreM (⟨d.id, d.counter, d.ops, true⟩ : Device) l) := Enc.mv Enc.device (x := restoreM (⟨d.id, d.counter, d.ops, true⟩ : Device) l) hs7543 (Mv.at_ (hr_ 1 (by kernel_rfl)))
     obtain ⟨F2, rfl⟩ := lit_of (F := F1) [(53, Value.agg cs7542.toArray), (54, Value.agg #[vI o.device, vI o.no, vI o.kind, vI o.copy, vI o.to, vI o.token]), (57, vI ((crash % 3).toNat : Int))] ⟨e7544, hd 3 54 (by kernel_rfl) (by kernel_rfl), hd 6 57 (by kernel_rfl) (by kernel_rfl), trivial⟩
     refine sp_plain rfl ((o_callK (vs := [Value.agg cs7542.toArray, Value.agg #[vI o.device, vI o.no, vI o.kind, vI o.copy, vI o.to, vI o.token], vI ((crash % 3).toNat : Int)]) enter_40 (c_act (O := B1_ ++ O) cs7542 (restoreM (⟨d.id, d.counter, d.ops, true⟩ : Device) l) [vI o.device, vI o.no, vI o.kind, vI o.copy, vI o.to, vI o.token] o ((crash % 3).toNat : Int) w1 hs7543 rfl s1.lt) rfl s1 fun v7545 w7546 s7547 m7548 k7549 r7550 => (?_)))
     obtain ⟨cs7551, rfl, hs7552⟩ := r7550
     exact ⟨[], k7549, noC, ⟨cs7551, rfl, hs7552⟩⟩
    ·intro F1 w1 B1_ Bs_ k1 hs_ hl_ hr_ hsep_ hf hd
     obtain ⟨cs7553, e7555, hs7554⟩ : (fun (vT : Value) (wT : World) => ∃ (xT0 : List Value), vT = .tuple #[.agg xT0.toArray, vI ((actM (restoreM (⟨d.id, d.counter, d.ops, true⟩ : Device) l) o ((crash % 3).toNat : Int)).2)] ∧ Enc.device.rd wT ((Bs_ 1) ++ O) xT0 ((actM (restoreM (⟨d.id, d.counter, d.ops, true⟩ : Device) l) o ((crash % 3).toNat : Int)).1)) (F1 58) w1 := hd 7 58 (by kernel_rfl) (by kernel_rfl)
     have hs7554 : Enc.device.rd w1 (B1_ ++ O) cs7553 ((actM (restoreM (⟨d.id, d.counter, d.ops, true⟩ : Device) l) o ((crash % 3).toNat : Int)).1) := Enc.mv Enc.device (x := (actM (restoreM (⟨d.id, d.counter, d.ops, true⟩ : Device) l) o ((crash % 3).toNat : Int)).1) hs7554 (Mv.at_ (hr_ 1 (by kernel_rfl)))
     obtain ⟨F2, rfl⟩ := lit_of (F := F1) [(58, Value.tuple #[Value.agg cs7553.toArray, vI ((actM (restoreM (⟨d.id, d.counter, d.ops, true⟩ : Device) l) o ((crash % 3).toNat : Int)).2)])] ⟨e7555, trivial⟩
     exact sp_plain rfl ((o_move (Value.tuple #[Value.agg cs7553.toArray, vI ((actM (restoreM (⟨d.id, d.counter, d.ops, true⟩ : Device) l) o ((crash % 3).toNat : Int)).2)]) rfl (⟨[], (Keep.refl _ _), noC, ⟨cs7553, rfl, hs7554⟩⟩)))
    ·intro F1 w1 B1_ Bs_ k1 hs_ hl_ hr_ hsep_ hf hd
     obtain ⟨cs7556, e7558, hs7557⟩ : (fun (vT : Value) (wT : World) => ∃ (xT0 : List Value), vT = .tuple #[.agg xT0.toArray, vI ((actM (restoreM (⟨d.id, d.counter, d.ops, true⟩ : Device) l) o ((crash % 3).toNat : Int)).2)] ∧ Enc.device.rd wT ((Bs_ 1) ++ O) xT0 ((actM (restoreM (⟨d.id, d.counter, d.ops, true⟩ : Device) l) o ((crash % 3).toNat : Int)).1)) (F1 50) w1 := hd 8 50 (by kernel_rfl) (by kernel_rfl)
     have hs7557 : Enc.device.rd w1 (B1_ ++ O) cs7556 ((actM (restoreM (⟨d.id, d.counter, d.ops, true⟩ : Device) l) o ((crash % 3).toNat : Int)).1) := Enc.mv Enc.device (x := (actM (restoreM (⟨d.id, d.counter, d.ops, true⟩ : Device) l) o ((crash % 3).toNat : Int)).1) hs7557 (Mv.at_ (hr_ 1 (by kernel_rfl)))
     obtain ⟨F2, rfl⟩ := lit_of (F := F1) [(50, Value.tuple #[Value.agg cs7556.toArray, vI ((actM (restoreM (⟨d.id, d.counter, d.ops, true⟩ : Device) l) o ((crash % 3).toNat : Int)).2)])] ⟨e7558, trivial⟩
     exact sp_plain rfl ((o_extract (Value.agg cs7556.toArray) rfl rfl (⟨[], (Keep.refl _ _), noC, ⟨cs7556, rfl, hs7557⟩⟩)))
    ·intro F1 w1 B1_ Bs_ k1 hs_ hl_ hr_ hsep_ hf hd
     obtain ⟨cs7559, e7561, hs7560⟩ : (fun (vT : Value) (wT : World) => ∃ (xT0 : List Value), vT = .tuple #[.agg xT0.toArray, vI ((actM (restoreM (⟨d.id, d.counter, d.ops, true⟩ : Device) l) o ((crash % 3).toNat : Int)).2)] ∧ Enc.device.rd wT ((Bs_ 1) ++ O) xT0 ((actM (restoreM (⟨d.id, d.counter, d.ops, true⟩ : Device) l) o ((crash % 3).toNat : Int)).1)) (F1 50) w1 := hd 8 50 (by kernel_rfl) (by kernel_rfl)
     obtain ⟨F2, rfl⟩ := lit_of (F := F1) [(50, Value.tuple #[Value.agg cs7559.toArray, vI ((actM (restoreM (⟨d.id, d.counter, d.ops, true⟩ : Device) l) o ((crash % 3).toNat : Int)).2)])] ⟨e7561, trivial⟩
     exact sp_plain rfl ((o_extract (vI ((actM (restoreM (⟨d.id, d.counter, d.ops, true⟩ : Device) l) o ((crash % 3).toNat : Int)).2)) rfl rfl (⟨[], (Keep.refl _ _), noC, rfl⟩)))
    ·intro F1 w1 B1_ Bs_ k1 hs_ hl_ hr_ hsep_ hf hd
     have k0 := (Keep.drew [] w7522).trans k1
     have s1 := s7523.adoptL k0 hl_
     obtain ⟨F2, rfl⟩ := lit_of (F := F1) [] trivial
     refine sp_plain rfl ((o_alloc [vI (0 : Int), vI (0 : Int), Value.slice none 0 0, Value.bool false] z_31 rfl s1 fun b7562 w7563 e7568 s7564 m7565 k7566 bx7567 => (?_)))
     have lo7569 : w7522.heap.size ≤ b7562 := by have := k0.size; omega
     exact ⟨[], k7566, noC, ⟨_, rfl, lo7569, (by intro h; have := lt_of s1 _ h; omega), bx7567⟩⟩
    ·intro F7571 w7572 Bs7577 k7570 hB7578 hl7579 sep7580 hT7573 hF7574
     obtain ⟨b7581, e7585, lo7582, hn7583, bx7586⟩ : (TBx w7522 31 [vI (0 : Int), vI (0 : Int), Value.slice none 0 0, Value.bool false]) (Bs7577 2) (F7571 15) w7572 := hT7573 11 15 (by kernel_rfl) (by decide) (by kernel_rfl) (by kernel_rfl)
     have hi7584 := bx7586.lt
     have hl7587 : ∀ x ∈ (b7512 :: (b7486 :: (b7455 :: (b7406 :: [])))), x ∈ (b7512 :: (b7486 :: (b7455 :: (b7406 :: [])))) ∨ (w7522.heap.size ≤ x ∧ x < w7572.heap.size) := fun x hx => .inl hx
     have hsu7588 : ∀ x ∈ (b7512 :: (b7486 :: (b7455 :: (b7406 :: [])))), x ∈ (b7512 :: (b7486 :: (b7455 :: (b7406 :: [])))) := fun x hx => hx
     have hq7589 : ∀ x ∈ (b7512 :: (b7486 :: (b7455 :: (b7406 :: [])))), x ∈ Bs7577 1 := fun x hx => hB7578 1 x hx
     have hq7590 : ∀ x ∈ (b7512 :: (b7486 :: (b7455 :: (b7406 :: [])))), x ∈ Bs7577 2 := fun x hx => hB7578 2 x hx
     have hl7591 : ∀ x ∈ (b7581 :: (b7512 :: (b7486 :: (b7455 :: (b7406 :: []))))), x ∈ (b7512 :: (b7486 :: (b7455 :: (b7406 :: [])))) ∨ (w7522.heap.size ≤ x ∧ x < w7572.heap.size) := fun x hx => by rcases List.mem_cons.1 hx with rfl | hx; exact .inr ⟨lo7582, hi7584⟩; exact hl7587 x hx
     have hsu7592 : ∀ x ∈ (b7512 :: (b7486 :: (b7455 :: (b7406 :: [])))), x ∈ (b7581 :: (b7512 :: (b7486 :: (b7455 :: (b7406 :: []))))) := fun x hx => List.mem_cons_of_mem _ (hsu7588 x hx)
     have hq7593 : ∀ x ∈ (b7581 :: (b7512 :: (b7486 :: (b7455 :: (b7406 :: []))))), x ∈ Bs7577 1 := fun x hx => by rcases List.mem_cons.1 hx with rfl | hx; exact sep7580 2 1 _ (by decide) lo7582 hi7584 hn7583; exact hq7589 x hx
     have s7575 := s7523.adoptL k7570 hl7591
     have m7576 : Mv (b7512 :: (b7486 :: (b7455 :: (b7406 :: [])))) w7522 (b7581 :: (b7512 :: (b7486 :: (b7455 :: (b7406 :: []))))) w7572 := Mv.adoptL k7570 hl7591
     have ne7594 : NeB b7406 b7581 := by show b7406 ≠ b7581; have := bx7446.lt; omega
     have ne7595 : NeB b7455 b7581 := by show b7455 ≠ b7581; have := bx7467.lt; omega
     have ne7596 : NeB b7486 b7581 := by show b7486 ≠ b7581; have := bx7499.lt; omega
     have ne7597 : NeB b7512 b7581 := by show b7512 ≠ b7581; have := bx7526.lt; omega
     obtain ⟨cs7598, e7600, hs7599⟩ : ∃ cs : List Value, F7571 59 = .agg cs.toArray ∧ Enc.device.rd w7572 ((Bs7577 1) ++ O) cs ((actM (restoreM (⟨d.id, d.counter, d.ops, true⟩ : Device) l) o ((crash % 3).toNat : Int)).1) := hT7573 9 59 (by kernel_rfl) (by decide) (by kernel_rfl) (by kernel_rfl)
     have hs7599 : Enc.device.rd w7572 ((b7581 :: (b7512 :: (b7486 :: (b7455 :: (b7406 :: []))))) ++ O) cs7598 ((actM (restoreM (⟨d.id, d.counter, d.ops, true⟩ : Device) l) o ((crash % 3).toNat : Int)).1) := Enc.mv Enc.device (x := (actM (restoreM (⟨d.id, d.counter, d.ops, true⟩ : Device) l) o ((crash % 3).toNat : Int)).1) hs7599 (Mv.at_ hq7593)
     have hd7469 := hd7469.mv m7576
     have hd7501 := hd7501.mv m7576
     have bx7467 := bx7467.keep k7570 (by simp)
     have bx7499 := bx7499.keep k7570 (by simp)
     obtain ⟨F2, rfl⟩ := lit_of (F := F7571) [(9, Value.pointer (some ⟨b7455, 0, none⟩)), (10, vI ((startM (⟨d.id, d.counter, d.ops, true⟩ : Device)).2)), (11, Value.pointer (some ⟨b7486, 0, none⟩)), (12, vI ((startM (restoreM (⟨d.id, d.counter, d.ops, true⟩ : Device) l)).2)), (14, vI ((actM (⟨d.id, d.counter, d.ops, true⟩ : Device) o ((crash % 3).toNat : Int)).2)), (91, undef), (15, Value.pointer (some ⟨b7581, 0, none⟩)), (59, Value.agg cs7598.toArray), (60, vI ((actM (restoreM (⟨d.id, d.counter, d.ops, true⟩ : Device) l) o ((crash % 3).toNat : Int)).2))] ⟨hF7574 9 (by kernel_rfl), hF7574 10 (by kernel_rfl), hF7574 11 (by kernel_rfl), hF7574 12 (by kernel_rfl), hF7574 14 (by kernel_rfl), hF7574 91 (by kernel_rfl), e7585, e7600, hT7573 10 60 (by kernel_rfl) (by decide) (by kernel_rfl) (by kernel_rfl), trivial⟩
     clear hT7573 hF7574 hB7578 hl7579 sep7580
     obtain ⟨d7606, rfl, hd7607⟩ := hs7599
     have := hd7607.len_le
     refine wl_n (o_store (vs := [vI (((actM (restoreM (⟨d.id, d.counter, d.ops, true⟩ : Device) l) o ((crash % 3).toNat : Int)).1).id), vI (((actM (restoreM (⟨d.id, d.counter, d.ops, true⟩ : Device) l) o ((crash % 3).toNat : Int)).1).counter), d7606, Value.bool (((actM (restoreM (⟨d.id, d.counter, d.ops, true⟩ : Device) l) o ((crash % 3).toNat : Int)).1).halted)]) (.agg #[vI (((actM (restoreM (⟨d.id, d.counter, d.ops, true⟩ : Device) l) o ((crash % 3).toNat : Int)).1).id), vI (((actM (restoreM (⟨d.id, d.counter, d.ops, true⟩ : Device) l) o ((crash % 3).toNat : Int)).1).counter), d7606, Value.bool (((actM (restoreM (⟨d.id, d.counter, d.ops, true⟩ : Device) l) o ((crash % 3).toNat : Int)).1).halted)]) rfl rfl rfl s_31 (fun u hu => by simp only [List.mem_cons, List.not_mem_nil, or_false] at hu; rcases hu with rfl | rfl | rfl | rfl <;> first | rfl | exact hd7607.oneCell) (by repeat (first | assumption | constructor)) bx7586 (of_decide_eq_true rfl) s7575 fun w7601 s7602 m7603 k7604 bx7605 => (?_))
     have hd7469 := hd7469.mv m7603
     have bx7467 := bx7467.keep k7604 (nin1 ne7595)
     have hd7501 := hd7501.mv m7603
     have bx7499 := bx7499.keep k7604 (nin1 ne7596)
     refine wl_s (o_assign (vI ((actM (restoreM (⟨d.id, d.counter, d.ops, true⟩ : Device) l) o ((crash % 3).toNat : Int)).2)) rfl (wl_nil (thenQ_n (?_))))
     exact ⟨(b7581 :: (b7512 :: (b7486 :: (b7455 :: (b7406 :: []))))), trivial, ⟨_, upds_self _ ⟨rfl, rfl, rfl, rfl, rfl, rfl, rfl, trivial⟩⟩, s7602, hd7469, bx7467, (by first | assumption | (repeat (first | exact List.mem_cons_self | assumption | apply List.mem_cons_of_mem)) | (apply_assumption; assumption)), hd7501, bx7499, (by first | assumption | (repeat (first | exact List.mem_cons_self | assumption | apply List.mem_cons_of_mem)) | (apply_assumption; assumption))⟩
    ·intro cx_ hcx_
     match cx_, hcx_ with
     | 0, _ =>
      intro F7609 w7610 Bs7615 k7608 hB7616 hl7617 sep7618 hT7611 hF7612
      obtain ⟨b7619, e7623, lo7620, hn7621, bx7624⟩ : (TBx w7522 31 [vI (0 : Int), vI (0 : Int), Value.slice none 0 0, Value.bool false]) (Bs7615 2) (F7609 15) w7610 := hT7611 11 15 (by kernel_rfl) (by decide) (by kernel_rfl) (by kernel_rfl)
      have hi7622 := bx7624.lt
      have hl7625 : ∀ x ∈ (b7512 :: (b7486 :: (b7455 :: (b7406 :: [])))), x ∈ (b7512 :: (b7486 :: (b7455 :: (b7406 :: [])))) ∨ (w7522.heap.size ≤ x ∧ x < w7610.heap.size) := fun x hx => .inl hx
      have hsu7626 : ∀ x ∈ (b7512 :: (b7486 :: (b7455 :: (b7406 :: [])))), x ∈ (b7512 :: (b7486 :: (b7455 :: (b7406 :: [])))) := fun x hx => hx
      have hq7627 : ∀ x ∈ (b7512 :: (b7486 :: (b7455 :: (b7406 :: [])))), x ∈ Bs7615 1 := fun x hx => hB7616 1 x hx
      have hq7628 : ∀ x ∈ (b7512 :: (b7486 :: (b7455 :: (b7406 :: [])))), x ∈ Bs7615 2 := fun x hx => hB7616 2 x hx
      have hl7629 : ∀ x ∈ (b7619 :: (b7512 :: (b7486 :: (b7455 :: (b7406 :: []))))), x ∈ (b7512 :: (b7486 :: (b7455 :: (b7406 :: [])))) ∨ (w7522.heap.size ≤ x ∧ x < w7610.heap.size) := fun x hx => by rcases List.mem_cons.1 hx with rfl | hx; exact .inr ⟨lo7620, hi7622⟩; exact hl7625 x hx
      have hsu7630 : ∀ x ∈ (b7512 :: (b7486 :: (b7455 :: (b7406 :: [])))), x ∈ (b7619 :: (b7512 :: (b7486 :: (b7455 :: (b7406 :: []))))) := fun x hx => List.mem_cons_of_mem _ (hsu7626 x hx)
      have hq7631 : ∀ x ∈ (b7619 :: (b7512 :: (b7486 :: (b7455 :: (b7406 :: []))))), x ∈ Bs7615 1 := fun x hx => by rcases List.mem_cons.1 hx with rfl | hx; exact sep7618 2 1 _ (by decide) lo7620 hi7622 hn7621; exact hq7627 x hx
      have s7613 := s7523.adoptL k7608 hl7629
      have m7614 : Mv (b7512 :: (b7486 :: (b7455 :: (b7406 :: [])))) w7522 (b7619 :: (b7512 :: (b7486 :: (b7455 :: (b7406 :: []))))) w7610 := Mv.adoptL k7608 hl7629
      have ne7632 : NeB b7406 b7619 := by show b7406 ≠ b7619; have := bx7446.lt; omega
      have ne7633 : NeB b7455 b7619 := by show b7455 ≠ b7619; have := bx7467.lt; omega
      have ne7634 : NeB b7486 b7619 := by show b7486 ≠ b7619; have := bx7499.lt; omega
      have ne7635 : NeB b7512 b7619 := by show b7512 ≠ b7619; have := bx7526.lt; omega
      obtain ⟨cs7636, e7638, hs7637⟩ : (fun (vT : Value) (wT : World) => ∃ (xT0 : List Value), vT = .tuple #[.agg xT0.toArray, vI ((actM (restoreM (⟨d.id, d.counter, d.ops, true⟩ : Device) l) o ((crash % 3).toNat : Int)).2)] ∧ Enc.device.rd wT ((Bs7615 1) ++ O) xT0 ((actM (restoreM (⟨d.id, d.counter, d.ops, true⟩ : Device) l) o ((crash % 3).toNat : Int)).1)) (F7609 50) w7610 := hT7611 8 50 (by kernel_rfl) (by decide) (by kernel_rfl) (by kernel_rfl)
      obtain ⟨cs7639, e7641, hs7640⟩ : ∃ cs : List Value, F7609 59 = .agg cs.toArray ∧ Enc.device.rd w7610 ((Bs7615 1) ++ O) cs ((actM (restoreM (⟨d.id, d.counter, d.ops, true⟩ : Device) l) o ((crash % 3).toNat : Int)).1) := hT7611 9 59 (by kernel_rfl) (by decide) (by kernel_rfl) (by kernel_rfl)
      have hs7640 : Enc.device.rd w7610 ((b7619 :: (b7512 :: (b7486 :: (b7455 :: (b7406 :: []))))) ++ O) cs7639 ((actM (restoreM (⟨d.id, d.counter, d.ops, true⟩ : Device) l) o ((crash % 3).toNat : Int)).1) := Enc.mv Enc.device (x := (actM (restoreM (⟨d.id, d.counter, d.ops, true⟩ : Device) l) o ((crash % 3).toNat : Int)).1) hs7640 (Mv.at_ hq7631)
      have hd7469 := hd7469.mv m7614
      have hd7501 := hd7501.mv m7614
      have bx7467 := bx7467.keep k7608 (by simp)
      have bx7499 := bx7499.keep k7608 (by simp)
      obtain ⟨F2, rfl⟩ := lit_of (F := F7609) [(9, Value.pointer (some ⟨b7455, 0, none⟩)), (10, vI ((startM (⟨d.id, d.counter, d.ops, true⟩ : Device)).2)), (11, Value.pointer (some ⟨b7486, 0, none⟩)), (12, vI ((startM (restoreM (⟨d.id, d.counter, d.ops, true⟩ : Device) l)).2)), (14, vI ((actM (⟨d.id, d.counter, d.ops, true⟩ : Device) o ((crash % 3).toNat : Int)).2)), (91, undef), (15, Value.pointer (some ⟨b7619, 0, none⟩)), (50, Value.tuple #[Value.agg cs7636.toArray, vI ((actM (restoreM (⟨d.id, d.counter, d.ops, true⟩ : Device) l) o ((crash % 3).toNat : Int)).2)]), (59, Value.agg cs7639.toArray)] ⟨hF7612 9 (by kernel_rfl), hF7612 10 (by kernel_rfl), hF7612 11 (by kernel_rfl), hF7612 12 (by kernel_rfl), hF7612 14 (by kernel_rfl), hF7612 91 (by kernel_rfl), e7623, e7638, e7641, trivial⟩
      clear hT7611 hF7612 hB7616 hl7617 sep7618
      obtain ⟨d7647, rfl, hd7648⟩ := hs7640
      have := hd7648.len_le
      refine wl_n (o_store (vs := [vI (((actM (restoreM (⟨d.id, d.counter, d.ops, true⟩ : Device) l) o ((crash % 3).toNat : Int)).1).id), vI (((actM (restoreM (⟨d.id, d.counter, d.ops, true⟩ : Device) l) o ((crash % 3).toNat : Int)).1).counter), d7647, Value.bool (((actM (restoreM (⟨d.id, d.counter, d.ops, true⟩ : Device) l) o ((crash % 3).toNat : Int)).1).halted)]) (.agg #[vI (((actM (restoreM (⟨d.id, d.counter, d.ops, true⟩ : Device) l) o ((crash % 3).toNat : Int)).1).id), vI (((actM (restoreM (⟨d.id, d.counter, d.ops, true⟩ : Device) l) o ((crash % 3).toNat : Int)).1).counter), d7647, Value.bool (((actM (restoreM (⟨d.id, d.counter, d.ops, true⟩ : Device) l) o ((crash % 3).toNat : Int)).1).halted)]) rfl rfl rfl s_31 (fun u hu => by simp only [List.mem_cons, List.not_mem_nil, or_false] at hu; rcases hu with rfl | rfl | rfl | rfl <;> first | rfl | exact hd7648.oneCell) (by repeat (first | assumption | constructor)) bx7624 (of_decide_eq_true rfl) s7613 fun w7642 s7643 m7644 k7645 bx7646 => (?_))
      have hd7469 := hd7469.mv m7644
      have bx7467 := bx7467.keep k7645 (nin1 ne7633)
      have hd7501 := hd7501.mv m7644
      have bx7499 := bx7499.keep k7645 (nin1 ne7634)
      refine wl_s (o_extract (vI ((actM (restoreM (⟨d.id, d.counter, d.ops, true⟩ : Device) l) o ((crash % 3).toNat : Int)).2)) rfl rfl (wl_s (o_assign (vI ((actM (restoreM (⟨d.id, d.counter, d.ops, true⟩ : Device) l) o ((crash % 3).toNat : Int)).2)) rfl (wl_nil (thenQ_n (?_))))))
      exact ⟨(b7619 :: (b7512 :: (b7486 :: (b7455 :: (b7406 :: []))))), trivial, ⟨_, upds_self _ ⟨rfl, rfl, rfl, rfl, rfl, rfl, rfl, trivial⟩⟩, s7643, hd7469, bx7467, (by first | assumption | (repeat (first | exact List.mem_cons_self | assumption | apply List.mem_cons_of_mem)) | (apply_assumption; assumption)), hd7501, bx7499, (by first | assumption | (repeat (first | exact List.mem_cons_self | assumption | apply List.mem_cons_of_mem)) | (apply_assumption; assumption))⟩
   ·intro F wlc61 hI
    clear hd7469 bx7467 hd7501 bx7499
    obtain ⟨Blc61, hmc61, ⟨Flc61, rfl⟩, slc61, hd7469, bx7467, hin_b7455, hd7501, bx7499, hin_b7486⟩ := hI
    refine cw_seq (?_)
    refine cw_region (by kernel_rfl) (wl_s (o_move (vI ((startM (⟨d.id, d.counter, d.ops, true⟩ : Device)).2)) rfl (wl_s (o_neq .i64 ((startM (⟨d.id, d.counter, d.ops, true⟩ : Device)).2) (0 : Int) rfl rfl (wl_s (o_move (Value.bool (((startM (⟨d.id, d.counter, d.ops, true⟩ : Device)).2) != (0 : Int))) rfl (?_)))))))
    have hb7649 : (((startM (⟨d.id, d.counter, d.ops, true⟩ : Device)).2) != (0 : Int)) = true := (bne_iff_ne.2 (halted_start (d := (⟨d.id, d.counter, d.ops, true⟩ : Device)) rfl).1)
    rw [hb7649]
    refine wl_t rfl (o_move (vI ((startM (restoreM (⟨d.id, d.counter, d.ops, true⟩ : Device) l)).2)) rfl (wl_t rfl (o_neq .i64 ((startM (restoreM (⟨d.id, d.counter, d.ops, true⟩ : Device) l)).2) (0 : Int) rfl rfl (wl_s (o_pickT (Value.bool (((startM (restoreM (⟨d.id, d.counter, d.ops, true⟩ : Device) l)).2) != (0 : Int))) rfl rfl (wl_s (o_move (Value.bool (((startM (restoreM (⟨d.id, d.counter, d.ops, true⟩ : Device) l)).2) != (0 : Int))) rfl (?_))))))))
    have hb7650 : (((startM (restoreM (⟨d.id, d.counter, d.ops, true⟩ : Device) l)).2) != (0 : Int)) = true := (bne_iff_ne.2 (halted_start (d := (restoreM (⟨d.id, d.counter, d.ops, true⟩ : Device) l)) rfl).1)
    rw [hb7650]
    refine wl_t rfl (o_move (vI ((actM (⟨d.id, d.counter, d.ops, true⟩ : Device) o ((crash % 3).toNat : Int)).2)) rfl (wl_t rfl (o_neq .i64 ((actM (⟨d.id, d.counter, d.ops, true⟩ : Device) o ((crash % 3).toNat : Int)).2) (0 : Int) rfl rfl (wl_s (o_pickT (Value.bool (((actM (⟨d.id, d.counter, d.ops, true⟩ : Device) o ((crash % 3).toNat : Int)).2) != (0 : Int))) rfl rfl (wl_s (o_move (Value.bool (((actM (⟨d.id, d.counter, d.ops, true⟩ : Device) o ((crash % 3).toNat : Int)).2) != (0 : Int))) rfl (?_))))))))
    have hb7651 : (((actM (⟨d.id, d.counter, d.ops, true⟩ : Device) o ((crash % 3).toNat : Int)).2) != (0 : Int)) = true := (bne_iff_ne.2 (halted_act rfl))
    rw [hb7651]
    refine wl_t rfl (o_move (vI ((actM (restoreM (⟨d.id, d.counter, d.ops, true⟩ : Device) l) o ((crash % 3).toNat : Int)).2)) rfl (wl_t rfl (o_neq .i64 ((actM (restoreM (⟨d.id, d.counter, d.ops, true⟩ : Device) l) o ((crash % 3).toNat : Int)).2) (0 : Int) rfl rfl (wl_s (o_pickT (Value.bool (((actM (restoreM (⟨d.id, d.counter, d.ops, true⟩ : Device) l) o ((crash % 3).toNat : Int)).2) != (0 : Int))) rfl rfl (wl_s (o_move (Value.bool (((actM (restoreM (⟨d.id, d.counter, d.ops, true⟩ : Device) l) o ((crash % 3).toNat : Int)).2) != (0 : Int))) rfl (?_))))))))
    have hb7652 : (((actM (restoreM (⟨d.id, d.counter, d.ops, true⟩ : Device) l) o ((crash % 3).toNat : Int)).2) != (0 : Int)) = true := (bne_iff_ne.2 (halted_act rfl))
    rw [hb7652]
    refine wl_t rfl (o_move (vI ((startM (⟨d.id, d.counter, d.ops, true⟩ : Device)).2)) rfl (wl_t rfl (o_neq .i64 ((startM (⟨d.id, d.counter, d.ops, true⟩ : Device)).2) (430 : Int) rfl rfl (wl_t rfl (o_move (Value.bool (((startM (⟨d.id, d.counter, d.ops, true⟩ : Device)).2) != (430 : Int))) rfl (?_))))))
    cases hb7653 : (((startM (⟨d.id, d.counter, d.ops, true⟩ : Device)).2) != (430 : Int))
    ·have hp7654 : (startM (⟨d.id, d.counter, d.ops, true⟩ : Device)).2 = (430 : Int) := by first | simpa using hb7653 | (have e := hb7653; simp at e; omega)
     refine wl_t rfl (o_fieldL 3 f_31_3 rfl (wl_t rfl (o_loadBx Try.underlying4 rfl (Value.bool (((startM (⟨d.id, d.counter, d.ops, true⟩ : Device)).1).halted)) rfl bx7467 rfl (wl_t rfl (o_pickF (Value.bool (((startM (⟨d.id, d.counter, d.ops, true⟩ : Device)).1).halted)) rfl rfl (wl_s (o_pickT (Value.bool (((startM (⟨d.id, d.counter, d.ops, true⟩ : Device)).1).halted)) rfl rfl (wl_s (o_move (Value.bool (((startM (⟨d.id, d.counter, d.ops, true⟩ : Device)).1).halted)) rfl (?_))))))))))
     have hb7655 : (((startM (⟨d.id, d.counter, d.ops, true⟩ : Device)).1).halted) = true := ((halted_start (d := (⟨d.id, d.counter, d.ops, true⟩ : Device)) rfl).2 (by assumption))
     rw [hb7655]
     refine wl_t rfl (o_move (vI ((startM (restoreM (⟨d.id, d.counter, d.ops, true⟩ : Device) l)).2)) rfl (wl_t rfl (o_neq .i64 ((startM (restoreM (⟨d.id, d.counter, d.ops, true⟩ : Device) l)).2) (430 : Int) rfl rfl (wl_t rfl (o_move (Value.bool (((startM (restoreM (⟨d.id, d.counter, d.ops, true⟩ : Device) l)).2) != (430 : Int))) rfl (?_))))))
     cases hb7656 : (((startM (restoreM (⟨d.id, d.counter, d.ops, true⟩ : Device) l)).2) != (430 : Int))
     ·have hp7657 : (startM (restoreM (⟨d.id, d.counter, d.ops, true⟩ : Device) l)).2 = (430 : Int) := by first | simpa using hb7656 | (have e := hb7656; simp at e; omega)
      refine wl_t rfl (o_fieldL 3 f_31_3 rfl (wl_t rfl (o_loadBx Try.underlying4 rfl (Value.bool (((startM (restoreM (⟨d.id, d.counter, d.ops, true⟩ : Device) l)).1).halted)) rfl bx7499 rfl (wl_t rfl (o_pickF (Value.bool (((startM (restoreM (⟨d.id, d.counter, d.ops, true⟩ : Device) l)).1).halted)) rfl rfl (wl_s (o_pickT (Value.bool (((startM (restoreM (⟨d.id, d.counter, d.ops, true⟩ : Device) l)).1).halted)) rfl rfl (wl_s (o_assign (Value.bool (((startM (restoreM (⟨d.id, d.counter, d.ops, true⟩ : Device) l)).1).halted)) rfl (wl_nil (thenQ_n (?_))))))))))))
      refine cw_ret (end_r rfl (res1 rfl rfl rfl) (?_))
      have e : true = (((startM (restoreM (⟨d.id, d.counter, d.ops, true⟩ : Device) l)).1).halted) := by first | rfl | exact ((halted_start (d := (⟨d.id, d.counter, d.ops, true⟩ : Device)) rfl).2 (by assumption)).symm | exact ((halted_start (d := restoreM (⟨d.id, d.counter, d.ops, true⟩ : Device) l) rfl).2 (by assumption)).symm
      exact ⟨_, rfl, slc61.keep, (by first | exact congrArg Value.bool e.symm | rfl)⟩
     ·have hp7658 : (startM (restoreM (⟨d.id, d.counter, d.ops, true⟩ : Device) l)).2 ≠ (430 : Int) := by first | simpa using hb7656 | (have e := hb7656; simp at e; omega)
      refine wl_k rfl (wl_k rfl (wl_t rfl (o_pickT (Value.bool true) rfl rfl (wl_s (o_pickT (Value.bool true) rfl rfl (wl_s (o_assign (Value.bool true) rfl (wl_nil (thenQ_n (?_))))))))))
      refine cw_ret (end_r rfl (res1 rfl rfl rfl) (?_))
      exact ⟨_, rfl, slc61.keep, rfl⟩
    ·have hp7659 : (startM (⟨d.id, d.counter, d.ops, true⟩ : Device)).2 ≠ (430 : Int) := by first | simpa using hb7653 | (have e := hb7653; simp at e; omega)
     refine wl_k rfl (wl_k rfl (wl_t rfl (o_pickT (Value.bool true) rfl rfl (wl_s (o_pickT (Value.bool true) rfl rfl (wl_s (o_move (Value.bool true) rfl (wl_t rfl (o_move (vI ((startM (restoreM (⟨d.id, d.counter, d.ops, true⟩ : Device) l)).2)) rfl (wl_t rfl (o_neq .i64 ((startM (restoreM (⟨d.id, d.counter, d.ops, true⟩ : Device) l)).2) (430 : Int) rfl rfl (wl_t rfl (o_move (Value.bool (((startM (restoreM (⟨d.id, d.counter, d.ops, true⟩ : Device) l)).2) != (430 : Int))) rfl (?_))))))))))))))
     cases hb7660 : (((startM (restoreM (⟨d.id, d.counter, d.ops, true⟩ : Device) l)).2) != (430 : Int))
     ·have hp7661 : (startM (restoreM (⟨d.id, d.counter, d.ops, true⟩ : Device) l)).2 = (430 : Int) := by first | simpa using hb7660 | (have e := hb7660; simp at e; omega)
      refine wl_t rfl (o_fieldL 3 f_31_3 rfl (wl_t rfl (o_loadBx Try.underlying4 rfl (Value.bool (((startM (restoreM (⟨d.id, d.counter, d.ops, true⟩ : Device) l)).1).halted)) rfl bx7499 rfl (wl_t rfl (o_pickF (Value.bool (((startM (restoreM (⟨d.id, d.counter, d.ops, true⟩ : Device) l)).1).halted)) rfl rfl (wl_s (o_pickT (Value.bool (((startM (restoreM (⟨d.id, d.counter, d.ops, true⟩ : Device) l)).1).halted)) rfl rfl (wl_s (o_assign (Value.bool (((startM (restoreM (⟨d.id, d.counter, d.ops, true⟩ : Device) l)).1).halted)) rfl (wl_nil (thenQ_n (?_))))))))))))
      refine cw_ret (end_r rfl (res1 rfl rfl rfl) (?_))
      have e : true = (((startM (restoreM (⟨d.id, d.counter, d.ops, true⟩ : Device) l)).1).halted) := by first | rfl | exact ((halted_start (d := (⟨d.id, d.counter, d.ops, true⟩ : Device)) rfl).2 (by assumption)).symm | exact ((halted_start (d := restoreM (⟨d.id, d.counter, d.ops, true⟩ : Device) l) rfl).2 (by assumption)).symm
      exact ⟨_, rfl, slc61.keep, (by first | exact congrArg Value.bool e.symm | rfl)⟩
     ·have hp7662 : (startM (restoreM (⟨d.id, d.counter, d.ops, true⟩ : Device) l)).2 ≠ (430 : Int) := by first | simpa using hb7660 | (have e := hb7660; simp at e; omega)
      refine wl_k rfl (wl_k rfl (wl_t rfl (o_pickT (Value.bool true) rfl rfl (wl_s (o_pickT (Value.bool true) rfl rfl (wl_s (o_assign (Value.bool true) rfl (wl_nil (thenQ_n (?_))))))))))
      refine cw_ret (end_r rfl (res1 rfl rfl rfl) (?_))
      exact ⟨_, rfl, slc61.keep, rfl⟩
 ·have hp7663 : 40 < (d.ops.length : Int) := by first | simpa using hb7431 | (have e := hb7431; rw [Bool.not_eq_true'] at e; exact e) | (have e := hb7431; rw [Bool.not_eq_false'] at e; exact e) | (have e := hb7431; simp at e; omega)
  refine wl_k rfl (wl_k rfl (wl_k rfl (wl_s (o_pickT (Value.bool true) rfl rfl (wl_nil (thenQ_n (?_)))))))
  refine cw_cond true rfl rfl (fun _ => ?_) (fun h => by cases h)
  refine cw_seq (?_)
  refine cw_region (by kernel_rfl) (wl_s (o_assign (Value.bool true) rfl (wl_nil (thenQ_n (?_)))))
  refine cw_ret (thenQ_r (end_r rfl (res1 rfl rfl rfl) (?_)))
  exact ⟨_, rfl, s7427.keep, rfl⟩

end Go.Proofs.Ytjpniibleelgiaa
