/- Walks, printed by gen.py. -/
import Derived.Test.YtpdekmknnpkmgaaWc
import Derived.Test.YtpdekmknnpkmgaaMgB
set_option linter.unusedSimpArgs false
set_option linter.unusedVariables false
namespace Go.Proofs.Ytpdekmknnpkmgaa
open Go.Fw Go.RowKit

set_option maxHeartbeats 4000000 in
set_option maxRecDepth 100000 in
theorem c_in {O : List Nat} (n : Int) (least : Int) (most : Int) (w : World) (hO : ∀ b ∈ O, b < w.heap.size) : CallsK Try.prog 32 [vI n, vI least, vI most] w (fun v _ => v = .bool (inM n least most)) :=  by
 have s0 : St w O w [] := St.start hO
 refine callsK_of 15 Try.func32 rfl rfl (of_decide_eq_true rfl) (fun F0 => ?_)
 refine cw_seq (?_)
 refine cw_region (by kernel_rfl) (wl_s (o_assign (Value.bool false) rfl (wl_nil (thenQ_n (?_)))))
 refine cw_seq (?_)
 refine cw_region (by kernel_rfl) (wl_s (o_move (vI n) rfl (wl_s (o_move (vI least) rfl (wl_s (o_geq .i64 n least rfl rfl (wl_s (o_move (Value.bool (decide (least ≤ n))) rfl (?_)))))))))
 cases hb2389 : (decide (least ≤ n))
 ·have hp2390 : n < least := by first | simpa using hb2389 | (have e := hb2389; simp at e; omega)
  refine wl_k rfl (wl_k rfl (wl_k rfl (wl_s (o_pickF (Value.bool false) rfl rfl (wl_s (o_assign (Value.bool false) rfl (wl_nil (thenQ_n (?_)))))))))
  refine cw_ret (end_r rfl (res1 rfl rfl rfl) (?_))
  have e : (inM n least most) = false := by simp [inM, *]
  exact ⟨_, rfl, s0.keep, by rw [e]; exact rfl⟩
 ·have hp2391 : least ≤ n := by first | simpa using hb2389 | (have e := hb2389; simp at e; omega)
  refine wl_t rfl (o_move (vI n) rfl (wl_t rfl (o_move (vI most) rfl (wl_t rfl (o_leq .i64 n most rfl rfl (wl_s (o_pickT (Value.bool (decide (n ≤ most))) rfl rfl (wl_s (o_assign (Value.bool (decide (n ≤ most))) rfl (wl_nil (thenQ_n (?_))))))))))))
  refine cw_ret (end_r rfl (res1 rfl rfl rfl) (?_))
  have e : (inM n least most) = (decide (n ≤ most)) := by simp [inM, *]
  exact ⟨_, rfl, s0.keep, by rw [e]; exact rfl⟩
set_option maxHeartbeats 4000000 in
set_option maxRecDepth 100000 in
theorem c_rising {O : List Nat} (l_v : Value) (l : List Int) (w : World) (h_l : RdL Enc.int w O l_v l) (hO : ∀ b ∈ O, b < w.heap.size) : CallsK Try.prog 35 [l_v] w (fun v _ => v = .bool (incM l)) :=  by
 have lim_l := h_l.len_le
 have h_l : RdL Enc.int w ([] ++ O) l_v l := h_l
 have s0 : St w O w [] := St.start hO
 refine callsK_of 32 Try.func35 rfl rfl (of_decide_eq_true rfl) (fun F0 => ?_)
 refine cw_seq (?_)
 refine cw_region (by kernel_rfl) (wl_s (o_assign (Value.bool false) rfl (wl_nil (thenQ_n (?_)))))
 refine cw_seq (?_)
 refine cw_seq (?_)
 refine cw_region (by kernel_rfl) (wl_s (o_assign (vI (0 : Int)) rfl (wl_nil (thenQ_n (?_)))))
 refine cw_block (?_)
 refine cw_loop (fun mI FI wI => ∃ (k : Nat) (B : List Nat), k ≤ l.length ∧ (∀ q, q < k → incBad l q = false) ∧ mI = l.length - k ∧ (∃ F1, FI = upds F1 [(0, l_v), (3, vI ((k : Nat) : Int)), (32, undef)]) ∧ St w O wI B ∧ RdL Enc.int wI (B ++ O) (l_v) (l)) (l.length - (0)) ?_ ?_
 ·exact ⟨(0), [], (by first | omega | (simp; done) | (simp; omega) | simp_all), (fun q hq => by omega), rfl, ⟨_, upds_self _ ⟨rfl, (by first | rfl | exact congrArg (Value.int _) (by first | omega | (simp))), rfl, trivial⟩⟩, s0, h_l⟩
 ·intro ml0 F wl0 hI
  clear h_l
  obtain ⟨k, Bl0, hr0_0, hr0_1, hm0, ⟨Fl0, rfl⟩, sl0, h_l⟩ := hI
  refine cw_seq (?_)
  refine cw_seq (?_)
  refine cw_region (by kernel_rfl) (wl_s (o_move (vI ((k : Nat) : Int)) rfl (wl_s (o_move (l_v) rfl (wl_s (o_lenR Try.underlying22 rfl h_l (wl_s (o_lss .i64 ((k : Nat) : Int) (l.length : Int) rfl rfl (wl_nil (thenQ_n (?_)))))))))))
  refine cw_cond (decide (((k : Nat) : Int) < (l.length : Int))) rfl rfl (fun hc2392 => ?_) (fun hc2392 => ?_)
  ·have hp2393 : ((k : Nat) : Int) < (l.length : Int) := by first | simpa using hc2392 | (have e := hc2392; simp at e; omega)
   refine cw_skip (thenQ_n (?_))
   refine cw_seq (?_)
   refine cw_block (?_)
   refine cw_seq (?_)
   cases hb2394 : (!(inM (l[k]!) (0 : Int) (4095 : Int)))
   ·have hp2395 : (inM (l[k]!) (0 : Int) (4095 : Int)) = true := by first | simpa using hb2394 | (have e := hb2394; simp at e; omega)
    cases hb2396 : (decide ((0 : Int) < ((k : Nat) : Int)))
    ·have hp2397 : ((k : Nat) : Int) ≤ (0 : Int) := by first | simpa using hb2396 | (have e := hb2396; simp at e; omega)
     refine cw_draw' 19 _ _ [fun (vT : Value) (wT : World) => RdL Enc.int wT (Bl0 ++ O) vT (l), isV (vI ((k : Nat) : Int)), fun (vT : Value) (wT : World) => ∃ aT, vT = .pointer (some aT) ∧ PT Enc.int wT (Bl0 ++ O) (.pointer (some aT)) (l[k]!), isV (vI (l[k]!)), isV (Value.bool (inM (l[k]!) (0 : Int) (4095 : Int))), isV (Value.bool false), isV (Value.bool false), isV (vI ((k : Nat) : Int)), isV (Value.bool false), isV (Value.bool false), isV undef, isV undef, isV undef, isV undef, isV undef, isV undef, isV undef, isV undef, isV undef] (by kernel_rfl) (by kernel_rfl) (by kernel_rfl) (by kernel_rfl) rfl rfl ⟨fun _ _ _ h k => h.mv (Mv.of_keep k), kI, fun _ _ _ ⟨a, e, h⟩ k => ⟨a, e, h.mv (Mv.of_keep k)⟩, kI, kI, kI, kI, kI, kI, kI, kI, kI, kI, kI, kI, kI, kI, kI, kI, trivial⟩ ⟨?_, ?_, ?_, ?_, ?_, ?_, ?_, ?_, ?_, ?_, ?_, ?_, ?_, ?_, ?_, ?_, ?_, ?_, ?_, trivial⟩ ?_
     ·intro F1 w1 k1 hf hd
      have k0 := (Keep.drew [] wl0).trans k1
      have m1 : Mv Bl0 wl0 Bl0 w1 := Mv.of_keep k0
      have h_l := h_l.mv m1
      obtain ⟨F2, rfl⟩ := lit_of (F := F1) [(0, l_v)] ⟨hf 0 (by kernel_rfl), trivial⟩
      exact sp_plain rfl ((o_move (l_v) rfl (⟨(Keep.refl _ _), h_l⟩)))
     ·intro F1 w1 k1 hf hd
      obtain ⟨F2, rfl⟩ := lit_of (F := F1) [(3, vI ((k : Nat) : Int))] ⟨hf 3 (by kernel_rfl), trivial⟩
      exact sp_plain rfl ((o_move (vI ((k : Nat) : Int)) rfl (⟨(Keep.refl _ _), rfl⟩)))
     ·intro F1 w1 k1 hf hd
      obtain ⟨v2398, e2400, hl2399⟩ : ∃ v, F1 10 = v ∧ RdL Enc.int w1 (Bl0 ++ O) v (l) := ⟨_, rfl, hd 0 10 (by kernel_rfl)⟩
      have := hl2399.len_le
      obtain ⟨F2, rfl⟩ := lit_of (F := F1) [(10, v2398), (11, vI ((k : Nat) : Int))] ⟨e2400, hd 1 11 (by kernel_rfl), trivial⟩
      exact sp_plain rfl ((o_idx Try.underlying22 s_3 .i64 ((k : Nat) : Int) k rfl rfl rfl hl2399 (by omega) fun a2401 hp2402 => (⟨(Keep.refl _ _), ⟨a2401, rfl, hp2402⟩⟩)))
     ·intro F1 w1 k1 hf hd
      obtain ⟨a2403, e2405, hp2404⟩ : ∃ a, F1 12 = .pointer (some a) ∧ PT Enc.int w1 (Bl0 ++ O) (.pointer (some a)) (l[k]!) := hd 2 12 (by kernel_rfl)
      obtain ⟨F2, rfl⟩ := lit_of (F := F1) [(12, Value.pointer (some a2403))] ⟨e2405, trivial⟩
      exact sp_plain rfl ((o_loadI Try.underlying3 rfl rfl hp2404 (⟨(Keep.refl _ _), rfl⟩)))
     ·intro F1 w1 k1 hf hd
      have k0 := (Keep.drew [] wl0).trans k1
      have s1 := sl0.call k0
      obtain ⟨F2, rfl⟩ := lit_of (F := F1) [(13, vI (l[k]!))] ⟨hd 3 13 (by kernel_rfl), trivial⟩
      refine sp_plain rfl ((o_callK (vs := [vI (l[k]!), vI (0 : Int), vI (4095 : Int)]) enter_32 (c_in (O := Bl0 ++ O) (l[k]!) (0 : Int) (4095 : Int) w1 s1.lt) rfl s1 fun v2406 w2407 s2408 m2409 k2410 r2411 => (?_)))
      obtain rfl := r2411
      exact ⟨k2410, rfl⟩
     ·intro F1 w1 k1 hf hd
      obtain ⟨F2, rfl⟩ := lit_of (F := F1) [(14, Value.bool (inM (l[k]!) (0 : Int) (4095 : Int)))] ⟨hd 4 14 (by kernel_rfl), trivial⟩
      refine sp_plain rfl ((o_not (inM (l[k]!) (0 : Int) (4095 : Int)) rfl (?_)))
      exact ⟨(Keep.refl _ _), congrArg Value.bool (hb2394)⟩
     ·intro F1 w1 k1 hf hd
      obtain ⟨F2, rfl⟩ := lit_of (F := F1) [(15, Value.bool false)] ⟨hd 5 15 (by kernel_rfl), trivial⟩
      exact sp_plain rfl ((o_move (Value.bool false) rfl (⟨(Keep.refl _ _), rfl⟩)))
     ·intro F1 w1 k1 hf hd
      obtain ⟨F2, rfl⟩ := lit_of (F := F1) [(3, vI ((k : Nat) : Int)), (16, Value.bool false)] ⟨hf 3 (by kernel_rfl), hd 6 16 (by kernel_rfl), trivial⟩
      exact sp_take rfl rfl ((o_move (vI ((k : Nat) : Int)) rfl (⟨(Keep.refl _ _), rfl⟩)))
     ·intro F1 w1 k1 hf hd
      obtain ⟨F2, rfl⟩ := lit_of (F := F1) [(16, Value.bool false), (17, vI ((k : Nat) : Int))] ⟨hd 6 16 (by kernel_rfl), hd 7 17 (by kernel_rfl), trivial⟩
      refine sp_take rfl rfl ((o_gtr .i64 ((k : Nat) : Int) (0 : Int) rfl rfl (?_)))
      exact ⟨(Keep.refl _ _), congrArg Value.bool (hb2396)⟩
     ·intro F1 w1 k1 hf hd
      obtain ⟨F2, rfl⟩ := lit_of (F := F1) [(16, Value.bool false), (18, Value.bool false)] ⟨hd 6 16 (by kernel_rfl), hd 8 18 (by kernel_rfl), trivial⟩
      exact sp_take rfl rfl ((o_move (Value.bool false) rfl (⟨(Keep.refl _ _), rfl⟩)))
     ·intro F1 w1 k1 hf hd
      exact sp_skipD rfl rfl (hd 9 19 (by kernel_rfl)) rfl rfl
     ·intro F1 w1 k1 hf hd
      exact sp_skipD rfl rfl (hd 9 19 (by kernel_rfl)) rfl rfl
     ·intro F1 w1 k1 hf hd
      exact sp_skipD rfl rfl (hd 9 19 (by kernel_rfl)) rfl rfl
     ·intro F1 w1 k1 hf hd
      exact sp_skipD rfl rfl (hd 9 19 (by kernel_rfl)) rfl rfl
     ·intro F1 w1 k1 hf hd
      exact sp_skipD rfl rfl (hd 9 19 (by kernel_rfl)) rfl rfl
     ·intro F1 w1 k1 hf hd
      exact sp_skipD rfl rfl (hd 9 19 (by kernel_rfl)) rfl rfl
     ·intro F1 w1 k1 hf hd
      exact sp_skipD rfl rfl (hd 9 19 (by kernel_rfl)) rfl rfl
     ·intro F1 w1 k1 hf hd
      exact sp_skipD rfl rfl (hd 9 19 (by kernel_rfl)) rfl rfl
     ·intro F1 w1 k1 hf hd
      exact sp_skipD rfl rfl (hd 9 19 (by kernel_rfl)) rfl rfl
     intro F2413 w2414 k2412 hT2415 hF2416
     have s2417 := sl0.call k2412
     have m2418 : Mv Bl0 wl0 Bl0 w2414 := Mv.of_keep k2412
     have h_l := h_l.mv m2418
     obtain ⟨F2, rfl⟩ := lit_of (F := F2413) [(0, l_v), (3, vI ((k : Nat) : Int)), (32, undef), (16, Value.bool false), (19, Value.bool false)] ⟨hF2416 0 (by kernel_rfl), hF2416 3 (by kernel_rfl), hF2416 32 (by kernel_rfl), hT2415 6 16 (by kernel_rfl) (by decide), hT2415 9 19 (by kernel_rfl) (by decide), trivial⟩
     clear hT2415 hF2416
     refine wl_k rfl (wl_t rfl (o_pickF (Value.bool false) rfl rfl (wl_s (o_pickF (Value.bool false) rfl rfl (wl_nil (thenQ_n (?_)))))))
     refine cw_cond false rfl rfl (fun h => by cases h) (fun _ => ?_)
     refine cw_skip (blockQ_n (thenQ_n (?_)))
     refine cw_region (by kernel_rfl) (wl_s (o_move (vI ((k : Nat) : Int)) rfl (wl_s (o_add .i64 ((k : Nat) : Int) (1 : Int) (((k + 1 : Nat) : Int)) rfl rfl (w64 (by omega) (by omega)) (wl_s (o_assign (vI ((k + 1 : Nat) : Int)) rfl (wl_nil (thenQ_n (?_)))))))))
     exact ⟨_, (by omega), (k + 1), Bl0, (by first | omega | (simp; done) | (simp; omega) | simp_all), (by first | exact ris_ok1 hr0_1 (by assumption) (by omega) | exact ris_ok2 hr0_1 (by assumption) (by assumption) (by omega)), rfl, ⟨_, upds_self _ ⟨rfl, (by first | rfl | exact congrArg (Value.int _) (by first | omega | (simp))), rfl, trivial⟩⟩, s2417, h_l⟩
    ·have hp2420 : (0 : Int) < ((k : Nat) : Int) := by first | simpa using hb2396 | (have e := hb2396; simp at e; omega)
     refine cw_draw' 19 _ _ [fun (vT : Value) (wT : World) => RdL Enc.int wT (Bl0 ++ O) vT (l), isV (vI ((k : Nat) : Int)), fun (vT : Value) (wT : World) => ∃ aT, vT = .pointer (some aT) ∧ PT Enc.int wT (Bl0 ++ O) (.pointer (some aT)) (l[k]!), isV (vI (l[k]!)), isV (Value.bool (inM (l[k]!) (0 : Int) (4095 : Int))), isV (Value.bool false), isV (Value.bool false), isV (vI ((k : Nat) : Int)), isV (Value.bool true), isV (Value.bool true), fun (vT : Value) (wT : World) => RdL Enc.int wT (Bl0 ++ O) vT (l), isV (vI ((k : Nat) : Int)), isV (vI ((k - 1 : Nat) : Int)), fun (vT : Value) (wT : World) => ∃ aT, vT = .pointer (some aT) ∧ PT Enc.int wT (Bl0 ++ O) (.pointer (some aT)) (l[k - 1]!), isV (vI (l[k - 1]!)), fun (vT : Value) (wT : World) => RdL Enc.int wT (Bl0 ++ O) vT (l), isV (vI ((k : Nat) : Int)), fun (vT : Value) (wT : World) => ∃ aT, vT = .pointer (some aT) ∧ PT Enc.int wT (Bl0 ++ O) (.pointer (some aT)) (l[k]!), isV (vI (l[k]!))] (by kernel_rfl) (by kernel_rfl) (by kernel_rfl) (by kernel_rfl) rfl rfl ⟨fun _ _ _ h k => h.mv (Mv.of_keep k), kI, fun _ _ _ ⟨a, e, h⟩ k => ⟨a, e, h.mv (Mv.of_keep k)⟩, kI, kI, kI, kI, kI, kI, kI, fun _ _ _ h k => h.mv (Mv.of_keep k), kI, kI, fun _ _ _ ⟨a, e, h⟩ k => ⟨a, e, h.mv (Mv.of_keep k)⟩, kI, fun _ _ _ h k => h.mv (Mv.of_keep k), kI, fun _ _ _ ⟨a, e, h⟩ k => ⟨a, e, h.mv (Mv.of_keep k)⟩, kI, trivial⟩ ⟨?_, ?_, ?_, ?_, ?_, ?_, ?_, ?_, ?_, ?_, ?_, ?_, ?_, ?_, ?_, ?_, ?_, ?_, ?_, trivial⟩ ?_
     ·intro F1 w1 k1 hf hd
      have k0 := (Keep.drew [] wl0).trans k1
      have m1 : Mv Bl0 wl0 Bl0 w1 := Mv.of_keep k0
      have h_l := h_l.mv m1
      obtain ⟨F2, rfl⟩ := lit_of (F := F1) [(0, l_v)] ⟨hf 0 (by kernel_rfl), trivial⟩
      exact sp_plain rfl ((o_move (l_v) rfl (⟨(Keep.refl _ _), h_l⟩)))
     ·intro F1 w1 k1 hf hd
      obtain ⟨F2, rfl⟩ := lit_of (F := F1) [(3, vI ((k : Nat) : Int))] ⟨hf 3 (by kernel_rfl), trivial⟩
      exact sp_plain rfl ((o_move (vI ((k : Nat) : Int)) rfl (⟨(Keep.refl _ _), rfl⟩)))
     ·intro F1 w1 k1 hf hd
      obtain ⟨v2421, e2423, hl2422⟩ : ∃ v, F1 10 = v ∧ RdL Enc.int w1 (Bl0 ++ O) v (l) := ⟨_, rfl, hd 0 10 (by kernel_rfl)⟩
      have := hl2422.len_le
      obtain ⟨F2, rfl⟩ := lit_of (F := F1) [(10, v2421), (11, vI ((k : Nat) : Int))] ⟨e2423, hd 1 11 (by kernel_rfl), trivial⟩
      exact sp_plain rfl ((o_idx Try.underlying22 s_3 .i64 ((k : Nat) : Int) k rfl rfl rfl hl2422 (by omega) fun a2424 hp2425 => (⟨(Keep.refl _ _), ⟨a2424, rfl, hp2425⟩⟩)))
     ·intro F1 w1 k1 hf hd
      obtain ⟨a2426, e2428, hp2427⟩ : ∃ a, F1 12 = .pointer (some a) ∧ PT Enc.int w1 (Bl0 ++ O) (.pointer (some a)) (l[k]!) := hd 2 12 (by kernel_rfl)
      obtain ⟨F2, rfl⟩ := lit_of (F := F1) [(12, Value.pointer (some a2426))] ⟨e2428, trivial⟩
      exact sp_plain rfl ((o_loadI Try.underlying3 rfl rfl hp2427 (⟨(Keep.refl _ _), rfl⟩)))
     ·intro F1 w1 k1 hf hd
      have k0 := (Keep.drew [] wl0).trans k1
      have s1 := sl0.call k0
      obtain ⟨F2, rfl⟩ := lit_of (F := F1) [(13, vI (l[k]!))] ⟨hd 3 13 (by kernel_rfl), trivial⟩
      refine sp_plain rfl ((o_callK (vs := [vI (l[k]!), vI (0 : Int), vI (4095 : Int)]) enter_32 (c_in (O := Bl0 ++ O) (l[k]!) (0 : Int) (4095 : Int) w1 s1.lt) rfl s1 fun v2429 w2430 s2431 m2432 k2433 r2434 => (?_)))
      obtain rfl := r2434
      exact ⟨k2433, rfl⟩
     ·intro F1 w1 k1 hf hd
      obtain ⟨F2, rfl⟩ := lit_of (F := F1) [(14, Value.bool (inM (l[k]!) (0 : Int) (4095 : Int)))] ⟨hd 4 14 (by kernel_rfl), trivial⟩
      refine sp_plain rfl ((o_not (inM (l[k]!) (0 : Int) (4095 : Int)) rfl (?_)))
      exact ⟨(Keep.refl _ _), congrArg Value.bool (hb2394)⟩
     ·intro F1 w1 k1 hf hd
      obtain ⟨F2, rfl⟩ := lit_of (F := F1) [(15, Value.bool false)] ⟨hd 5 15 (by kernel_rfl), trivial⟩
      exact sp_plain rfl ((o_move (Value.bool false) rfl (⟨(Keep.refl _ _), rfl⟩)))
     ·intro F1 w1 k1 hf hd
      obtain ⟨F2, rfl⟩ := lit_of (F := F1) [(3, vI ((k : Nat) : Int)), (16, Value.bool false)] ⟨hf 3 (by kernel_rfl), hd 6 16 (by kernel_rfl), trivial⟩
      exact sp_take rfl rfl ((o_move (vI ((k : Nat) : Int)) rfl (⟨(Keep.refl _ _), rfl⟩)))
     ·intro F1 w1 k1 hf hd
      obtain ⟨F2, rfl⟩ := lit_of (F := F1) [(16, Value.bool false), (17, vI ((k : Nat) : Int))] ⟨hd 6 16 (by kernel_rfl), hd 7 17 (by kernel_rfl), trivial⟩
      refine sp_take rfl rfl ((o_gtr .i64 ((k : Nat) : Int) (0 : Int) rfl rfl (?_)))
      exact ⟨(Keep.refl _ _), congrArg Value.bool (hb2396)⟩
     ·intro F1 w1 k1 hf hd
      obtain ⟨F2, rfl⟩ := lit_of (F := F1) [(16, Value.bool false), (18, Value.bool true)] ⟨hd 6 16 (by kernel_rfl), hd 8 18 (by kernel_rfl), trivial⟩
      exact sp_take rfl rfl ((o_move (Value.bool true) rfl (⟨(Keep.refl _ _), rfl⟩)))
     ·intro F1 w1 k1 hf hd
      have k0 := (Keep.drew [] wl0).trans k1
      have m1 : Mv Bl0 wl0 Bl0 w1 := Mv.of_keep k0
      have h_l := h_l.mv m1
      obtain ⟨F2, rfl⟩ := lit_of (F := F1) [(0, l_v), (19, Value.bool true)] ⟨hf 0 (by kernel_rfl), hd 9 19 (by kernel_rfl), trivial⟩
      exact sp_take rfl rfl ((o_move (l_v) rfl (⟨(Keep.refl _ _), h_l⟩)))
     ·intro F1 w1 k1 hf hd
      obtain ⟨F2, rfl⟩ := lit_of (F := F1) [(3, vI ((k : Nat) : Int)), (19, Value.bool true)] ⟨hf 3 (by kernel_rfl), hd 9 19 (by kernel_rfl), trivial⟩
      exact sp_take rfl rfl ((o_move (vI ((k : Nat) : Int)) rfl (⟨(Keep.refl _ _), rfl⟩)))
     ·intro F1 w1 k1 hf hd
      obtain ⟨F2, rfl⟩ := lit_of (F := F1) [(19, Value.bool true), (21, vI ((k : Nat) : Int))] ⟨hd 9 19 (by kernel_rfl), hd 11 21 (by kernel_rfl), trivial⟩
      exact sp_take rfl rfl ((o_sub .i64 ((k : Nat) : Int) (1 : Int) (((k - 1 : Nat) : Int)) rfl rfl (w64 (by omega) (by omega)) (⟨(Keep.refl _ _), rfl⟩)))
     ·intro F1 w1 k1 hf hd
      obtain ⟨v2435, e2437, hl2436⟩ : ∃ v, F1 20 = v ∧ RdL Enc.int w1 (Bl0 ++ O) v (l) := ⟨_, rfl, hd 10 20 (by kernel_rfl)⟩
      have := hl2436.len_le
      obtain ⟨F2, rfl⟩ := lit_of (F := F1) [(19, Value.bool true), (20, v2435), (22, vI ((k - 1 : Nat) : Int))] ⟨hd 9 19 (by kernel_rfl), e2437, hd 12 22 (by kernel_rfl), trivial⟩
      exact sp_take rfl rfl ((o_idx Try.underlying22 s_3 .i64 ((k - 1 : Nat) : Int) (k - 1) rfl rfl rfl hl2436 (by omega) fun a2438 hp2439 => (⟨(Keep.refl _ _), ⟨a2438, rfl, hp2439⟩⟩)))
     ·intro F1 w1 k1 hf hd
      obtain ⟨a2440, e2442, hp2441⟩ : ∃ a, F1 23 = .pointer (some a) ∧ PT Enc.int w1 (Bl0 ++ O) (.pointer (some a)) (l[k - 1]!) := hd 13 23 (by kernel_rfl)
      obtain ⟨F2, rfl⟩ := lit_of (F := F1) [(19, Value.bool true), (23, Value.pointer (some a2440))] ⟨hd 9 19 (by kernel_rfl), e2442, trivial⟩
      exact sp_take rfl rfl ((o_loadI Try.underlying3 rfl rfl hp2441 (⟨(Keep.refl _ _), rfl⟩)))
     ·intro F1 w1 k1 hf hd
      have k0 := (Keep.drew [] wl0).trans k1
      have m1 : Mv Bl0 wl0 Bl0 w1 := Mv.of_keep k0
      have h_l := h_l.mv m1
      obtain ⟨F2, rfl⟩ := lit_of (F := F1) [(0, l_v), (19, Value.bool true)] ⟨hf 0 (by kernel_rfl), hd 9 19 (by kernel_rfl), trivial⟩
      exact sp_take rfl rfl ((o_move (l_v) rfl (⟨(Keep.refl _ _), h_l⟩)))
     ·intro F1 w1 k1 hf hd
      obtain ⟨F2, rfl⟩ := lit_of (F := F1) [(3, vI ((k : Nat) : Int)), (19, Value.bool true)] ⟨hf 3 (by kernel_rfl), hd 9 19 (by kernel_rfl), trivial⟩
      exact sp_take rfl rfl ((o_move (vI ((k : Nat) : Int)) rfl (⟨(Keep.refl _ _), rfl⟩)))
     ·intro F1 w1 k1 hf hd
      obtain ⟨v2443, e2445, hl2444⟩ : ∃ v, F1 25 = v ∧ RdL Enc.int w1 (Bl0 ++ O) v (l) := ⟨_, rfl, hd 15 25 (by kernel_rfl)⟩
      have := hl2444.len_le
      obtain ⟨F2, rfl⟩ := lit_of (F := F1) [(19, Value.bool true), (25, v2443), (26, vI ((k : Nat) : Int))] ⟨hd 9 19 (by kernel_rfl), e2445, hd 16 26 (by kernel_rfl), trivial⟩
      exact sp_take rfl rfl ((o_idx Try.underlying22 s_3 .i64 ((k : Nat) : Int) k rfl rfl rfl hl2444 (by omega) fun a2446 hp2447 => (⟨(Keep.refl _ _), ⟨a2446, rfl, hp2447⟩⟩)))
     ·intro F1 w1 k1 hf hd
      obtain ⟨a2448, e2450, hp2449⟩ : ∃ a, F1 27 = .pointer (some a) ∧ PT Enc.int w1 (Bl0 ++ O) (.pointer (some a)) (l[k]!) := hd 17 27 (by kernel_rfl)
      obtain ⟨F2, rfl⟩ := lit_of (F := F1) [(19, Value.bool true), (27, Value.pointer (some a2448))] ⟨hd 9 19 (by kernel_rfl), e2450, trivial⟩
      exact sp_take rfl rfl ((o_loadI Try.underlying3 rfl rfl hp2449 (⟨(Keep.refl _ _), rfl⟩)))
     intro F2452 w2453 k2451 hT2454 hF2455
     have s2456 := sl0.call k2451
     have m2457 : Mv Bl0 wl0 Bl0 w2453 := Mv.of_keep k2451
     have h_l := h_l.mv m2457
     obtain ⟨F2, rfl⟩ := lit_of (F := F2452) [(0, l_v), (3, vI ((k : Nat) : Int)), (32, undef), (16, Value.bool false), (19, Value.bool true), (24, vI (l[k - 1]!)), (28, vI (l[k]!))] ⟨hF2455 0 (by kernel_rfl), hF2455 3 (by kernel_rfl), hF2455 32 (by kernel_rfl), hT2454 6 16 (by kernel_rfl) (by decide), hT2454 9 19 (by kernel_rfl) (by decide), hT2454 14 24 (by kernel_rfl) (by decide), hT2454 18 28 (by kernel_rfl) (by decide), trivial⟩
     clear hT2454 hF2455
     refine wl_t rfl (o_geq .i64 (l[k - 1]!) (l[k]!) rfl rfl (wl_t rfl (o_pickT (Value.bool (decide (l[k]! ≤ l[k - 1]!))) rfl rfl (wl_s (o_pickF (Value.bool (decide (l[k]! ≤ l[k - 1]!))) rfl rfl (wl_nil (thenQ_n (?_))))))))
     refine cw_cond (decide (l[k]! ≤ l[k - 1]!)) rfl rfl (fun hc2459 => ?_) (fun hc2459 => ?_)
     ·have hp2460 : l[k]! ≤ l[k - 1]! := by first | simpa using hc2459 | (have e := hc2459; simp at e; omega)
      refine cw_seq (?_)
      refine cw_region (by kernel_rfl) (wl_s (o_assign (Value.bool false) rfl (wl_nil (thenQ_n (?_)))))
      refine cw_ret (blockQ_r (thenQ_r (thenQ_r (blockQ_r (thenQ_r (end_r rfl (res1 rfl rfl rfl) (?_)))))))
      have e : (incM l) = false := by first | exact ris_no1 (k := k) (by omega) (by assumption) | exact ris_no2 (k := k) (by omega) (by assumption) (by omega) | exact ris_all (fun q hq => hr0_1 q (by omega))
      exact ⟨_, rfl, s2456.keep, by rw [e]; exact rfl⟩
     ·have hp2461 : l[k - 1]! < l[k]! := by first | simpa using hc2459 | (have e := hc2459; simp at e; omega)
      refine cw_skip (blockQ_n (thenQ_n (?_)))
      refine cw_region (by kernel_rfl) (wl_s (o_move (vI ((k : Nat) : Int)) rfl (wl_s (o_add .i64 ((k : Nat) : Int) (1 : Int) (((k + 1 : Nat) : Int)) rfl rfl (w64 (by omega) (by omega)) (wl_s (o_assign (vI ((k + 1 : Nat) : Int)) rfl (wl_nil (thenQ_n (?_)))))))))
      exact ⟨_, (by omega), (k + 1), Bl0, (by first | omega | (simp; done) | (simp; omega) | simp_all), (by first | exact ris_ok1 hr0_1 (by assumption) (by omega) | exact ris_ok2 hr0_1 (by assumption) (by assumption) (by omega)), rfl, ⟨_, upds_self _ ⟨rfl, (by first | rfl | exact congrArg (Value.int _) (by first | omega | (simp))), rfl, trivial⟩⟩, s2456, h_l⟩
   ·have hp2462 : (inM (l[k]!) (0 : Int) (4095 : Int)) = false := by first | simpa using hb2394 | (have e := hb2394; simp at e; omega)
    refine cw_draw' 19 _ _ [fun (vT : Value) (wT : World) => RdL Enc.int wT (Bl0 ++ O) vT (l), isV (vI ((k : Nat) : Int)), fun (vT : Value) (wT : World) => ∃ aT, vT = .pointer (some aT) ∧ PT Enc.int wT (Bl0 ++ O) (.pointer (some aT)) (l[k]!), isV (vI (l[k]!)), isV (Value.bool (inM (l[k]!) (0 : Int) (4095 : Int))), isV (Value.bool true), isV (Value.bool true), isV undef, isV undef, isV undef, isV undef, isV undef, isV undef, isV undef, isV undef, isV undef, isV undef, isV undef, isV undef] (by kernel_rfl) (by kernel_rfl) (by kernel_rfl) (by kernel_rfl) rfl rfl ⟨fun _ _ _ h k => h.mv (Mv.of_keep k), kI, fun _ _ _ ⟨a, e, h⟩ k => ⟨a, e, h.mv (Mv.of_keep k)⟩, kI, kI, kI, kI, kI, kI, kI, kI, kI, kI, kI, kI, kI, kI, kI, kI, trivial⟩ ⟨?_, ?_, ?_, ?_, ?_, ?_, ?_, ?_, ?_, ?_, ?_, ?_, ?_, ?_, ?_, ?_, ?_, ?_, ?_, trivial⟩ ?_
    ·intro F1 w1 k1 hf hd
     have k0 := (Keep.drew [] wl0).trans k1
     have m1 : Mv Bl0 wl0 Bl0 w1 := Mv.of_keep k0
     have h_l := h_l.mv m1
     obtain ⟨F2, rfl⟩ := lit_of (F := F1) [(0, l_v)] ⟨hf 0 (by kernel_rfl), trivial⟩
     exact sp_plain rfl ((o_move (l_v) rfl (⟨(Keep.refl _ _), h_l⟩)))
    ·intro F1 w1 k1 hf hd
     obtain ⟨F2, rfl⟩ := lit_of (F := F1) [(3, vI ((k : Nat) : Int))] ⟨hf 3 (by kernel_rfl), trivial⟩
     exact sp_plain rfl ((o_move (vI ((k : Nat) : Int)) rfl (⟨(Keep.refl _ _), rfl⟩)))
    ·intro F1 w1 k1 hf hd
     obtain ⟨v2463, e2465, hl2464⟩ : ∃ v, F1 10 = v ∧ RdL Enc.int w1 (Bl0 ++ O) v (l) := ⟨_, rfl, hd 0 10 (by kernel_rfl)⟩
     have := hl2464.len_le
     obtain ⟨F2, rfl⟩ := lit_of (F := F1) [(10, v2463), (11, vI ((k : Nat) : Int))] ⟨e2465, hd 1 11 (by kernel_rfl), trivial⟩
     exact sp_plain rfl ((o_idx Try.underlying22 s_3 .i64 ((k : Nat) : Int) k rfl rfl rfl hl2464 (by omega) fun a2466 hp2467 => (⟨(Keep.refl _ _), ⟨a2466, rfl, hp2467⟩⟩)))
    ·intro F1 w1 k1 hf hd
     obtain ⟨a2468, e2470, hp2469⟩ : ∃ a, F1 12 = .pointer (some a) ∧ PT Enc.int w1 (Bl0 ++ O) (.pointer (some a)) (l[k]!) := hd 2 12 (by kernel_rfl)
     obtain ⟨F2, rfl⟩ := lit_of (F := F1) [(12, Value.pointer (some a2468))] ⟨e2470, trivial⟩
     exact sp_plain rfl ((o_loadI Try.underlying3 rfl rfl hp2469 (⟨(Keep.refl _ _), rfl⟩)))
    ·intro F1 w1 k1 hf hd
     have k0 := (Keep.drew [] wl0).trans k1
     have s1 := sl0.call k0
     obtain ⟨F2, rfl⟩ := lit_of (F := F1) [(13, vI (l[k]!))] ⟨hd 3 13 (by kernel_rfl), trivial⟩
     refine sp_plain rfl ((o_callK (vs := [vI (l[k]!), vI (0 : Int), vI (4095 : Int)]) enter_32 (c_in (O := Bl0 ++ O) (l[k]!) (0 : Int) (4095 : Int) w1 s1.lt) rfl s1 fun v2471 w2472 s2473 m2474 k2475 r2476 => (?_)))
     obtain rfl := r2476
     exact ⟨k2475, rfl⟩
    ·intro F1 w1 k1 hf hd
     obtain ⟨F2, rfl⟩ := lit_of (F := F1) [(14, Value.bool (inM (l[k]!) (0 : Int) (4095 : Int)))] ⟨hd 4 14 (by kernel_rfl), trivial⟩
     refine sp_plain rfl ((o_not (inM (l[k]!) (0 : Int) (4095 : Int)) rfl (?_)))
     exact ⟨(Keep.refl _ _), congrArg Value.bool (hb2394)⟩
    ·intro F1 w1 k1 hf hd
     obtain ⟨F2, rfl⟩ := lit_of (F := F1) [(15, Value.bool true)] ⟨hd 5 15 (by kernel_rfl), trivial⟩
     exact sp_plain rfl ((o_move (Value.bool true) rfl (⟨(Keep.refl _ _), rfl⟩)))
    ·intro F1 w1 k1 hf hd
     exact sp_skipD rfl rfl (hd 6 16 (by kernel_rfl)) rfl rfl
    ·intro F1 w1 k1 hf hd
     exact sp_skipD rfl rfl (hd 6 16 (by kernel_rfl)) rfl rfl
    ·intro F1 w1 k1 hf hd
     exact sp_skipD rfl rfl (hd 6 16 (by kernel_rfl)) rfl rfl
    ·intro F1 w1 k1 hf hd
     exact sp_undefD rfl rfl (hd 9 19 (by kernel_rfl)) rfl
    ·intro F1 w1 k1 hf hd
     exact sp_undefD rfl rfl (hd 9 19 (by kernel_rfl)) rfl
    ·intro F1 w1 k1 hf hd
     exact sp_undefD rfl rfl (hd 9 19 (by kernel_rfl)) rfl
    ·intro F1 w1 k1 hf hd
     exact sp_undefD rfl rfl (hd 9 19 (by kernel_rfl)) rfl
    ·intro F1 w1 k1 hf hd
     exact sp_undefD rfl rfl (hd 9 19 (by kernel_rfl)) rfl
    ·intro F1 w1 k1 hf hd
     exact sp_undefD rfl rfl (hd 9 19 (by kernel_rfl)) rfl
    ·intro F1 w1 k1 hf hd
     exact sp_undefD rfl rfl (hd 9 19 (by kernel_rfl)) rfl
    ·intro F1 w1 k1 hf hd
     exact sp_undefD rfl rfl (hd 9 19 (by kernel_rfl)) rfl
    ·intro F1 w1 k1 hf hd
     exact sp_undefD rfl rfl (hd 9 19 (by kernel_rfl)) rfl
    intro F2478 w2479 k2477 hT2480 hF2481
    have s2482 := sl0.call k2477
    obtain ⟨F2, rfl⟩ := lit_of (F := F2478) [(0, l_v), (3, vI ((k : Nat) : Int)), (32, undef), (16, Value.bool true), (19, undef)] ⟨hF2481 0 (by kernel_rfl), hF2481 3 (by kernel_rfl), hF2481 32 (by kernel_rfl), hT2480 6 16 (by kernel_rfl) (by decide), hT2480 9 19 (by kernel_rfl) (by decide), trivial⟩
    clear hT2480 hF2481
    refine wl_u rfl (wl_k rfl (wl_s (o_pickT (Value.bool true) rfl rfl (wl_nil (thenQ_n (?_))))))
    refine cw_cond true rfl rfl (fun _ => ?_) (fun h => by cases h)
    refine cw_seq (?_)
    refine cw_region (by kernel_rfl) (wl_s (o_assign (Value.bool false) rfl (wl_nil (thenQ_n (?_)))))
    refine cw_ret (blockQ_r (thenQ_r (thenQ_r (blockQ_r (thenQ_r (end_r rfl (res1 rfl rfl rfl) (?_)))))))
    have e : (incM l) = false := by first | exact ris_no1 (k := k) (by omega) (by assumption) | exact ris_no2 (k := k) (by omega) (by assumption) (by omega) | exact ris_all (fun q hq => hr0_1 q (by omega))
    exact ⟨_, rfl, s2482.keep, by rw [e]; exact rfl⟩
  ·have hp2485 : (l.length : Int) ≤ ((k : Nat) : Int) := by first | simpa using hc2392 | (have e := hc2392; simp at e; omega)
   refine cw_exit (thenQ_x (thenQ_x (blockQ_x (thenQ_n (?_)))))
   refine cw_seq (?_)
   refine cw_region (by kernel_rfl) (wl_s (o_assign (Value.bool true) rfl (wl_nil (thenQ_n (?_)))))
   refine cw_ret (end_r rfl (res1 rfl rfl rfl) (?_))
   have e : (incM l) = true := by first | exact ris_no1 (k := k) (by omega) (by assumption) | exact ris_no2 (k := k) (by omega) (by assumption) (by omega) | exact ris_all (fun q hq => hr0_1 q (by omega))
   exact ⟨_, rfl, sl0.keep, by rw [e]; exact rfl⟩
set_option maxHeartbeats 4000000 in
set_option maxRecDepth 100000 in
theorem c_has {O : List Nat} (l_v : Value) (l : List Int) (n : Int) (w : World) (h_l : RdL Enc.int w O l_v l) (hO : ∀ b ∈ O, b < w.heap.size) : CallsK Try.prog 25 [l_v, vI n] w (fun v _ => v = .bool (l.contains n)) :=  by
 have lim_l := h_l.len_le
 have h_l : RdL Enc.int w ([] ++ O) l_v l := h_l
 have s0 : St w O w [] := St.start hO
 refine callsK_of 18 Try.func25 rfl rfl (of_decide_eq_true rfl) (fun F0 => ?_)
 refine cw_seq (?_)
 refine cw_region (by kernel_rfl) (wl_s (o_assign (Value.bool false) rfl (wl_nil (thenQ_n (?_)))))
 refine cw_seq (?_)
 refine cw_seq (?_)
 refine cw_region (by kernel_rfl) (wl_s (o_assign (vI (0 : Int)) rfl (wl_nil (thenQ_n (?_)))))
 refine cw_block (?_)
 refine cw_loop (fun mI FI wI => ∃ (k : Nat), k ≤ l.length ∧ (∀ q, q < k → l[q]! ≠ n) ∧ mI = l.length - k ∧ (∃ F1, FI = upds F1 [(0, l_v), (1, vI n), (5, vI ((k : Nat) : Int)), (18, undef)]) ∧ w = wI) (l.length - (0)) ?_ ?_
 ·exact ⟨(0), (by first | omega | (simp; done) | (simp; omega) | simp_all), (fun q hq => by omega), rfl, ⟨_, upds_self _ ⟨rfl, rfl, (by first | rfl | exact congrArg (Value.int _) (by first | omega | (simp))), rfl, trivial⟩⟩, rfl⟩
 ·rintro ml0 F wl0 ⟨k, hr0_0, hr0_1, hm0, ⟨Fl0, rfl⟩, rfl⟩
  refine cw_seq (?_)
  refine cw_seq (?_)
  refine cw_region (by kernel_rfl) (wl_s (o_move (vI ((k : Nat) : Int)) rfl (wl_s (o_move (l_v) rfl (wl_s (o_lenR Try.underlying22 rfl h_l (wl_s (o_lss .i64 ((k : Nat) : Int) (l.length : Int) rfl rfl (wl_nil (thenQ_n (?_)))))))))))
  refine cw_cond (decide (((k : Nat) : Int) < (l.length : Int))) rfl rfl (fun hc2486 => ?_) (fun hc2486 => ?_)
  ·have hp2487 : ((k : Nat) : Int) < (l.length : Int) := by first | simpa using hc2486 | (have e := hc2486; simp at e; omega)
   refine cw_skip (thenQ_n (?_))
   refine cw_seq (?_)
   refine cw_block (?_)
   refine cw_seq (?_)
   refine cw_region (by kernel_rfl) (wl_s (o_move (l_v) rfl (wl_s (o_move (vI ((k : Nat) : Int)) rfl (wl_s (o_idx Try.underlying22 s_3 .i64 ((k : Nat) : Int) k rfl rfl rfl h_l (by omega) fun a2488 hp2489 => (wl_s (o_loadI Try.underlying3 rfl rfl hp2489 (wl_s (o_move (vI n) rfl (wl_s (o_eql .i64 (l[k]!) n rfl rfl (wl_nil (thenQ_n (?_)))))))))))))))
   refine cw_cond ((l[k]!) == n) rfl rfl (fun hc2490 => ?_) (fun hc2490 => ?_)
   ·have hp2491 : l[k]! = n := by first | simpa using hc2490 | (have e := hc2490; simp at e; omega)
    refine cw_seq (?_)
    refine cw_region (by kernel_rfl) (wl_s (o_assign (Value.bool true) rfl (wl_nil (thenQ_n (?_)))))
    refine cw_ret (blockQ_r (thenQ_r (thenQ_r (blockQ_r (thenQ_r (end_r rfl (res1 rfl rfl rfl) (?_)))))))
    have e : (l.contains n) = true := by first | exact has_yes (k := k) (by omega) (by assumption) | exact has_no (fun q hq => hr0_1 q (by omega))
    exact ⟨_, rfl, s0.keep, by rw [e]; exact rfl⟩
   ·have hp2492 : l[k]! ≠ n := by first | simpa using hc2490 | (have e := hc2490; simp at e; omega)
    refine cw_skip (blockQ_n (thenQ_n (?_)))
    refine cw_region (by kernel_rfl) (wl_s (o_move (vI ((k : Nat) : Int)) rfl (wl_s (o_add .i64 ((k : Nat) : Int) (1 : Int) (((k + 1 : Nat) : Int)) rfl rfl (w64 (by omega) (by omega)) (wl_s (o_assign (vI ((k + 1 : Nat) : Int)) rfl (wl_nil (thenQ_n (?_)))))))))
    exact ⟨_, (by omega), (k + 1), (by first | omega | (simp; done) | (simp; omega) | simp_all), (all_step hr0_1 (by assumption)), rfl, ⟨_, upds_self _ ⟨rfl, rfl, (by first | rfl | exact congrArg (Value.int _) (by first | omega | (simp))), rfl, trivial⟩⟩, rfl⟩
  ·have hp2493 : (l.length : Int) ≤ ((k : Nat) : Int) := by first | simpa using hc2486 | (have e := hc2486; simp at e; omega)
   refine cw_exit (thenQ_x (thenQ_x (blockQ_x (thenQ_n (?_)))))
   refine cw_seq (?_)
   refine cw_region (by kernel_rfl) (wl_s (o_assign (Value.bool false) rfl (wl_nil (thenQ_n (?_)))))
   refine cw_ret (end_r rfl (res1 rfl rfl rfl) (?_))
   have e : (l.contains n) = false := by first | exact has_yes (k := k) (by omega) (by assumption) | exact has_no (fun q hq => hr0_1 q (by omega))
   exact ⟨_, rfl, s0.keep, by rw [e]; exact rfl⟩
set_option maxHeartbeats 4000000 in
set_option maxRecDepth 100000 in
theorem c_refRec {O : List Nat} (c_cs : List Value) (c : Circle) (i : Nat) (w : World) (h_c : Enc.circle.rd w O c_cs c) (hpre0 : i < c.recs.length) (hO : ∀ b ∈ O, b < w.heap.size) : CallsK Try.prog 36 [.agg c_cs.toArray, vI (i : Int)] w (fun v _ => v = .bool (refRecM c i)) :=  by
 have h_c : Enc.circle.rd w ([] ++ O) c_cs c := h_c
 have s0 : St w O w [] := St.start hO
 refine callsK_of 82 Try.func36 rfl rfl (of_decide_eq_true rfl) (fun F0 => ?_)
 refine cw_seq (?_)
 refine cw_region (by kernel_rfl) (wl_s (o_boxR (E := Enc.circle) (Value.agg c_cs.toArray) (c_cs) c rfl rfl h_c s0 fun a2494 w2495 s2496 m2497 k2498 hp2499 => (?_)))
 refine wl_s (o_assign (Value.bool false) rfl (wl_nil (thenQ_n (?_))))
 refine cw_seq (?_)
 refine cw_region (by kernel_rfl) (wl_s (o_fieldR 4 f_25_4 (c.recs) rfl hp2499 (fun _ _ _ h => Enc_circle_f4 h) fun a2500 hp2501 => (wl_s (o_loadL Try.underlying23 rfl rfl hp2501 fun v2502 hl2503 => (?_)))))
 have := hl2503.len_le
 refine wl_s (o_move (vI (i : Int)) rfl (wl_s (o_idx Try.underlying23 s_47 .i64 (i : Int) i rfl rfl rfl hl2503 (by omega) fun a2504 hp2505 => (wl_s (o_loadS Try.underlying47 rfl s_47 rfl hp2505 fun cs2506 hs2507 => (wl_s (o_alloc [vI (0 : Int), vI (0 : Int), vI (0 : Int), Value.slice none 0 0, Value.slice none 0 0] z_47 rfl s2496 fun b2508 w2509 e2514 s2510 m2511 k2512 bx2513 => (?_))))))))
 clear e2514
 have hp2499 := hp2499.mv m2511
 have hs2507 : Enc.recovery.rd w2509 ((b2508 :: []) ++ O) cs2506 (c.recs[i]!) := Enc.mv Enc.recovery (x := c.recs[i]!) hs2507 m2511
 obtain ⟨d2520, d2522, rfl, hd2521, hd2523⟩ := hs2507
 have := hd2521.len_le
 have := hd2523.len_le
 refine wl_n (o_store (vs := [vI ((c.recs[i]!).no), vI ((c.recs[i]!).asked), vI ((c.recs[i]!).state), d2520, d2522]) (.agg #[vI ((c.recs[i]!).no), vI ((c.recs[i]!).asked), vI ((c.recs[i]!).state), d2520, d2522]) rfl rfl rfl s_47 (fun u hu => by simp only [List.mem_cons, List.not_mem_nil, or_false] at hu; rcases hu with rfl | rfl | rfl | rfl | rfl <;> first | rfl | exact hd2521.oneCell | exact hd2523.oneCell) (by repeat (first | assumption | constructor)) bx2513 (of_decide_eq_true rfl) s2510 fun w2515 s2516 m2517 k2518 bx2519 => (?_))
 have hp2499 := hp2499.mv m2517
 have hd2521 := hd2521.mv m2517
 have hd2523 := hd2523.mv m2517
 refine wl_nil (thenQ_n (?_))
 refine cw_seq (?_)
 refine cw_seq (?_)
 cases hb2524 : (((c.recs[i]!).no) != (i : Int))
 ·have hp2525 : (c.recs[i]!).no = (i : Int) := by first | simpa using hb2524 | (have e := hb2524; simp at e; omega)
  cases hb2526 : (!(inM ((c.recs[i]!).asked) (0 : Int) (1023 : Int)))
  ·have hp2527 : (inM ((c.recs[i]!).asked) (0 : Int) (1023 : Int)) = true := by first | simpa using hb2526 | (have e := hb2526; simp at e; omega)
   cases hb2528 : (decide ((0 : Int) < (i : Int)))
   ·have hp2529 : (i : Int) ≤ (0 : Int) := by first | simpa using hb2528 | (have e := hb2528; simp at e; omega)
    refine cw_draw' 23 _ _ [isV (Value.pointer (some ⟨b2508, 0, none⟩)), isV (vI ((c.recs[i]!).no)), isV (vI (i : Int)), isV (Value.bool false), isV (Value.bool false), isV (Value.pointer (some ⟨b2508, 1, none⟩)), isV (vI ((c.recs[i]!).asked)), isV (Value.bool (inM ((c.recs[i]!).asked) (0 : Int) (1023 : Int))), isV (Value.bool false), isV (Value.bool false), isV (Value.bool false), isV (vI (i : Int)), isV (Value.bool false), isV (Value.bool false), isV undef, isV undef, isV undef, isV undef, isV undef, isV undef, isV undef, isV undef, isV undef] (by kernel_rfl) (by kernel_rfl) (by kernel_rfl) (by kernel_rfl) rfl rfl ⟨kI, kI, kI, kI, kI, kI, kI, kI, kI, kI, kI, kI, kI, kI, kI, kI, kI, kI, kI, kI, kI, kI, kI, trivial⟩ ⟨?_, ?_, ?_, ?_, ?_, ?_, ?_, ?_, ?_, ?_, ?_, ?_, ?_, ?_, ?_, ?_, ?_, ?_, ?_, ?_, ?_, ?_, ?_, trivial⟩ ?_
    ·intro F1 w1 k1 hf hd
     obtain ⟨F2, rfl⟩ := lit_of (F := F1) [(5, Value.pointer (some ⟨b2508, 0, none⟩))] ⟨hf 5 (by kernel_rfl), trivial⟩
     exact sp_plain rfl ((o_fieldL 0 f_47_0 rfl (⟨(Keep.refl _ _), rfl⟩)))
    ·intro F1 w1 k1 hf hd
     have k0 := (Keep.drew [] w2515).trans k1
     have bx2519 := bx2519.keep k0 (by simp)
     obtain ⟨F2, rfl⟩ := lit_of (F := F1) [(11, Value.pointer (some ⟨b2508, 0, none⟩))] ⟨hd 0 11 (by kernel_rfl), trivial⟩
     exact sp_plain rfl ((o_loadBx Try.underlying3 rfl (vI ((c.recs[i]!).no)) rfl bx2519 rfl (⟨(Keep.refl _ _), rfl⟩)))
    ·intro F1 w1 k1 hf hd
     obtain ⟨F2, rfl⟩ := lit_of (F := F1) [(1, vI (i : Int))] ⟨hf 1 (by kernel_rfl), trivial⟩
     exact sp_plain rfl ((o_move (vI (i : Int)) rfl (⟨(Keep.refl _ _), rfl⟩)))
    ·intro F1 w1 k1 hf hd
     obtain ⟨F2, rfl⟩ := lit_of (F := F1) [(12, vI ((c.recs[i]!).no)), (13, vI (i : Int))] ⟨hd 1 12 (by kernel_rfl), hd 2 13 (by kernel_rfl), trivial⟩
     refine sp_plain rfl ((o_neq .i64 ((c.recs[i]!).no) (i : Int) rfl rfl (?_)))
     exact ⟨(Keep.refl _ _), congrArg Value.bool (hb2524)⟩
    ·intro F1 w1 k1 hf hd
     obtain ⟨F2, rfl⟩ := lit_of (F := F1) [(14, Value.bool false)] ⟨hd 3 14 (by kernel_rfl), trivial⟩
     exact sp_plain rfl ((o_move (Value.bool false) rfl (⟨(Keep.refl _ _), rfl⟩)))
    ·intro F1 w1 k1 hf hd
     obtain ⟨F2, rfl⟩ := lit_of (F := F1) [(5, Value.pointer (some ⟨b2508, 0, none⟩)), (15, Value.bool false)] ⟨hf 5 (by kernel_rfl), hd 4 15 (by kernel_rfl), trivial⟩
     exact sp_take rfl rfl ((o_fieldL 1 f_47_1 rfl (⟨(Keep.refl _ _), rfl⟩)))
    ·intro F1 w1 k1 hf hd
     have k0 := (Keep.drew [] w2515).trans k1
     have bx2519 := bx2519.keep k0 (by simp)
     obtain ⟨F2, rfl⟩ := lit_of (F := F1) [(15, Value.bool false), (16, Value.pointer (some ⟨b2508, 1, none⟩))] ⟨hd 4 15 (by kernel_rfl), hd 5 16 (by kernel_rfl), trivial⟩
     exact sp_take rfl rfl ((o_loadBx Try.underlying3 rfl (vI ((c.recs[i]!).asked)) rfl bx2519 rfl (⟨(Keep.refl _ _), rfl⟩)))
    ·intro F1 w1 k1 hf hd
     have k0 := (Keep.drew [] w2515).trans k1
     have s1 := s2516.call k0
     obtain ⟨F2, rfl⟩ := lit_of (F := F1) [(15, Value.bool false), (17, vI ((c.recs[i]!).asked))] ⟨hd 4 15 (by kernel_rfl), hd 6 17 (by kernel_rfl), trivial⟩
     refine sp_take rfl rfl ((o_callK (vs := [vI ((c.recs[i]!).asked), vI (0 : Int), vI (1023 : Int)]) enter_32 (c_in (O := (b2508 :: []) ++ O) ((c.recs[i]!).asked) (0 : Int) (1023 : Int) w1 s1.lt) rfl s1 fun v2530 w2531 s2532 m2533 k2534 r2535 => (?_)))
     obtain rfl := r2535
     exact ⟨k2534, rfl⟩
    ·intro F1 w1 k1 hf hd
     obtain ⟨F2, rfl⟩ := lit_of (F := F1) [(15, Value.bool false), (18, Value.bool (inM ((c.recs[i]!).asked) (0 : Int) (1023 : Int)))] ⟨hd 4 15 (by kernel_rfl), hd 7 18 (by kernel_rfl), trivial⟩
     refine sp_take rfl rfl ((o_not (inM ((c.recs[i]!).asked) (0 : Int) (1023 : Int)) rfl (?_)))
     exact ⟨(Keep.refl _ _), congrArg Value.bool (hb2526)⟩
    ·intro F1 w1 k1 hf hd
     obtain ⟨F2, rfl⟩ := lit_of (F := F1) [(15, Value.bool false), (19, Value.bool false)] ⟨hd 4 15 (by kernel_rfl), hd 8 19 (by kernel_rfl), trivial⟩
     exact sp_plain rfl ((o_pickF (Value.bool false) rfl rfl (⟨(Keep.refl _ _), rfl⟩)))
    ·intro F1 w1 k1 hf hd
     obtain ⟨F2, rfl⟩ := lit_of (F := F1) [(20, Value.bool false)] ⟨hd 9 20 (by kernel_rfl), trivial⟩
     exact sp_plain rfl ((o_move (Value.bool false) rfl (⟨(Keep.refl _ _), rfl⟩)))
    ·intro F1 w1 k1 hf hd
     obtain ⟨F2, rfl⟩ := lit_of (F := F1) [(1, vI (i : Int)), (21, Value.bool false)] ⟨hf 1 (by kernel_rfl), hd 10 21 (by kernel_rfl), trivial⟩
     exact sp_take rfl rfl ((o_move (vI (i : Int)) rfl (⟨(Keep.refl _ _), rfl⟩)))
    ·intro F1 w1 k1 hf hd
     obtain ⟨F2, rfl⟩ := lit_of (F := F1) [(21, Value.bool false), (22, vI (i : Int))] ⟨hd 10 21 (by kernel_rfl), hd 11 22 (by kernel_rfl), trivial⟩
     refine sp_take rfl rfl ((o_gtr .i64 (i : Int) (0 : Int) rfl rfl (?_)))
     exact ⟨(Keep.refl _ _), congrArg Value.bool (hb2528)⟩
    ·intro F1 w1 k1 hf hd
     obtain ⟨F2, rfl⟩ := lit_of (F := F1) [(21, Value.bool false), (23, Value.bool false)] ⟨hd 10 21 (by kernel_rfl), hd 12 23 (by kernel_rfl), trivial⟩
     exact sp_take rfl rfl ((o_move (Value.bool false) rfl (⟨(Keep.refl _ _), rfl⟩)))
    ·intro F1 w1 k1 hf hd
     exact sp_skipD rfl rfl (hd 13 24 (by kernel_rfl)) rfl rfl
    ·intro F1 w1 k1 hf hd
     exact sp_skipD rfl rfl (hd 13 24 (by kernel_rfl)) rfl rfl
    ·intro F1 w1 k1 hf hd
     exact sp_skipD rfl rfl (hd 13 24 (by kernel_rfl)) rfl rfl
    ·intro F1 w1 k1 hf hd
     exact sp_skipD rfl rfl (hd 13 24 (by kernel_rfl)) rfl rfl
    ·intro F1 w1 k1 hf hd
     exact sp_skipD rfl rfl (hd 13 24 (by kernel_rfl)) rfl rfl
    ·intro F1 w1 k1 hf hd
     exact sp_skipD rfl rfl (hd 13 24 (by kernel_rfl)) rfl rfl
    ·intro F1 w1 k1 hf hd
     exact sp_skipD rfl rfl (hd 13 24 (by kernel_rfl)) rfl rfl
    ·intro F1 w1 k1 hf hd
     exact sp_skipD rfl rfl (hd 13 24 (by kernel_rfl)) rfl rfl
    ·intro F1 w1 k1 hf hd
     exact sp_skipD rfl rfl (hd 13 24 (by kernel_rfl)) rfl rfl
    intro F2537 w2538 k2536 hT2539 hF2540
    have s2541 := s2516.call k2536
    have m2542 : Mv (b2508 :: []) w2515 (b2508 :: []) w2538 := Mv.of_keep k2536
    have hp2499 := hp2499.mv m2542
    have hd2521 := hd2521.mv m2542
    have hd2523 := hd2523.mv m2542
    have bx2519 := bx2519.keep k2536 (by simp)
    obtain ⟨F2, rfl⟩ := lit_of (F := F2537) [(1, vI (i : Int)), (2, Value.pointer (some a2494)), (5, Value.pointer (some ⟨b2508, 0, none⟩)), (82, undef), (21, Value.bool false), (24, Value.bool false)] ⟨hF2540 1 (by kernel_rfl), hF2540 2 (by kernel_rfl), hF2540 5 (by kernel_rfl), hF2540 82 (by kernel_rfl), hT2539 10 21 (by kernel_rfl) (by decide), hT2539 13 24 (by kernel_rfl) (by decide), trivial⟩
    clear hT2539 hF2540
    refine wl_k rfl (wl_t rfl (o_pickF (Value.bool false) rfl rfl (wl_s (o_pickF (Value.bool false) rfl rfl (wl_s (o_move (Value.bool false) rfl (wl_t rfl (o_fieldL 2 f_47_2 rfl (wl_t rfl (o_loadBx Try.underlying3 rfl (vI ((c.recs[i]!).state)) rfl bx2519 rfl (wl_t rfl (o_callK (vs := [vI ((c.recs[i]!).state), vI (0 : Int), vI (2 : Int)]) enter_32 (c_in (O := (b2508 :: []) ++ O) ((c.recs[i]!).state) (0 : Int) (2 : Int) w2538 s2541.lt) rfl s2541 fun v2544 w2545 s2546 m2547 k2548 r2549 => (?_)))))))))))))
    obtain rfl := r2549
    have hp2499 := hp2499.mv m2547
    have hd2521 := hd2521.mv m2547
    have hd2523 := hd2523.mv m2547
    have bx2519 := bx2519.keep k2548 (by simp)
    refine wl_t rfl (o_not (inM ((c.recs[i]!).state) (0 : Int) (2 : Int)) rfl (wl_s (o_pickF (Value.bool (!(inM ((c.recs[i]!).state) (0 : Int) (2 : Int)))) rfl rfl (wl_s (o_move (Value.bool (!(inM ((c.recs[i]!).state) (0 : Int) (2 : Int)))) rfl (?_))))))
    cases hb2550 : (!(inM ((c.recs[i]!).state) (0 : Int) (2 : Int)))
    ·have hp2551 : (inM ((c.recs[i]!).state) (0 : Int) (2 : Int)) = true := by first | simpa using hb2550 | (have e := hb2550; simp at e; omega)
     refine wl_t rfl (o_fieldL 3 f_47_3 rfl (wl_t rfl (o_loadBx Try.underlying22 rfl (d2520) rfl bx2519 rfl (wl_t rfl (o_callK (vs := [d2520]) enter_35 (c_rising (O := (b2508 :: []) ++ O) d2520 ((c.recs[i]!).approved) w2545 hd2521 s2546.lt) rfl s2546 fun v2552 w2553 s2554 m2555 k2556 r2557 => (?_))))))
     obtain rfl := r2557
     have hp2499 := hp2499.mv m2555
     have hd2523 := hd2523.mv m2555
     have bx2519 := bx2519.keep k2556 (by simp)
     refine wl_t rfl (o_not (incM ((c.recs[i]!).approved)) rfl (wl_s (o_pickF (Value.bool (!(incM ((c.recs[i]!).approved)))) rfl rfl (wl_nil (thenQ_n (?_))))))
     refine cw_cond (!(incM ((c.recs[i]!).approved))) rfl rfl (fun hc2558 => ?_) (fun hc2558 => ?_)
     ·have hp2559 : (incM ((c.recs[i]!).approved)) = false := by first | simpa using hc2558 | (have e := hc2558; simp at e; omega)
      refine cw_seq (?_)
      refine cw_region (by kernel_rfl) (wl_s (o_assign (Value.bool false) rfl (wl_nil (thenQ_n (?_)))))
      refine cw_ret (thenQ_r (end_r rfl (res1 rfl rfl rfl) (?_)))
      have e : (refRecM c i) = false := by first | (unfold refRecM; ((repeat (first | (refine (if_pos ?_).trans ?_; solve | omega | assumption | (simp only [dbs]; first | done | (repeat (first | omega | assumption | (right; first | omega | assumption | (constructor <;> first | omega | assumption)) | left))) | (rw [Bool.not_eq_true]; simp only [dbs]; first | done | omega | assumption | ((repeat' apply And.intro) <;> first | omega | assumption)) | (simp only [*, dbs]; done)) | (refine (if_neg ?_).trans ?_; solve | omega | assumption | (simp only [dbs]; first | done | (repeat (first | omega | assumption | (right; first | omega | assumption | (constructor <;> first | omega | assumption)) | left))) | (rw [Bool.not_eq_true]; simp only [dbs]; first | done | omega | assumption | ((repeat' apply And.intro) <;> first | omega | assumption)) | (simp only [*, dbs]; done)))); rfl)) | (unfold refRecM; simp only [*, dbs]; simp; done) | simp_all [refRecM]
      exact ⟨_, rfl, s2554.keep, by rw [e]; exact rfl⟩
     ·have hp2560 : (incM ((c.recs[i]!).approved)) = true := by first | simpa using hc2558 | (have e := hc2558; simp at e; omega)
      refine cw_skip (thenQ_n (?_))
      refine cw_seq (?_)
      refine cw_seq (?_)
      refine cw_region (by kernel_rfl) (wl_s (o_fieldL 2 f_47_2 rfl (wl_s (o_loadBx Try.underlying3 rfl (vI ((c.recs[i]!).state)) rfl bx2519 rfl (wl_s (o_eql .i64 ((c.recs[i]!).state) (2 : Int) rfl rfl (wl_nil (thenQ_n (?_)))))))))
      refine cw_cond (((c.recs[i]!).state) == (2 : Int)) rfl rfl (fun hc2561 => ?_) (fun hc2561 => ?_)
      ·have hp2562 : (c.recs[i]!).state = (2 : Int) := by first | simpa using hc2561 | (have e := hc2561; simp at e; omega)
       refine cw_seq (?_)
       cases hb2563 : ((((c.recs[i]!).vetoed).length : Int) == (1 : Int))
       ·have hp2564 : (((c.recs[i]!).vetoed).length : Int) ≠ (1 : Int) := by first | simpa using hb2563 | (have e := hb2563; simp at e; omega)
        refine cw_draw' 11 _ _ [isV (Value.pointer (some ⟨b2508, 4, none⟩)), fun (vT : Value) (wT : World) => RdL Enc.int wT ((b2508 :: []) ++ O) vT ((c.recs[i]!).vetoed), isV (vI (((c.recs[i]!).vetoed).length : Int)), isV (Value.bool false), isV (Value.bool false), isV undef, isV undef, isV undef, isV undef, isV undef, isV undef] (by kernel_rfl) (by kernel_rfl) (by kernel_rfl) (by kernel_rfl) rfl rfl ⟨kI, fun _ _ _ h k => h.mv (Mv.of_keep k), kI, kI, kI, kI, kI, kI, kI, kI, kI, trivial⟩ ⟨?_, ?_, ?_, ?_, ?_, ?_, ?_, ?_, ?_, ?_, ?_, trivial⟩ ?_
        ·intro F1 w1 k1 hf hd
         obtain ⟨F2, rfl⟩ := lit_of (F := F1) [(5, Value.pointer (some ⟨b2508, 0, none⟩))] ⟨hf 5 (by kernel_rfl), trivial⟩
         exact sp_plain rfl ((o_fieldL 4 f_47_4 rfl (⟨(Keep.refl _ _), rfl⟩)))
        ·intro F1 w1 k1 hf hd
         have k0 := (Keep.drew [] w2553).trans k1
         have m1 : Mv (b2508 :: []) w2553 (b2508 :: []) w1 := Mv.of_keep k0
         have bx2519 := bx2519.keep k0 (by simp)
         have hd2523 := hd2523.mv m1
         obtain ⟨F2, rfl⟩ := lit_of (F := F1) [(52, Value.pointer (some ⟨b2508, 4, none⟩))] ⟨hd 0 52 (by kernel_rfl), trivial⟩
         exact sp_plain rfl ((o_loadBx Try.underlying22 rfl (d2522) rfl bx2519 rfl (⟨(Keep.refl _ _), hd2523⟩)))
        ·intro F1 w1 k1 hf hd
         obtain ⟨v2565, e2567, hl2566⟩ : ∃ v, F1 53 = v ∧ RdL Enc.int w1 ((b2508 :: []) ++ O) v ((c.recs[i]!).vetoed) := ⟨_, rfl, hd 1 53 (by kernel_rfl)⟩
         have := hl2566.len_le
         obtain ⟨F2, rfl⟩ := lit_of (F := F1) [(53, v2565)] ⟨e2567, trivial⟩
         exact sp_plain rfl ((o_lenR Try.underlying22 rfl hl2566 (⟨(Keep.refl _ _), rfl⟩)))
        ·intro F1 w1 k1 hf hd
         obtain ⟨F2, rfl⟩ := lit_of (F := F1) [(54, vI (((c.recs[i]!).vetoed).length : Int))] ⟨hd 2 54 (by kernel_rfl), trivial⟩
         refine sp_plain rfl ((o_eql .i64 (((c.recs[i]!).vetoed).length : Int) (1 : Int) rfl rfl (?_)))
         exact ⟨(Keep.refl _ _), congrArg Value.bool (hb2563)⟩
        ·intro F1 w1 k1 hf hd
         obtain ⟨F2, rfl⟩ := lit_of (F := F1) [(55, Value.bool false)] ⟨hd 3 55 (by kernel_rfl), trivial⟩
         exact sp_plain rfl ((o_move (Value.bool false) rfl (⟨(Keep.refl _ _), rfl⟩)))
        ·intro F1 w1 k1 hf hd
         exact sp_skipD rfl rfl (hd 4 56 (by kernel_rfl)) rfl rfl
        ·intro F1 w1 k1 hf hd
         exact sp_skipD rfl rfl (hd 4 56 (by kernel_rfl)) rfl rfl
        ·intro F1 w1 k1 hf hd
         exact sp_skipD rfl rfl (hd 4 56 (by kernel_rfl)) rfl rfl
        ·intro F1 w1 k1 hf hd
         exact sp_skipD rfl rfl (hd 4 56 (by kernel_rfl)) rfl rfl
        ·intro F1 w1 k1 hf hd
         exact sp_skipD rfl rfl (hd 4 56 (by kernel_rfl)) rfl rfl
        ·intro F1 w1 k1 hf hd
         exact sp_skipD rfl rfl (hd 4 56 (by kernel_rfl)) rfl rfl
        intro F2569 w2570 k2568 hT2571 hF2572
        have s2573 := s2554.call k2568
        obtain ⟨F2, rfl⟩ := lit_of (F := F2569) [(82, undef), (56, Value.bool false)] ⟨hF2572 82 (by kernel_rfl), hT2571 4 56 (by kernel_rfl) (by decide), trivial⟩
        clear hT2571 hF2572
        refine wl_k rfl (wl_s (o_pickF (Value.bool false) rfl rfl (wl_s (o_assign (Value.bool false) rfl (wl_nil (thenQ_n (?_)))))))
        refine cw_ret (thenQ_r (end_r rfl (res1 rfl rfl rfl) (?_)))
        have e : (refRecM c i) = false := by first | (unfold refRecM; ((repeat (first | (refine (if_pos ?_).trans ?_; solve | omega | assumption | (simp only [dbs]; first | done | (repeat (first | omega | assumption | (right; first | omega | assumption | (constructor <;> first | omega | assumption)) | left))) | (rw [Bool.not_eq_true]; simp only [dbs]; first | done | omega | assumption | ((repeat' apply And.intro) <;> first | omega | assumption)) | (simp only [*, dbs]; done)) | (refine (if_neg ?_).trans ?_; solve | omega | assumption | (simp only [dbs]; first | done | (repeat (first | omega | assumption | (right; first | omega | assumption | (constructor <;> first | omega | assumption)) | left))) | (rw [Bool.not_eq_true]; simp only [dbs]; first | done | omega | assumption | ((repeat' apply And.intro) <;> first | omega | assumption)) | (simp only [*, dbs]; done)))); rfl)) | (unfold refRecM; simp only [*, dbs]; simp; done) | simp_all [refRecM]
        exact ⟨_, rfl, s2573.keep, by rw [e]; exact rfl⟩
       ·have hp2576 : (((c.recs[i]!).vetoed).length : Int) = (1 : Int) := by first | simpa using hb2563 | (have e := hb2563; simp at e; omega)
        refine cw_draw' 11 _ _ [isV (Value.pointer (some ⟨b2508, 4, none⟩)), fun (vT : Value) (wT : World) => RdL Enc.int wT ((b2508 :: []) ++ O) vT ((c.recs[i]!).vetoed), isV (vI (((c.recs[i]!).vetoed).length : Int)), isV (Value.bool true), isV (Value.bool true), isV (Value.pointer (some ⟨b2508, 4, none⟩)), fun (vT : Value) (wT : World) => RdL Enc.int wT ((b2508 :: []) ++ O) vT ((c.recs[i]!).vetoed), fun (vT : Value) (wT : World) => ∃ aT, vT = .pointer (some aT) ∧ PT Enc.int wT ((b2508 :: []) ++ O) (.pointer (some aT)) (((c.recs[i]!).vetoed)[0]!), isV (vI (((c.recs[i]!).vetoed)[0]!)), isV (Value.pointer (some ⟨b2508, 1, none⟩)), isV (vI ((c.recs[i]!).asked))] (by kernel_rfl) (by kernel_rfl) (by kernel_rfl) (by kernel_rfl) rfl rfl ⟨kI, fun _ _ _ h k => h.mv (Mv.of_keep k), kI, kI, kI, kI, fun _ _ _ h k => h.mv (Mv.of_keep k), fun _ _ _ ⟨a, e, h⟩ k => ⟨a, e, h.mv (Mv.of_keep k)⟩, kI, kI, kI, trivial⟩ ⟨?_, ?_, ?_, ?_, ?_, ?_, ?_, ?_, ?_, ?_, ?_, trivial⟩ ?_
        ·intro F1 w1 k1 hf hd
         obtain ⟨F2, rfl⟩ := lit_of (F := F1) [(5, Value.pointer (some ⟨b2508, 0, none⟩))] ⟨hf 5 (by kernel_rfl), trivial⟩
         exact sp_plain rfl ((o_fieldL 4 f_47_4 rfl (⟨(Keep.refl _ _), rfl⟩)))
        ·intro F1 w1 k1 hf hd
         have k0 := (Keep.drew [] w2553).trans k1
         have m1 : Mv (b2508 :: []) w2553 (b2508 :: []) w1 := Mv.of_keep k0
         have bx2519 := bx2519.keep k0 (by simp)
         have hd2523 := hd2523.mv m1
         obtain ⟨F2, rfl⟩ := lit_of (F := F1) [(52, Value.pointer (some ⟨b2508, 4, none⟩))] ⟨hd 0 52 (by kernel_rfl), trivial⟩
         exact sp_plain rfl ((o_loadBx Try.underlying22 rfl (d2522) rfl bx2519 rfl (⟨(Keep.refl _ _), hd2523⟩)))
        ·intro F1 w1 k1 hf hd
         obtain ⟨v2577, e2579, hl2578⟩ : ∃ v, F1 53 = v ∧ RdL Enc.int w1 ((b2508 :: []) ++ O) v ((c.recs[i]!).vetoed) := ⟨_, rfl, hd 1 53 (by kernel_rfl)⟩
         have := hl2578.len_le
         obtain ⟨F2, rfl⟩ := lit_of (F := F1) [(53, v2577)] ⟨e2579, trivial⟩
         exact sp_plain rfl ((o_lenR Try.underlying22 rfl hl2578 (⟨(Keep.refl _ _), rfl⟩)))
        ·intro F1 w1 k1 hf hd
         obtain ⟨F2, rfl⟩ := lit_of (F := F1) [(54, vI (((c.recs[i]!).vetoed).length : Int))] ⟨hd 2 54 (by kernel_rfl), trivial⟩
         refine sp_plain rfl ((o_eql .i64 (((c.recs[i]!).vetoed).length : Int) (1 : Int) rfl rfl (?_)))
         exact ⟨(Keep.refl _ _), congrArg Value.bool (hb2563)⟩
        ·intro F1 w1 k1 hf hd
         obtain ⟨F2, rfl⟩ := lit_of (F := F1) [(55, Value.bool true)] ⟨hd 3 55 (by kernel_rfl), trivial⟩
         exact sp_plain rfl ((o_move (Value.bool true) rfl (⟨(Keep.refl _ _), rfl⟩)))
        ·intro F1 w1 k1 hf hd
         obtain ⟨F2, rfl⟩ := lit_of (F := F1) [(5, Value.pointer (some ⟨b2508, 0, none⟩)), (56, Value.bool true)] ⟨hf 5 (by kernel_rfl), hd 4 56 (by kernel_rfl), trivial⟩
         exact sp_take rfl rfl ((o_fieldL 4 f_47_4 rfl (⟨(Keep.refl _ _), rfl⟩)))
        ·intro F1 w1 k1 hf hd
         have k0 := (Keep.drew [] w2553).trans k1
         have m1 : Mv (b2508 :: []) w2553 (b2508 :: []) w1 := Mv.of_keep k0
         have bx2519 := bx2519.keep k0 (by simp)
         have hd2523 := hd2523.mv m1
         obtain ⟨F2, rfl⟩ := lit_of (F := F1) [(56, Value.bool true), (57, Value.pointer (some ⟨b2508, 4, none⟩))] ⟨hd 4 56 (by kernel_rfl), hd 5 57 (by kernel_rfl), trivial⟩
         exact sp_take rfl rfl ((o_loadBx Try.underlying22 rfl (d2522) rfl bx2519 rfl (⟨(Keep.refl _ _), hd2523⟩)))
        ·intro F1 w1 k1 hf hd
         obtain ⟨v2580, e2582, hl2581⟩ : ∃ v, F1 58 = v ∧ RdL Enc.int w1 ((b2508 :: []) ++ O) v ((c.recs[i]!).vetoed) := ⟨_, rfl, hd 6 58 (by kernel_rfl)⟩
         have := hl2581.len_le
         obtain ⟨F2, rfl⟩ := lit_of (F := F1) [(56, Value.bool true), (58, v2580)] ⟨hd 4 56 (by kernel_rfl), e2582, trivial⟩
         exact sp_take rfl rfl ((o_idx Try.underlying22 s_3 .i64 (0 : Int) 0 rfl rfl rfl hl2581 (by omega) fun a2583 hp2584 => (⟨(Keep.refl _ _), ⟨a2583, rfl, hp2584⟩⟩)))
        ·intro F1 w1 k1 hf hd
         obtain ⟨a2585, e2587, hp2586⟩ : ∃ a, F1 59 = .pointer (some a) ∧ PT Enc.int w1 ((b2508 :: []) ++ O) (.pointer (some a)) (((c.recs[i]!).vetoed)[0]!) := hd 7 59 (by kernel_rfl)
         obtain ⟨F2, rfl⟩ := lit_of (F := F1) [(56, Value.bool true), (59, Value.pointer (some a2585))] ⟨hd 4 56 (by kernel_rfl), e2587, trivial⟩
         exact sp_take rfl rfl ((o_loadI Try.underlying3 rfl rfl hp2586 (⟨(Keep.refl _ _), rfl⟩)))
        ·intro F1 w1 k1 hf hd
         obtain ⟨F2, rfl⟩ := lit_of (F := F1) [(5, Value.pointer (some ⟨b2508, 0, none⟩)), (56, Value.bool true)] ⟨hf 5 (by kernel_rfl), hd 4 56 (by kernel_rfl), trivial⟩
         exact sp_take rfl rfl ((o_fieldL 1 f_47_1 rfl (⟨(Keep.refl _ _), rfl⟩)))
        ·intro F1 w1 k1 hf hd
         have k0 := (Keep.drew [] w2553).trans k1
         have bx2519 := bx2519.keep k0 (by simp)
         obtain ⟨F2, rfl⟩ := lit_of (F := F1) [(56, Value.bool true), (61, Value.pointer (some ⟨b2508, 1, none⟩))] ⟨hd 4 56 (by kernel_rfl), hd 9 61 (by kernel_rfl), trivial⟩
         exact sp_take rfl rfl ((o_loadBx Try.underlying3 rfl (vI ((c.recs[i]!).asked)) rfl bx2519 rfl (⟨(Keep.refl _ _), rfl⟩)))
        intro F2589 w2590 k2588 hT2591 hF2592
        have s2593 := s2554.call k2588
        obtain ⟨F2, rfl⟩ := lit_of (F := F2589) [(82, undef), (56, Value.bool true), (60, vI (((c.recs[i]!).vetoed)[0]!)), (62, vI ((c.recs[i]!).asked))] ⟨hF2592 82 (by kernel_rfl), hT2591 4 56 (by kernel_rfl) (by decide), hT2591 8 60 (by kernel_rfl) (by decide), hT2591 10 62 (by kernel_rfl) (by decide), trivial⟩
        clear hT2591 hF2592
        refine wl_t rfl (o_callK (vs := [vI (((c.recs[i]!).vetoed)[0]!), vI ((c.recs[i]!).asked), vI (1023 : Int)]) enter_32 (c_in (O := (b2508 :: []) ++ O) (((c.recs[i]!).vetoed)[0]!) ((c.recs[i]!).asked) (1023 : Int) w2590 s2593.lt) rfl s2593 fun v2596 w2597 s2598 m2599 k2600 r2601 => (?_))
        obtain rfl := r2601
        refine wl_s (o_pickT (Value.bool (inM (((c.recs[i]!).vetoed)[0]!) ((c.recs[i]!).asked) (1023 : Int))) rfl rfl (wl_s (o_assign (Value.bool (inM (((c.recs[i]!).vetoed)[0]!) ((c.recs[i]!).asked) (1023 : Int))) rfl (wl_nil (thenQ_n (?_))))))
        refine cw_ret (thenQ_r (end_r rfl (res1 rfl rfl rfl) (?_)))
        have e : (refRecM c i) = (inM (((c.recs[i]!).vetoed)[0]!) ((c.recs[i]!).asked) (1023 : Int)) := by first | (unfold refRecM; ((repeat (first | (refine (if_pos ?_).trans ?_; solve | omega | assumption | (simp only [dbs]; first | done | (repeat (first | omega | assumption | (right; first | omega | assumption | (constructor <;> first | omega | assumption)) | left))) | (rw [Bool.not_eq_true]; simp only [dbs]; first | done | omega | assumption | ((repeat' apply And.intro) <;> first | omega | assumption)) | (simp only [*, dbs]; done)) | (refine (if_neg ?_).trans ?_; solve | omega | assumption | (simp only [dbs]; first | done | (repeat (first | omega | assumption | (right; first | omega | assumption | (constructor <;> first | omega | assumption)) | left))) | (rw [Bool.not_eq_true]; simp only [dbs]; first | done | omega | assumption | ((repeat' apply And.intro) <;> first | omega | assumption)) | (simp only [*, dbs]; done)))); rfl)) | (unfold refRecM; simp only [*, dbs]; simp; done) | simp_all [refRecM]
        exact ⟨_, rfl, s2598.keep, by rw [e]; exact rfl⟩
      ·have hp2602 : (c.recs[i]!).state ≠ (2 : Int) := by first | simpa using hc2561 | (have e := hc2561; simp at e; omega)
       refine cw_skip (thenQ_n (?_))
       refine cw_seq (?_)
       refine cw_region (by kernel_rfl) (wl_s (o_fieldL 4 f_47_4 rfl (wl_s (o_loadBx Try.underlying22 rfl (d2522) rfl bx2519 rfl (wl_s (o_lenR Try.underlying22 rfl hd2523 (wl_s (o_eql .i64 (((c.recs[i]!).vetoed).length : Int) (0 : Int) rfl rfl (wl_s (o_move (Value.bool ((((c.recs[i]!).vetoed).length : Int) == (0 : Int))) rfl (?_)))))))))))
       cases hb2603 : ((((c.recs[i]!).vetoed).length : Int) == (0 : Int))
       ·have hp2604 : (((c.recs[i]!).vetoed).length : Int) ≠ (0 : Int) := by first | simpa using hb2603 | (have e := hb2603; simp at e; omega)
        refine wl_k rfl (wl_k rfl (wl_k rfl (wl_k rfl (wl_u rfl (wl_u rfl (wl_u rfl (wl_u rfl (wl_u rfl (wl_u rfl (wl_k rfl (wl_s (o_pickF (Value.bool false) rfl rfl (wl_s (o_assign (Value.bool false) rfl (wl_nil (thenQ_n (?_)))))))))))))))))
        refine cw_ret (end_r rfl (res1 rfl rfl rfl) (?_))
        have e : (refRecM c i) = false := by first | (unfold refRecM; ((repeat (first | (refine (if_pos ?_).trans ?_; solve | omega | assumption | (simp only [dbs]; first | done | (repeat (first | omega | assumption | (right; first | omega | assumption | (constructor <;> first | omega | assumption)) | left))) | (rw [Bool.not_eq_true]; simp only [dbs]; first | done | omega | assumption | ((repeat' apply And.intro) <;> first | omega | assumption)) | (simp only [*, dbs]; done)) | (refine (if_neg ?_).trans ?_; solve | omega | assumption | (simp only [dbs]; first | done | (repeat (first | omega | assumption | (right; first | omega | assumption | (constructor <;> first | omega | assumption)) | left))) | (rw [Bool.not_eq_true]; simp only [dbs]; first | done | omega | assumption | ((repeat' apply And.intro) <;> first | omega | assumption)) | (simp only [*, dbs]; done)))); rfl)) | (unfold refRecM; simp only [*, dbs]; simp; done) | simp_all [refRecM]
        exact ⟨_, rfl, s2554.keep, by rw [e]; exact rfl⟩
       ·have hp2605 : (((c.recs[i]!).vetoed).length : Int) = (0 : Int) := by first | simpa using hb2603 | (have e := hb2603; simp at e; omega)
        refine wl_t rfl (o_fieldL 2 f_47_2 rfl (wl_t rfl (o_loadBx Try.underlying3 rfl (vI ((c.recs[i]!).state)) rfl bx2519 rfl (wl_t rfl (o_eql .i64 ((c.recs[i]!).state) (1 : Int) rfl rfl (wl_t rfl (o_move (Value.bool (((c.recs[i]!).state) == (1 : Int))) rfl (?_))))))))
        cases hb2606 : (((c.recs[i]!).state) == (1 : Int))
        ·have hp2607 : (c.recs[i]!).state ≠ (1 : Int) := by first | simpa using hb2606 | (have e := hb2606; simp at e; omega)
         refine wl_t rfl (o_move (vI (i : Int)) rfl (wl_t rfl (o_fieldR 4 f_25_4 (c.recs) rfl hp2499 (fun _ _ _ h => Enc_circle_f4 h) fun a2608 hp2609 => (wl_t rfl (o_loadL Try.underlying23 rfl rfl hp2609 fun v2610 hl2611 => (?_))))))
         have := hl2611.len_le
         refine wl_t rfl (o_lenR Try.underlying23 rfl hl2611 (wl_t rfl (o_sub .i64 (c.recs.length : Int) (1 : Int) ((c.recs.length : Int) - (1 : Int)) rfl rfl (w64 (by omega) (by omega)) (wl_t rfl (o_eql .i64 (i : Int) ((c.recs.length : Int) - (1 : Int)) rfl rfl (wl_t rfl (o_pickF (Value.bool ((i : Int) == ((c.recs.length : Int) - (1 : Int)))) rfl rfl (wl_s (o_pickT (Value.bool ((i : Int) == ((c.recs.length : Int) - (1 : Int)))) rfl rfl (wl_s (o_assign (Value.bool ((i : Int) == ((c.recs.length : Int) - (1 : Int)))) rfl (wl_nil (thenQ_n (?_))))))))))))))
         refine cw_ret (end_r rfl (res1 rfl rfl rfl) (?_))
         have e : (refRecM c i) = ((i : Int) == ((c.recs.length : Int) - (1 : Int))) := by first | (unfold refRecM; ((repeat (first | (refine (if_pos ?_).trans ?_; solve | omega | assumption | (simp only [dbs]; first | done | (repeat (first | omega | assumption | (right; first | omega | assumption | (constructor <;> first | omega | assumption)) | left))) | (rw [Bool.not_eq_true]; simp only [dbs]; first | done | omega | assumption | ((repeat' apply And.intro) <;> first | omega | assumption)) | (simp only [*, dbs]; done)) | (refine (if_neg ?_).trans ?_; solve | omega | assumption | (simp only [dbs]; first | done | (repeat (first | omega | assumption | (right; first | omega | assumption | (constructor <;> first | omega | assumption)) | left))) | (rw [Bool.not_eq_true]; simp only [dbs]; first | done | omega | assumption | ((repeat' apply And.intro) <;> first | omega | assumption)) | (simp only [*, dbs]; done)))); rfl)) | (unfold refRecM; simp only [*, dbs]; simp; done) | simp_all [refRecM]
         exact ⟨_, rfl, s2554.keep, by rw [e]; exact rfl⟩
        ·have hp2612 : (c.recs[i]!).state = (1 : Int) := by first | simpa using hb2606 | (have e := hb2606; simp at e; omega)
         refine wl_k rfl (wl_k rfl (wl_k rfl (wl_k rfl (wl_k rfl (wl_k rfl (wl_t rfl (o_pickT (Value.bool true) rfl rfl (wl_s (o_pickT (Value.bool true) rfl rfl (wl_s (o_assign (Value.bool true) rfl (wl_nil (thenQ_n (?_))))))))))))))
         refine cw_ret (end_r rfl (res1 rfl rfl rfl) (?_))
         have e : (refRecM c i) = true := by first | (unfold refRecM; ((repeat (first | (refine (if_pos ?_).trans ?_; solve | omega | assumption | (simp only [dbs]; first | done | (repeat (first | omega | assumption | (right; first | omega | assumption | (constructor <;> first | omega | assumption)) | left))) | (rw [Bool.not_eq_true]; simp only [dbs]; first | done | omega | assumption | ((repeat' apply And.intro) <;> first | omega | assumption)) | (simp only [*, dbs]; done)) | (refine (if_neg ?_).trans ?_; solve | omega | assumption | (simp only [dbs]; first | done | (repeat (first | omega | assumption | (right; first | omega | assumption | (constructor <;> first | omega | assumption)) | left))) | (rw [Bool.not_eq_true]; simp only [dbs]; first | done | omega | assumption | ((repeat' apply And.intro) <;> first | omega | assumption)) | (simp only [*, dbs]; done)))); rfl)) | (unfold refRecM; simp only [*, dbs]; simp; done) | simp_all [refRecM]
         exact ⟨_, rfl, s2554.keep, by rw [e]; exact rfl⟩
    ·have hp2613 : (inM ((c.recs[i]!).state) (0 : Int) (2 : Int)) = false := by first | simpa using hb2550 | (have e := hb2550; simp at e; omega)
     refine wl_k rfl (wl_k rfl (wl_k rfl (wl_k rfl (wl_s (o_pickT (Value.bool true) rfl rfl (wl_nil (thenQ_n (?_))))))))
     refine cw_cond true rfl rfl (fun _ => ?_) (fun h => by cases h)
     refine cw_seq (?_)
     refine cw_region (by kernel_rfl) (wl_s (o_assign (Value.bool false) rfl (wl_nil (thenQ_n (?_)))))
     refine cw_ret (thenQ_r (end_r rfl (res1 rfl rfl rfl) (?_)))
     have e : (refRecM c i) = false := by first | (unfold refRecM; ((repeat (first | (refine (if_pos ?_).trans ?_; solve | omega | assumption | (simp only [dbs]; first | done | (repeat (first | omega | assumption | (right; first | omega | assumption | (constructor <;> first | omega | assumption)) | left))) | (rw [Bool.not_eq_true]; simp only [dbs]; first | done | omega | assumption | ((repeat' apply And.intro) <;> first | omega | assumption)) | (simp only [*, dbs]; done)) | (refine (if_neg ?_).trans ?_; solve | omega | assumption | (simp only [dbs]; first | done | (repeat (first | omega | assumption | (right; first | omega | assumption | (constructor <;> first | omega | assumption)) | left))) | (rw [Bool.not_eq_true]; simp only [dbs]; first | done | omega | assumption | ((repeat' apply And.intro) <;> first | omega | assumption)) | (simp only [*, dbs]; done)))); rfl)) | (unfold refRecM; simp only [*, dbs]; simp; done) | simp_all [refRecM]
     exact ⟨_, rfl, s2546.keep, by rw [e]; exact rfl⟩
   ·have hp2614 : (0 : Int) < (i : Int) := by first | simpa using hb2528 | (have e := hb2528; simp at e; omega)
    refine cw_draw' 23 _ _ [isV (Value.pointer (some ⟨b2508, 0, none⟩)), isV (vI ((c.recs[i]!).no)), isV (vI (i : Int)), isV (Value.bool false), isV (Value.bool false), isV (Value.pointer (some ⟨b2508, 1, none⟩)), isV (vI ((c.recs[i]!).asked)), isV (Value.bool (inM ((c.recs[i]!).asked) (0 : Int) (1023 : Int))), isV (Value.bool false), isV (Value.bool false), isV (Value.bool false), isV (vI (i : Int)), isV (Value.bool true), isV (Value.bool true), fun (vT : Value) (wT : World) => ∃ aT, vT = .pointer (some aT) ∧ PT (Enc.slice Enc.recovery) wT ((b2508 :: []) ++ O) (.pointer (some aT)) (c.recs), fun (vT : Value) (wT : World) => RdL Enc.recovery wT ((b2508 :: []) ++ O) vT (c.recs), isV (vI (i : Int)), isV (vI ((i - 1 : Nat) : Int)), fun (vT : Value) (wT : World) => ∃ aT, vT = .pointer (some aT) ∧ PT Enc.recovery wT ((b2508 :: []) ++ O) (.pointer (some aT)) (c.recs[i - 1]!), fun (vT : Value) (wT : World) => ∃ aT, vT = .pointer (some aT) ∧ PT Enc.int wT ((b2508 :: []) ++ O) (.pointer (some aT)) ((c.recs[i - 1]!).asked), isV (vI ((c.recs[i - 1]!).asked)), isV (Value.pointer (some ⟨b2508, 1, none⟩)), isV (vI ((c.recs[i]!).asked))] (by kernel_rfl) (by kernel_rfl) (by kernel_rfl) (by kernel_rfl) rfl rfl ⟨kI, kI, kI, kI, kI, kI, kI, kI, kI, kI, kI, kI, kI, kI, fun _ _ _ ⟨a, e, h⟩ k => ⟨a, e, h.mv (Mv.of_keep k)⟩, fun _ _ _ h k => h.mv (Mv.of_keep k), kI, kI, fun _ _ _ ⟨a, e, h⟩ k => ⟨a, e, h.mv (Mv.of_keep k)⟩, fun _ _ _ ⟨a, e, h⟩ k => ⟨a, e, h.mv (Mv.of_keep k)⟩, kI, kI, kI, trivial⟩ ⟨?_, ?_, ?_, ?_, ?_, ?_, ?_, ?_, ?_, ?_, ?_, ?_, ?_, ?_, ?_, ?_, ?_, ?_, ?_, ?_, ?_, ?_, ?_, trivial⟩ ?_
    ·intro F1 w1 k1 hf hd
     obtain ⟨F2, rfl⟩ := lit_of (F := F1) [(5, Value.pointer (some ⟨b2508, 0, none⟩))] ⟨hf 5 (by kernel_rfl), trivial⟩
     exact sp_plain rfl ((o_fieldL 0 f_47_0 rfl (⟨(Keep.refl _ _), rfl⟩)))
    ·intro F1 w1 k1 hf hd
     have k0 := (Keep.drew [] w2515).trans k1
     have bx2519 := bx2519.keep k0 (by simp)
     obtain ⟨F2, rfl⟩ := lit_of (F := F1) [(11, Value.pointer (some ⟨b2508, 0, none⟩))] ⟨hd 0 11 (by kernel_rfl), trivial⟩
     exact sp_plain rfl ((o_loadBx Try.underlying3 rfl (vI ((c.recs[i]!).no)) rfl bx2519 rfl (⟨(Keep.refl _ _), rfl⟩)))
    ·intro F1 w1 k1 hf hd
     obtain ⟨F2, rfl⟩ := lit_of (F := F1) [(1, vI (i : Int))] ⟨hf 1 (by kernel_rfl), trivial⟩
     exact sp_plain rfl ((o_move (vI (i : Int)) rfl (⟨(Keep.refl _ _), rfl⟩)))
    ·intro F1 w1 k1 hf hd
     obtain ⟨F2, rfl⟩ := lit_of (F := F1) [(12, vI ((c.recs[i]!).no)), (13, vI (i : Int))] ⟨hd 1 12 (by kernel_rfl), hd 2 13 (by kernel_rfl), trivial⟩
     refine sp_plain rfl ((o_neq .i64 ((c.recs[i]!).no) (i : Int) rfl rfl (?_)))
     exact ⟨(Keep.refl _ _), congrArg Value.bool (hb2524)⟩
    ·intro F1 w1 k1 hf hd
     obtain ⟨F2, rfl⟩ := lit_of (F := F1) [(14, Value.bool false)] ⟨hd 3 14 (by kernel_rfl), trivial⟩
     exact sp_plain rfl ((o_move (Value.bool false) rfl (⟨(Keep.refl _ _), rfl⟩)))
    ·intro F1 w1 k1 hf hd
     obtain ⟨F2, rfl⟩ := lit_of (F := F1) [(5, Value.pointer (some ⟨b2508, 0, none⟩)), (15, Value.bool false)] ⟨hf 5 (by kernel_rfl), hd 4 15 (by kernel_rfl), trivial⟩
     exact sp_take rfl rfl ((o_fieldL 1 f_47_1 rfl (⟨(Keep.refl _ _), rfl⟩)))
    ·intro F1 w1 k1 hf hd
     have k0 := (Keep.drew [] w2515).trans k1
     have bx2519 := bx2519.keep k0 (by simp)
     obtain ⟨F2, rfl⟩ := lit_of (F := F1) [(15, Value.bool false), (16, Value.pointer (some ⟨b2508, 1, none⟩))] ⟨hd 4 15 (by kernel_rfl), hd 5 16 (by kernel_rfl), trivial⟩
     exact sp_take rfl rfl ((o_loadBx Try.underlying3 rfl (vI ((c.recs[i]!).asked)) rfl bx2519 rfl (⟨(Keep.refl _ _), rfl⟩)))
    ·intro F1 w1 k1 hf hd
     have k0 := (Keep.drew [] w2515).trans k1
     have s1 := s2516.call k0
     obtain ⟨F2, rfl⟩ := lit_of (F := F1) [(15, Value.bool false), (17, vI ((c.recs[i]!).asked))] ⟨hd 4 15 (by kernel_rfl), hd 6 17 (by kernel_rfl), trivial⟩
     refine sp_take rfl rfl ((o_callK (vs := [vI ((c.recs[i]!).asked), vI (0 : Int), vI (1023 : Int)]) enter_32 (c_in (O := (b2508 :: []) ++ O) ((c.recs[i]!).asked) (0 : Int) (1023 : Int) w1 s1.lt) rfl s1 fun v2615 w2616 s2617 m2618 k2619 r2620 => (?_)))
     obtain rfl := r2620
     exact ⟨k2619, rfl⟩
    ·intro F1 w1 k1 hf hd
     obtain ⟨F2, rfl⟩ := lit_of (F := F1) [(15, Value.bool false), (18, Value.bool (inM ((c.recs[i]!).asked) (0 : Int) (1023 : Int)))] ⟨hd 4 15 (by kernel_rfl), hd 7 18 (by kernel_rfl), trivial⟩
     refine sp_take rfl rfl ((o_not (inM ((c.recs[i]!).asked) (0 : Int) (1023 : Int)) rfl (?_)))
     exact ⟨(Keep.refl _ _), congrArg Value.bool (hb2526)⟩
    ·intro F1 w1 k1 hf hd
     obtain ⟨F2, rfl⟩ := lit_of (F := F1) [(15, Value.bool false), (19, Value.bool false)] ⟨hd 4 15 (by kernel_rfl), hd 8 19 (by kernel_rfl), trivial⟩
     exact sp_plain rfl ((o_pickF (Value.bool false) rfl rfl (⟨(Keep.refl _ _), rfl⟩)))
    ·intro F1 w1 k1 hf hd
     obtain ⟨F2, rfl⟩ := lit_of (F := F1) [(20, Value.bool false)] ⟨hd 9 20 (by kernel_rfl), trivial⟩
     exact sp_plain rfl ((o_move (Value.bool false) rfl (⟨(Keep.refl _ _), rfl⟩)))
    ·intro F1 w1 k1 hf hd
     obtain ⟨F2, rfl⟩ := lit_of (F := F1) [(1, vI (i : Int)), (21, Value.bool false)] ⟨hf 1 (by kernel_rfl), hd 10 21 (by kernel_rfl), trivial⟩
     exact sp_take rfl rfl ((o_move (vI (i : Int)) rfl (⟨(Keep.refl _ _), rfl⟩)))
    ·intro F1 w1 k1 hf hd
     obtain ⟨F2, rfl⟩ := lit_of (F := F1) [(21, Value.bool false), (22, vI (i : Int))] ⟨hd 10 21 (by kernel_rfl), hd 11 22 (by kernel_rfl), trivial⟩
     refine sp_take rfl rfl ((o_gtr .i64 (i : Int) (0 : Int) rfl rfl (?_)))
     exact ⟨(Keep.refl _ _), congrArg Value.bool (hb2528)⟩
    ·intro F1 w1 k1 hf hd
     obtain ⟨F2, rfl⟩ := lit_of (F := F1) [(21, Value.bool false), (23, Value.bool true)] ⟨hd 10 21 (by kernel_rfl), hd 12 23 (by kernel_rfl), trivial⟩
     exact sp_take rfl rfl ((o_move (Value.bool true) rfl (⟨(Keep.refl _ _), rfl⟩)))
    ·intro F1 w1 k1 hf hd
     have k0 := (Keep.drew [] w2515).trans k1
     have m1 : Mv (b2508 :: []) w2515 (b2508 :: []) w1 := Mv.of_keep k0
     have hp2499 := hp2499.mv m1
     obtain ⟨F2, rfl⟩ := lit_of (F := F1) [(2, Value.pointer (some a2494)), (24, Value.bool true)] ⟨hf 2 (by kernel_rfl), hd 13 24 (by kernel_rfl), trivial⟩
     exact sp_take rfl rfl ((o_fieldR 4 f_25_4 (c.recs) rfl hp2499 (fun _ _ _ h => Enc_circle_f4 h) fun a2621 hp2622 => (⟨(Keep.refl _ _), ⟨a2621, rfl, hp2622⟩⟩)))
    ·intro F1 w1 k1 hf hd
     obtain ⟨a2623, e2625, hp2624⟩ : ∃ a, F1 25 = .pointer (some a) ∧ PT (Enc.slice Enc.recovery) w1 ((b2508 :: []) ++ O) (.pointer (some a)) (c.recs) := hd 14 25 (by kernel_rfl)
     obtain ⟨F2, rfl⟩ := lit_of (F := F1) [(24, Value.bool true), (25, Value.pointer (some a2623))] ⟨hd 13 24 (by kernel_rfl), e2625, trivial⟩
     refine sp_take rfl rfl ((o_loadL Try.underlying23 rfl rfl hp2624 fun v2626 hl2627 => (?_)))
     have := hl2627.len_le
     exact ⟨(Keep.refl _ _), hl2627⟩
    ·intro F1 w1 k1 hf hd
     obtain ⟨F2, rfl⟩ := lit_of (F := F1) [(1, vI (i : Int)), (24, Value.bool true)] ⟨hf 1 (by kernel_rfl), hd 13 24 (by kernel_rfl), trivial⟩
     exact sp_take rfl rfl ((o_move (vI (i : Int)) rfl (⟨(Keep.refl _ _), rfl⟩)))
    ·intro F1 w1 k1 hf hd
     obtain ⟨F2, rfl⟩ := lit_of (F := F1) [(24, Value.bool true), (27, vI (i : Int))] ⟨hd 13 24 (by kernel_rfl), hd 16 27 (by kernel_rfl), trivial⟩
     exact sp_take rfl rfl ((o_sub .i64 (i : Int) (1 : Int) (((i - 1 : Nat) : Int)) rfl rfl (w64 (by omega) (by omega)) (⟨(Keep.refl _ _), rfl⟩)))
    ·intro F1 w1 k1 hf hd
     obtain ⟨v2628, e2630, hl2629⟩ : ∃ v, F1 26 = v ∧ RdL Enc.recovery w1 ((b2508 :: []) ++ O) v (c.recs) := ⟨_, rfl, hd 15 26 (by kernel_rfl)⟩
     have := hl2629.len_le
     obtain ⟨F2, rfl⟩ := lit_of (F := F1) [(24, Value.bool true), (26, v2628), (28, vI ((i - 1 : Nat) : Int))] ⟨hd 13 24 (by kernel_rfl), e2630, hd 17 28 (by kernel_rfl), trivial⟩
     exact sp_take rfl rfl ((o_idx Try.underlying23 s_47 .i64 ((i - 1 : Nat) : Int) (i - 1) rfl rfl rfl hl2629 (by omega) fun a2631 hp2632 => (⟨(Keep.refl _ _), ⟨a2631, rfl, hp2632⟩⟩)))
    ·intro F1 w1 k1 hf hd
     obtain ⟨a2633, e2635, hp2634⟩ : ∃ a, F1 29 = .pointer (some a) ∧ PT Enc.recovery w1 ((b2508 :: []) ++ O) (.pointer (some a)) (c.recs[i - 1]!) := hd 18 29 (by kernel_rfl)
     obtain ⟨F2, rfl⟩ := lit_of (F := F1) [(24, Value.bool true), (29, Value.pointer (some a2633))] ⟨hd 13 24 (by kernel_rfl), e2635, trivial⟩
     exact sp_take rfl rfl ((o_fieldR 1 f_47_1 ((c.recs[i - 1]!).asked) rfl hp2634 (fun _ _ _ h => Enc_recovery_f1 h) fun a2636 hp2637 => (⟨(Keep.refl _ _), ⟨a2636, rfl, hp2637⟩⟩)))
    ·intro F1 w1 k1 hf hd
     obtain ⟨a2638, e2640, hp2639⟩ : ∃ a, F1 30 = .pointer (some a) ∧ PT Enc.int w1 ((b2508 :: []) ++ O) (.pointer (some a)) ((c.recs[i - 1]!).asked) := hd 19 30 (by kernel_rfl)
     obtain ⟨F2, rfl⟩ := lit_of (F := F1) [(24, Value.bool true), (30, Value.pointer (some a2638))] ⟨hd 13 24 (by kernel_rfl), e2640, trivial⟩
     exact sp_take rfl rfl ((o_loadI Try.underlying3 rfl rfl hp2639 (⟨(Keep.refl _ _), rfl⟩)))
    ·intro F1 w1 k1 hf hd
     obtain ⟨F2, rfl⟩ := lit_of (F := F1) [(5, Value.pointer (some ⟨b2508, 0, none⟩)), (24, Value.bool true)] ⟨hf 5 (by kernel_rfl), hd 13 24 (by kernel_rfl), trivial⟩
     exact sp_take rfl rfl ((o_fieldL 1 f_47_1 rfl (⟨(Keep.refl _ _), rfl⟩)))
    ·intro F1 w1 k1 hf hd
     have k0 := (Keep.drew [] w2515).trans k1
     have bx2519 := bx2519.keep k0 (by simp)
     obtain ⟨F2, rfl⟩ := lit_of (F := F1) [(24, Value.bool true), (32, Value.pointer (some ⟨b2508, 1, none⟩))] ⟨hd 13 24 (by kernel_rfl), hd 21 32 (by kernel_rfl), trivial⟩
     exact sp_take rfl rfl ((o_loadBx Try.underlying3 rfl (vI ((c.recs[i]!).asked)) rfl bx2519 rfl (⟨(Keep.refl _ _), rfl⟩)))
    intro F2642 w2643 k2641 hT2644 hF2645
    have s2646 := s2516.call k2641
    have m2647 : Mv (b2508 :: []) w2515 (b2508 :: []) w2643 := Mv.of_keep k2641
    have hp2499 := hp2499.mv m2647
    have hd2521 := hd2521.mv m2647
    have hd2523 := hd2523.mv m2647
    have bx2519 := bx2519.keep k2641 (by simp)
    obtain ⟨F2, rfl⟩ := lit_of (F := F2642) [(1, vI (i : Int)), (2, Value.pointer (some a2494)), (5, Value.pointer (some ⟨b2508, 0, none⟩)), (82, undef), (21, Value.bool false), (24, Value.bool true), (31, vI ((c.recs[i - 1]!).asked)), (33, vI ((c.recs[i]!).asked))] ⟨hF2645 1 (by kernel_rfl), hF2645 2 (by kernel_rfl), hF2645 5 (by kernel_rfl), hF2645 82 (by kernel_rfl), hT2644 10 21 (by kernel_rfl) (by decide), hT2644 13 24 (by kernel_rfl) (by decide), hT2644 20 31 (by kernel_rfl) (by decide), hT2644 22 33 (by kernel_rfl) (by decide), trivial⟩
    clear hT2644 hF2645
    refine wl_t rfl (o_gtr .i64 ((c.recs[i - 1]!).asked) ((c.recs[i]!).asked) rfl rfl (wl_t rfl (o_pickT (Value.bool (decide ((c.recs[i]!).asked < (c.recs[i - 1]!).asked))) rfl rfl (wl_s (o_pickF (Value.bool (decide ((c.recs[i]!).asked < (c.recs[i - 1]!).asked))) rfl rfl (wl_s (o_move (Value.bool (decide ((c.recs[i]!).asked < (c.recs[i - 1]!).asked))) rfl (?_))))))))
    cases hb2649 : (decide ((c.recs[i]!).asked < (c.recs[i - 1]!).asked))
    ·have hp2650 : (c.recs[i - 1]!).asked ≤ (c.recs[i]!).asked := by first | simpa using hb2649 | (have e := hb2649; simp at e; omega)
     refine wl_t rfl (o_fieldL 2 f_47_2 rfl (wl_t rfl (o_loadBx Try.underlying3 rfl (vI ((c.recs[i]!).state)) rfl bx2519 rfl (wl_t rfl (o_callK (vs := [vI ((c.recs[i]!).state), vI (0 : Int), vI (2 : Int)]) enter_32 (c_in (O := (b2508 :: []) ++ O) ((c.recs[i]!).state) (0 : Int) (2 : Int) w2643 s2646.lt) rfl s2646 fun v2651 w2652 s2653 m2654 k2655 r2656 => (?_))))))
     obtain rfl := r2656
     have hp2499 := hp2499.mv m2654
     have hd2521 := hd2521.mv m2654
     have hd2523 := hd2523.mv m2654
     have bx2519 := bx2519.keep k2655 (by simp)
     refine wl_t rfl (o_not (inM ((c.recs[i]!).state) (0 : Int) (2 : Int)) rfl (wl_s (o_pickF (Value.bool (!(inM ((c.recs[i]!).state) (0 : Int) (2 : Int)))) rfl rfl (wl_s (o_move (Value.bool (!(inM ((c.recs[i]!).state) (0 : Int) (2 : Int)))) rfl (?_))))))
     cases hb2657 : (!(inM ((c.recs[i]!).state) (0 : Int) (2 : Int)))
     ·have hp2658 : (inM ((c.recs[i]!).state) (0 : Int) (2 : Int)) = true := by first | simpa using hb2657 | (have e := hb2657; simp at e; omega)
      refine wl_t rfl (o_fieldL 3 f_47_3 rfl (wl_t rfl (o_loadBx Try.underlying22 rfl (d2520) rfl bx2519 rfl (wl_t rfl (o_callK (vs := [d2520]) enter_35 (c_rising (O := (b2508 :: []) ++ O) d2520 ((c.recs[i]!).approved) w2652 hd2521 s2653.lt) rfl s2653 fun v2659 w2660 s2661 m2662 k2663 r2664 => (?_))))))
      obtain rfl := r2664
      have hp2499 := hp2499.mv m2662
      have hd2523 := hd2523.mv m2662
      have bx2519 := bx2519.keep k2663 (by simp)
      refine wl_t rfl (o_not (incM ((c.recs[i]!).approved)) rfl (wl_s (o_pickF (Value.bool (!(incM ((c.recs[i]!).approved)))) rfl rfl (wl_nil (thenQ_n (?_))))))
      refine cw_cond (!(incM ((c.recs[i]!).approved))) rfl rfl (fun hc2665 => ?_) (fun hc2665 => ?_)
      ·have hp2666 : (incM ((c.recs[i]!).approved)) = false := by first | simpa using hc2665 | (have e := hc2665; simp at e; omega)
       refine cw_seq (?_)
       refine cw_region (by kernel_rfl) (wl_s (o_assign (Value.bool false) rfl (wl_nil (thenQ_n (?_)))))
       refine cw_ret (thenQ_r (end_r rfl (res1 rfl rfl rfl) (?_)))
       have e : (refRecM c i) = false := by first | (unfold refRecM; ((repeat (first | (refine (if_pos ?_).trans ?_; solve | omega | assumption | (simp only [dbs]; first | done | (repeat (first | omega | assumption | (right; first | omega | assumption | (constructor <;> first | omega | assumption)) | left))) | (rw [Bool.not_eq_true]; simp only [dbs]; first | done | omega | assumption | ((repeat' apply And.intro) <;> first | omega | assumption)) | (simp only [*, dbs]; done)) | (refine (if_neg ?_).trans ?_; solve | omega | assumption | (simp only [dbs]; first | done | (repeat (first | omega | assumption | (right; first | omega | assumption | (constructor <;> first | omega | assumption)) | left))) | (rw [Bool.not_eq_true]; simp only [dbs]; first | done | omega | assumption | ((repeat' apply And.intro) <;> first | omega | assumption)) | (simp only [*, dbs]; done)))); rfl)) | (unfold refRecM; simp only [*, dbs]; simp; done) | simp_all [refRecM]
       exact ⟨_, rfl, s2661.keep, by rw [e]; exact rfl⟩
      ·have hp2667 : (incM ((c.recs[i]!).approved)) = true := by first | simpa using hc2665 | (have e := hc2665; simp at e; omega)
       refine cw_skip (thenQ_n (?_))
       refine cw_seq (?_)
       refine cw_seq (?_)
       refine cw_region (by kernel_rfl) (wl_s (o_fieldL 2 f_47_2 rfl (wl_s (o_loadBx Try.underlying3 rfl (vI ((c.recs[i]!).state)) rfl bx2519 rfl (wl_s (o_eql .i64 ((c.recs[i]!).state) (2 : Int) rfl rfl (wl_nil (thenQ_n (?_)))))))))
       refine cw_cond (((c.recs[i]!).state) == (2 : Int)) rfl rfl (fun hc2668 => ?_) (fun hc2668 => ?_)
       ·have hp2669 : (c.recs[i]!).state = (2 : Int) := by first | simpa using hc2668 | (have e := hc2668; simp at e; omega)
        refine cw_seq (?_)
        cases hb2670 : ((((c.recs[i]!).vetoed).length : Int) == (1 : Int))
        ·have hp2671 : (((c.recs[i]!).vetoed).length : Int) ≠ (1 : Int) := by first | simpa using hb2670 | (have e := hb2670; simp at e; omega)
         refine cw_draw' 11 _ _ [isV (Value.pointer (some ⟨b2508, 4, none⟩)), fun (vT : Value) (wT : World) => RdL Enc.int wT ((b2508 :: []) ++ O) vT ((c.recs[i]!).vetoed), isV (vI (((c.recs[i]!).vetoed).length : Int)), isV (Value.bool false), isV (Value.bool false), isV undef, isV undef, isV undef, isV undef, isV undef, isV undef] (by kernel_rfl) (by kernel_rfl) (by kernel_rfl) (by kernel_rfl) rfl rfl ⟨kI, fun _ _ _ h k => h.mv (Mv.of_keep k), kI, kI, kI, kI, kI, kI, kI, kI, kI, trivial⟩ ⟨?_, ?_, ?_, ?_, ?_, ?_, ?_, ?_, ?_, ?_, ?_, trivial⟩ ?_
         ·intro F1 w1 k1 hf hd
          obtain ⟨F2, rfl⟩ := lit_of (F := F1) [(5, Value.pointer (some ⟨b2508, 0, none⟩))] ⟨hf 5 (by kernel_rfl), trivial⟩
          exact sp_plain rfl ((o_fieldL 4 f_47_4 rfl (⟨(Keep.refl _ _), rfl⟩)))
         ·intro F1 w1 k1 hf hd
          have k0 := (Keep.drew [] w2660).trans k1
          have m1 : Mv (b2508 :: []) w2660 (b2508 :: []) w1 := Mv.of_keep k0
          have bx2519 := bx2519.keep k0 (by simp)
          have hd2523 := hd2523.mv m1
          obtain ⟨F2, rfl⟩ := lit_of (F := F1) [(52, Value.pointer (some ⟨b2508, 4, none⟩))] ⟨hd 0 52 (by kernel_rfl), trivial⟩
          exact sp_plain rfl ((o_loadBx Try.underlying22 rfl (d2522) rfl bx2519 rfl (⟨(Keep.refl _ _), hd2523⟩)))
         ·intro F1 w1 k1 hf hd
          obtain ⟨v2672, e2674, hl2673⟩ : ∃ v, F1 53 = v ∧ RdL Enc.int w1 ((b2508 :: []) ++ O) v ((c.recs[i]!).vetoed) := ⟨_, rfl, hd 1 53 (by kernel_rfl)⟩
          have := hl2673.len_le
          obtain ⟨F2, rfl⟩ := lit_of (F := F1) [(53, v2672)] ⟨e2674, trivial⟩
          exact sp_plain rfl ((o_lenR Try.underlying22 rfl hl2673 (⟨(Keep.refl _ _), rfl⟩)))
         ·intro F1 w1 k1 hf hd
          obtain ⟨F2, rfl⟩ := lit_of (F := F1) [(54, vI (((c.recs[i]!).vetoed).length : Int))] ⟨hd 2 54 (by kernel_rfl), trivial⟩
          refine sp_plain rfl ((o_eql .i64 (((c.recs[i]!).vetoed).length : Int) (1 : Int) rfl rfl (?_)))
          exact ⟨(Keep.refl _ _), congrArg Value.bool (hb2670)⟩
         ·intro F1 w1 k1 hf hd
          obtain ⟨F2, rfl⟩ := lit_of (F := F1) [(55, Value.bool false)] ⟨hd 3 55 (by kernel_rfl), trivial⟩
          exact sp_plain rfl ((o_move (Value.bool false) rfl (⟨(Keep.refl _ _), rfl⟩)))
         ·intro F1 w1 k1 hf hd
          exact sp_skipD rfl rfl (hd 4 56 (by kernel_rfl)) rfl rfl
         ·intro F1 w1 k1 hf hd
          exact sp_skipD rfl rfl (hd 4 56 (by kernel_rfl)) rfl rfl
         ·intro F1 w1 k1 hf hd
          exact sp_skipD rfl rfl (hd 4 56 (by kernel_rfl)) rfl rfl
         ·intro F1 w1 k1 hf hd
          exact sp_skipD rfl rfl (hd 4 56 (by kernel_rfl)) rfl rfl
         ·intro F1 w1 k1 hf hd
          exact sp_skipD rfl rfl (hd 4 56 (by kernel_rfl)) rfl rfl
         ·intro F1 w1 k1 hf hd
          exact sp_skipD rfl rfl (hd 4 56 (by kernel_rfl)) rfl rfl
         intro F2676 w2677 k2675 hT2678 hF2679
         have s2680 := s2661.call k2675
         obtain ⟨F2, rfl⟩ := lit_of (F := F2676) [(82, undef), (56, Value.bool false)] ⟨hF2679 82 (by kernel_rfl), hT2678 4 56 (by kernel_rfl) (by decide), trivial⟩
         clear hT2678 hF2679
         refine wl_k rfl (wl_s (o_pickF (Value.bool false) rfl rfl (wl_s (o_assign (Value.bool false) rfl (wl_nil (thenQ_n (?_)))))))
         refine cw_ret (thenQ_r (end_r rfl (res1 rfl rfl rfl) (?_)))
         have e : (refRecM c i) = false := by first | (unfold refRecM; ((repeat (first | (refine (if_pos ?_).trans ?_; solve | omega | assumption | (simp only [dbs]; first | done | (repeat (first | omega | assumption | (right; first | omega | assumption | (constructor <;> first | omega | assumption)) | left))) | (rw [Bool.not_eq_true]; simp only [dbs]; first | done | omega | assumption | ((repeat' apply And.intro) <;> first | omega | assumption)) | (simp only [*, dbs]; done)) | (refine (if_neg ?_).trans ?_; solve | omega | assumption | (simp only [dbs]; first | done | (repeat (first | omega | assumption | (right; first | omega | assumption | (constructor <;> first | omega | assumption)) | left))) | (rw [Bool.not_eq_true]; simp only [dbs]; first | done | omega | assumption | ((repeat' apply And.intro) <;> first | omega | assumption)) | (simp only [*, dbs]; done)))); rfl)) | (unfold refRecM; simp only [*, dbs]; simp; done) | simp_all [refRecM]
         exact ⟨_, rfl, s2680.keep, by rw [e]; exact rfl⟩
        ·have hp2683 : (((c.recs[i]!).vetoed).length : Int) = (1 : Int) := by first | simpa using hb2670 | (have e := hb2670; simp at e; omega)
         refine cw_draw' 11 _ _ [isV (Value.pointer (some ⟨b2508, 4, none⟩)), fun (vT : Value) (wT : World) => RdL Enc.int wT ((b2508 :: []) ++ O) vT ((c.recs[i]!).vetoed), isV (vI (((c.recs[i]!).vetoed).length : Int)), isV (Value.bool true), isV (Value.bool true), isV (Value.pointer (some ⟨b2508, 4, none⟩)), fun (vT : Value) (wT : World) => RdL Enc.int wT ((b2508 :: []) ++ O) vT ((c.recs[i]!).vetoed), fun (vT : Value) (wT : World) => ∃ aT, vT = .pointer (some aT) ∧ PT Enc.int wT ((b2508 :: []) ++ O) (.pointer (some aT)) (((c.recs[i]!).vetoed)[0]!), isV (vI (((c.recs[i]!).vetoed)[0]!)), isV (Value.pointer (some ⟨b2508, 1, none⟩)), isV (vI ((c.recs[i]!).asked))] (by kernel_rfl) (by kernel_rfl) (by kernel_rfl) (by kernel_rfl) rfl rfl ⟨kI, fun _ _ _ h k => h.mv (Mv.of_keep k), kI, kI, kI, kI, fun _ _ _ h k => h.mv (Mv.of_keep k), fun _ _ _ ⟨a, e, h⟩ k => ⟨a, e, h.mv (Mv.of_keep k)⟩, kI, kI, kI, trivial⟩ ⟨?_, ?_, ?_, ?_, ?_, ?_, ?_, ?_, ?_, ?_, ?_, trivial⟩ ?_
         ·intro F1 w1 k1 hf hd
          obtain ⟨F2, rfl⟩ := lit_of (F := F1) [(5, Value.pointer (some ⟨b2508, 0, none⟩))] ⟨hf 5 (by kernel_rfl), trivial⟩
          exact sp_plain rfl ((o_fieldL 4 f_47_4 rfl (⟨(Keep.refl _ _), rfl⟩)))
         ·intro F1 w1 k1 hf hd
          have k0 := (Keep.drew [] w2660).trans k1
          have m1 : Mv (b2508 :: []) w2660 (b2508 :: []) w1 := Mv.of_keep k0
          have bx2519 := bx2519.keep k0 (by simp)
          have hd2523 := hd2523.mv m1
          obtain ⟨F2, rfl⟩ := lit_of (F := F1) [(52, Value.pointer (some ⟨b2508, 4, none⟩))] ⟨hd 0 52 (by kernel_rfl), trivial⟩
          exact sp_plain rfl ((o_loadBx Try.underlying22 rfl (d2522) rfl bx2519 rfl (⟨(Keep.refl _ _), hd2523⟩)))
         ·intro F1 w1 k1 hf hd
          obtain ⟨v2684, e2686, hl2685⟩ : ∃ v, F1 53 = v ∧ RdL Enc.int w1 ((b2508 :: []) ++ O) v ((c.recs[i]!).vetoed) := ⟨_, rfl, hd 1 53 (by kernel_rfl)⟩
          have := hl2685.len_le
          obtain ⟨F2, rfl⟩ := lit_of (F := F1) [(53, v2684)] ⟨e2686, trivial⟩
          exact sp_plain rfl ((o_lenR Try.underlying22 rfl hl2685 (⟨(Keep.refl _ _), rfl⟩)))
         ·intro F1 w1 k1 hf hd
          obtain ⟨F2, rfl⟩ := lit_of (F := F1) [(54, vI (((c.recs[i]!).vetoed).length : Int))] ⟨hd 2 54 (by kernel_rfl), trivial⟩
          refine sp_plain rfl ((o_eql .i64 (((c.recs[i]!).vetoed).length : Int) (1 : Int) rfl rfl (?_)))
          exact ⟨(Keep.refl _ _), congrArg Value.bool (hb2670)⟩
         ·intro F1 w1 k1 hf hd
          obtain ⟨F2, rfl⟩ := lit_of (F := F1) [(55, Value.bool true)] ⟨hd 3 55 (by kernel_rfl), trivial⟩
          exact sp_plain rfl ((o_move (Value.bool true) rfl (⟨(Keep.refl _ _), rfl⟩)))
         ·intro F1 w1 k1 hf hd
          obtain ⟨F2, rfl⟩ := lit_of (F := F1) [(5, Value.pointer (some ⟨b2508, 0, none⟩)), (56, Value.bool true)] ⟨hf 5 (by kernel_rfl), hd 4 56 (by kernel_rfl), trivial⟩
          exact sp_take rfl rfl ((o_fieldL 4 f_47_4 rfl (⟨(Keep.refl _ _), rfl⟩)))
         ·intro F1 w1 k1 hf hd
          have k0 := (Keep.drew [] w2660).trans k1
          have m1 : Mv (b2508 :: []) w2660 (b2508 :: []) w1 := Mv.of_keep k0
          have bx2519 := bx2519.keep k0 (by simp)
          have hd2523 := hd2523.mv m1
          obtain ⟨F2, rfl⟩ := lit_of (F := F1) [(56, Value.bool true), (57, Value.pointer (some ⟨b2508, 4, none⟩))] ⟨hd 4 56 (by kernel_rfl), hd 5 57 (by kernel_rfl), trivial⟩
          exact sp_take rfl rfl ((o_loadBx Try.underlying22 rfl (d2522) rfl bx2519 rfl (⟨(Keep.refl _ _), hd2523⟩)))
         ·intro F1 w1 k1 hf hd
          obtain ⟨v2687, e2689, hl2688⟩ : ∃ v, F1 58 = v ∧ RdL Enc.int w1 ((b2508 :: []) ++ O) v ((c.recs[i]!).vetoed) := ⟨_, rfl, hd 6 58 (by kernel_rfl)⟩
          have := hl2688.len_le
          obtain ⟨F2, rfl⟩ := lit_of (F := F1) [(56, Value.bool true), (58, v2687)] ⟨hd 4 56 (by kernel_rfl), e2689, trivial⟩
          exact sp_take rfl rfl ((o_idx Try.underlying22 s_3 .i64 (0 : Int) 0 rfl rfl rfl hl2688 (by omega) fun a2690 hp2691 => (⟨(Keep.refl _ _), ⟨a2690, rfl, hp2691⟩⟩)))
         ·intro F1 w1 k1 hf hd
          obtain ⟨a2692, e2694, hp2693⟩ : ∃ a, F1 59 = .pointer (some a) ∧ PT Enc.int w1 ((b2508 :: []) ++ O) (.pointer (some a)) (((c.recs[i]!).vetoed)[0]!) := hd 7 59 (by kernel_rfl)
          obtain ⟨F2, rfl⟩ := lit_of (F := F1) [(56, Value.bool true), (59, Value.pointer (some a2692))] ⟨hd 4 56 (by kernel_rfl), e2694, trivial⟩
          exact sp_take rfl rfl ((o_loadI Try.underlying3 rfl rfl hp2693 (⟨(Keep.refl _ _), rfl⟩)))
         ·intro F1 w1 k1 hf hd
          obtain ⟨F2, rfl⟩ := lit_of (F := F1) [(5, Value.pointer (some ⟨b2508, 0, none⟩)), (56, Value.bool true)] ⟨hf 5 (by kernel_rfl), hd 4 56 (by kernel_rfl), trivial⟩
          exact sp_take rfl rfl ((o_fieldL 1 f_47_1 rfl (⟨(Keep.refl _ _), rfl⟩)))
         ·intro F1 w1 k1 hf hd
          have k0 := (Keep.drew [] w2660).trans k1
          have bx2519 := bx2519.keep k0 (by simp)
          obtain ⟨F2, rfl⟩ := lit_of (F := F1) [(56, Value.bool true), (61, Value.pointer (some ⟨b2508, 1, none⟩))] ⟨hd 4 56 (by kernel_rfl), hd 9 61 (by kernel_rfl), trivial⟩
          exact sp_take rfl rfl ((o_loadBx Try.underlying3 rfl (vI ((c.recs[i]!).asked)) rfl bx2519 rfl (⟨(Keep.refl _ _), rfl⟩)))
         intro F2696 w2697 k2695 hT2698 hF2699
         have s2700 := s2661.call k2695
         obtain ⟨F2, rfl⟩ := lit_of (F := F2696) [(82, undef), (56, Value.bool true), (60, vI (((c.recs[i]!).vetoed)[0]!)), (62, vI ((c.recs[i]!).asked))] ⟨hF2699 82 (by kernel_rfl), hT2698 4 56 (by kernel_rfl) (by decide), hT2698 8 60 (by kernel_rfl) (by decide), hT2698 10 62 (by kernel_rfl) (by decide), trivial⟩
         clear hT2698 hF2699
         refine wl_t rfl (o_callK (vs := [vI (((c.recs[i]!).vetoed)[0]!), vI ((c.recs[i]!).asked), vI (1023 : Int)]) enter_32 (c_in (O := (b2508 :: []) ++ O) (((c.recs[i]!).vetoed)[0]!) ((c.recs[i]!).asked) (1023 : Int) w2697 s2700.lt) rfl s2700 fun v2703 w2704 s2705 m2706 k2707 r2708 => (?_))
         obtain rfl := r2708
         refine wl_s (o_pickT (Value.bool (inM (((c.recs[i]!).vetoed)[0]!) ((c.recs[i]!).asked) (1023 : Int))) rfl rfl (wl_s (o_assign (Value.bool (inM (((c.recs[i]!).vetoed)[0]!) ((c.recs[i]!).asked) (1023 : Int))) rfl (wl_nil (thenQ_n (?_))))))
         refine cw_ret (thenQ_r (end_r rfl (res1 rfl rfl rfl) (?_)))
         have e : (refRecM c i) = (inM (((c.recs[i]!).vetoed)[0]!) ((c.recs[i]!).asked) (1023 : Int)) := by first | (unfold refRecM; ((repeat (first | (refine (if_pos ?_).trans ?_; solve | omega | assumption | (simp only [dbs]; first | done | (repeat (first | omega | assumption | (right; first | omega | assumption | (constructor <;> first | omega | assumption)) | left))) | (rw [Bool.not_eq_true]; simp only [dbs]; first | done | omega | assumption | ((repeat' apply And.intro) <;> first | omega | assumption)) | (simp only [*, dbs]; done)) | (refine (if_neg ?_).trans ?_; solve | omega | assumption | (simp only [dbs]; first | done | (repeat (first | omega | assumption | (right; first | omega | assumption | (constructor <;> first | omega | assumption)) | left))) | (rw [Bool.not_eq_true]; simp only [dbs]; first | done | omega | assumption | ((repeat' apply And.intro) <;> first | omega | assumption)) | (simp only [*, dbs]; done)))); rfl)) | (unfold refRecM; simp only [*, dbs]; simp; done) | simp_all [refRecM]
         exact ⟨_, rfl, s2705.keep, by rw [e]; exact rfl⟩
       ·have hp2709 : (c.recs[i]!).state ≠ (2 : Int) := by first | simpa using hc2668 | (have e := hc2668; simp at e; omega)
        refine cw_skip (thenQ_n (?_))
        refine cw_seq (?_)
        refine cw_region (by kernel_rfl) (wl_s (o_fieldL 4 f_47_4 rfl (wl_s (o_loadBx Try.underlying22 rfl (d2522) rfl bx2519 rfl (wl_s (o_lenR Try.underlying22 rfl hd2523 (wl_s (o_eql .i64 (((c.recs[i]!).vetoed).length : Int) (0 : Int) rfl rfl (wl_s (o_move (Value.bool ((((c.recs[i]!).vetoed).length : Int) == (0 : Int))) rfl (?_)))))))))))
        cases hb2710 : ((((c.recs[i]!).vetoed).length : Int) == (0 : Int))
        ·have hp2711 : (((c.recs[i]!).vetoed).length : Int) ≠ (0 : Int) := by first | simpa using hb2710 | (have e := hb2710; simp at e; omega)
         refine wl_k rfl (wl_k rfl (wl_k rfl (wl_k rfl (wl_u rfl (wl_u rfl (wl_u rfl (wl_u rfl (wl_u rfl (wl_u rfl (wl_k rfl (wl_s (o_pickF (Value.bool false) rfl rfl (wl_s (o_assign (Value.bool false) rfl (wl_nil (thenQ_n (?_)))))))))))))))))
         refine cw_ret (end_r rfl (res1 rfl rfl rfl) (?_))
         have e : (refRecM c i) = false := by first | (unfold refRecM; ((repeat (first | (refine (if_pos ?_).trans ?_; solve | omega | assumption | (simp only [dbs]; first | done | (repeat (first | omega | assumption | (right; first | omega | assumption | (constructor <;> first | omega | assumption)) | left))) | (rw [Bool.not_eq_true]; simp only [dbs]; first | done | omega | assumption | ((repeat' apply And.intro) <;> first | omega | assumption)) | (simp only [*, dbs]; done)) | (refine (if_neg ?_).trans ?_; solve | omega | assumption | (simp only [dbs]; first | done | (repeat (first | omega | assumption | (right; first | omega | assumption | (constructor <;> first | omega | assumption)) | left))) | (rw [Bool.not_eq_true]; simp only [dbs]; first | done | omega | assumption | ((repeat' apply And.intro) <;> first | omega | assumption)) | (simp only [*, dbs]; done)))); rfl)) | (unfold refRecM; simp only [*, dbs]; simp; done) | simp_all [refRecM]
         exact ⟨_, rfl, s2661.keep, by rw [e]; exact rfl⟩
        ·have hp2712 : (((c.recs[i]!).vetoed).length : Int) = (0 : Int) := by first | simpa using hb2710 | (have e := hb2710; simp at e; omega)
         refine wl_t rfl (o_fieldL 2 f_47_2 rfl (wl_t rfl (o_loadBx Try.underlying3 rfl (vI ((c.recs[i]!).state)) rfl bx2519 rfl (wl_t rfl (o_eql .i64 ((c.recs[i]!).state) (1 : Int) rfl rfl (wl_t rfl (o_move (Value.bool (((c.recs[i]!).state) == (1 : Int))) rfl (?_))))))))
         cases hb2713 : (((c.recs[i]!).state) == (1 : Int))
         ·have hp2714 : (c.recs[i]!).state ≠ (1 : Int) := by first | simpa using hb2713 | (have e := hb2713; simp at e; omega)
          refine wl_t rfl (o_move (vI (i : Int)) rfl (wl_t rfl (o_fieldR 4 f_25_4 (c.recs) rfl hp2499 (fun _ _ _ h => Enc_circle_f4 h) fun a2715 hp2716 => (wl_t rfl (o_loadL Try.underlying23 rfl rfl hp2716 fun v2717 hl2718 => (?_))))))
          have := hl2718.len_le
          refine wl_t rfl (o_lenR Try.underlying23 rfl hl2718 (wl_t rfl (o_sub .i64 (c.recs.length : Int) (1 : Int) ((c.recs.length : Int) - (1 : Int)) rfl rfl (w64 (by omega) (by omega)) (wl_t rfl (o_eql .i64 (i : Int) ((c.recs.length : Int) - (1 : Int)) rfl rfl (wl_t rfl (o_pickF (Value.bool ((i : Int) == ((c.recs.length : Int) - (1 : Int)))) rfl rfl (wl_s (o_pickT (Value.bool ((i : Int) == ((c.recs.length : Int) - (1 : Int)))) rfl rfl (wl_s (o_assign (Value.bool ((i : Int) == ((c.recs.length : Int) - (1 : Int)))) rfl (wl_nil (thenQ_n (?_))))))))))))))
          refine cw_ret (end_r rfl (res1 rfl rfl rfl) (?_))
          have e : (refRecM c i) = ((i : Int) == ((c.recs.length : Int) - (1 : Int))) := by first | (unfold refRecM; ((repeat (first | (refine (if_pos ?_).trans ?_; solve | omega | assumption | (simp only [dbs]; first | done | (repeat (first | omega | assumption | (right; first | omega | assumption | (constructor <;> first | omega | assumption)) | left))) | (rw [Bool.not_eq_true]; simp only [dbs]; first | done | omega | assumption | ((repeat' apply And.intro) <;> first | omega | assumption)) | (simp only [*, dbs]; done)) | (refine (if_neg ?_).trans ?_; solve | omega | assumption | (simp only [dbs]; first | done | (repeat (first | omega | assumption | (right; first | omega | assumption | (constructor <;> first | omega | assumption)) | left))) | (rw [Bool.not_eq_true]; simp only [dbs]; first | done | omega | assumption | ((repeat' apply And.intro) <;> first | omega | assumption)) | (simp only [*, dbs]; done)))); rfl)) | (unfold refRecM; simp only [*, dbs]; simp; done) | simp_all [refRecM]
          exact ⟨_, rfl, s2661.keep, by rw [e]; exact rfl⟩
         ·have hp2719 : (c.recs[i]!).state = (1 : Int) := by first | simpa using hb2713 | (have e := hb2713; simp at e; omega)
          refine wl_k rfl (wl_k rfl (wl_k rfl (wl_k rfl (wl_k rfl (wl_k rfl (wl_t rfl (o_pickT (Value.bool true) rfl rfl (wl_s (o_pickT (Value.bool true) rfl rfl (wl_s (o_assign (Value.bool true) rfl (wl_nil (thenQ_n (?_))))))))))))))
          refine cw_ret (end_r rfl (res1 rfl rfl rfl) (?_))
          have e : (refRecM c i) = true := by first | (unfold refRecM; ((repeat (first | (refine (if_pos ?_).trans ?_; solve | omega | assumption | (simp only [dbs]; first | done | (repeat (first | omega | assumption | (right; first | omega | assumption | (constructor <;> first | omega | assumption)) | left))) | (rw [Bool.not_eq_true]; simp only [dbs]; first | done | omega | assumption | ((repeat' apply And.intro) <;> first | omega | assumption)) | (simp only [*, dbs]; done)) | (refine (if_neg ?_).trans ?_; solve | omega | assumption | (simp only [dbs]; first | done | (repeat (first | omega | assumption | (right; first | omega | assumption | (constructor <;> first | omega | assumption)) | left))) | (rw [Bool.not_eq_true]; simp only [dbs]; first | done | omega | assumption | ((repeat' apply And.intro) <;> first | omega | assumption)) | (simp only [*, dbs]; done)))); rfl)) | (unfold refRecM; simp only [*, dbs]; simp; done) | simp_all [refRecM]
          exact ⟨_, rfl, s2661.keep, by rw [e]; exact rfl⟩
     ·have hp2720 : (inM ((c.recs[i]!).state) (0 : Int) (2 : Int)) = false := by first | simpa using hb2657 | (have e := hb2657; simp at e; omega)
      refine wl_k rfl (wl_k rfl (wl_k rfl (wl_k rfl (wl_s (o_pickT (Value.bool true) rfl rfl (wl_nil (thenQ_n (?_))))))))
      refine cw_cond true rfl rfl (fun _ => ?_) (fun h => by cases h)
      refine cw_seq (?_)
      refine cw_region (by kernel_rfl) (wl_s (o_assign (Value.bool false) rfl (wl_nil (thenQ_n (?_)))))
      refine cw_ret (thenQ_r (end_r rfl (res1 rfl rfl rfl) (?_)))
      have e : (refRecM c i) = false := by first | (unfold refRecM; ((repeat (first | (refine (if_pos ?_).trans ?_; solve | omega | assumption | (simp only [dbs]; first | done | (repeat (first | omega | assumption | (right; first | omega | assumption | (constructor <;> first | omega | assumption)) | left))) | (rw [Bool.not_eq_true]; simp only [dbs]; first | done | omega | assumption | ((repeat' apply And.intro) <;> first | omega | assumption)) | (simp only [*, dbs]; done)) | (refine (if_neg ?_).trans ?_; solve | omega | assumption | (simp only [dbs]; first | done | (repeat (first | omega | assumption | (right; first | omega | assumption | (constructor <;> first | omega | assumption)) | left))) | (rw [Bool.not_eq_true]; simp only [dbs]; first | done | omega | assumption | ((repeat' apply And.intro) <;> first | omega | assumption)) | (simp only [*, dbs]; done)))); rfl)) | (unfold refRecM; simp only [*, dbs]; simp; done) | simp_all [refRecM]
      exact ⟨_, rfl, s2653.keep, by rw [e]; exact rfl⟩
    ·have hp2721 : (c.recs[i]!).asked < (c.recs[i - 1]!).asked := by first | simpa using hb2649 | (have e := hb2649; simp at e; omega)
     refine wl_k rfl (wl_k rfl (wl_k rfl (wl_k rfl (wl_s (o_pickT (Value.bool true) rfl rfl (wl_s (o_move (Value.bool true) rfl (wl_k rfl (wl_k rfl (wl_k rfl (wl_k rfl (wl_s (o_pickT (Value.bool true) rfl rfl (wl_nil (thenQ_n (?_))))))))))))))))
     refine cw_cond true rfl rfl (fun _ => ?_) (fun h => by cases h)
     refine cw_seq (?_)
     refine cw_region (by kernel_rfl) (wl_s (o_assign (Value.bool false) rfl (wl_nil (thenQ_n (?_)))))
     refine cw_ret (thenQ_r (end_r rfl (res1 rfl rfl rfl) (?_)))
     have e : (refRecM c i) = false := by first | (unfold refRecM; ((repeat (first | (refine (if_pos ?_).trans ?_; solve | omega | assumption | (simp only [dbs]; first | done | (repeat (first | omega | assumption | (right; first | omega | assumption | (constructor <;> first | omega | assumption)) | left))) | (rw [Bool.not_eq_true]; simp only [dbs]; first | done | omega | assumption | ((repeat' apply And.intro) <;> first | omega | assumption)) | (simp only [*, dbs]; done)) | (refine (if_neg ?_).trans ?_; solve | omega | assumption | (simp only [dbs]; first | done | (repeat (first | omega | assumption | (right; first | omega | assumption | (constructor <;> first | omega | assumption)) | left))) | (rw [Bool.not_eq_true]; simp only [dbs]; first | done | omega | assumption | ((repeat' apply And.intro) <;> first | omega | assumption)) | (simp only [*, dbs]; done)))); rfl)) | (unfold refRecM; simp only [*, dbs]; simp; done) | simp_all [refRecM]
     exact ⟨_, rfl, s2646.keep, by rw [e]; exact rfl⟩
  ·have hp2722 : (inM ((c.recs[i]!).asked) (0 : Int) (1023 : Int)) = false := by first | simpa using hb2526 | (have e := hb2526; simp at e; omega)
   refine cw_draw' 23 _ _ [isV (Value.pointer (some ⟨b2508, 0, none⟩)), isV (vI ((c.recs[i]!).no)), isV (vI (i : Int)), isV (Value.bool false), isV (Value.bool false), isV (Value.pointer (some ⟨b2508, 1, none⟩)), isV (vI ((c.recs[i]!).asked)), isV (Value.bool (inM ((c.recs[i]!).asked) (0 : Int) (1023 : Int))), isV (Value.bool true), isV (Value.bool true), isV (Value.bool true), isV undef, isV undef, isV undef, isV undef, isV undef, isV undef, isV undef, isV undef, isV undef, isV undef, isV undef, isV undef] (by kernel_rfl) (by kernel_rfl) (by kernel_rfl) (by kernel_rfl) rfl rfl ⟨kI, kI, kI, kI, kI, kI, kI, kI, kI, kI, kI, kI, kI, kI, kI, kI, kI, kI, kI, kI, kI, kI, kI, trivial⟩ ⟨?_, ?_, ?_, ?_, ?_, ?_, ?_, ?_, ?_, ?_, ?_, ?_, ?_, ?_, ?_, ?_, ?_, ?_, ?_, ?_, ?_, ?_, ?_, trivial⟩ ?_
   ·intro F1 w1 k1 hf hd
    obtain ⟨F2, rfl⟩ := lit_of (F := F1) [(5, Value.pointer (some ⟨b2508, 0, none⟩))] ⟨hf 5 (by kernel_rfl), trivial⟩
    exact sp_plain rfl ((o_fieldL 0 f_47_0 rfl (⟨(Keep.refl _ _), rfl⟩)))
   ·intro F1 w1 k1 hf hd
    have k0 := (Keep.drew [] w2515).trans k1
    have bx2519 := bx2519.keep k0 (by simp)
    obtain ⟨F2, rfl⟩ := lit_of (F := F1) [(11, Value.pointer (some ⟨b2508, 0, none⟩))] ⟨hd 0 11 (by kernel_rfl), trivial⟩
    exact sp_plain rfl ((o_loadBx Try.underlying3 rfl (vI ((c.recs[i]!).no)) rfl bx2519 rfl (⟨(Keep.refl _ _), rfl⟩)))
   ·intro F1 w1 k1 hf hd
    obtain ⟨F2, rfl⟩ := lit_of (F := F1) [(1, vI (i : Int))] ⟨hf 1 (by kernel_rfl), trivial⟩
    exact sp_plain rfl ((o_move (vI (i : Int)) rfl (⟨(Keep.refl _ _), rfl⟩)))
   ·intro F1 w1 k1 hf hd
    obtain ⟨F2, rfl⟩ := lit_of (F := F1) [(12, vI ((c.recs[i]!).no)), (13, vI (i : Int))] ⟨hd 1 12 (by kernel_rfl), hd 2 13 (by kernel_rfl), trivial⟩
    refine sp_plain rfl ((o_neq .i64 ((c.recs[i]!).no) (i : Int) rfl rfl (?_)))
    exact ⟨(Keep.refl _ _), congrArg Value.bool (hb2524)⟩
   ·intro F1 w1 k1 hf hd
    obtain ⟨F2, rfl⟩ := lit_of (F := F1) [(14, Value.bool false)] ⟨hd 3 14 (by kernel_rfl), trivial⟩
    exact sp_plain rfl ((o_move (Value.bool false) rfl (⟨(Keep.refl _ _), rfl⟩)))
   ·intro F1 w1 k1 hf hd
    obtain ⟨F2, rfl⟩ := lit_of (F := F1) [(5, Value.pointer (some ⟨b2508, 0, none⟩)), (15, Value.bool false)] ⟨hf 5 (by kernel_rfl), hd 4 15 (by kernel_rfl), trivial⟩
    exact sp_take rfl rfl ((o_fieldL 1 f_47_1 rfl (⟨(Keep.refl _ _), rfl⟩)))
   ·intro F1 w1 k1 hf hd
    have k0 := (Keep.drew [] w2515).trans k1
    have bx2519 := bx2519.keep k0 (by simp)
    obtain ⟨F2, rfl⟩ := lit_of (F := F1) [(15, Value.bool false), (16, Value.pointer (some ⟨b2508, 1, none⟩))] ⟨hd 4 15 (by kernel_rfl), hd 5 16 (by kernel_rfl), trivial⟩
    exact sp_take rfl rfl ((o_loadBx Try.underlying3 rfl (vI ((c.recs[i]!).asked)) rfl bx2519 rfl (⟨(Keep.refl _ _), rfl⟩)))
   ·intro F1 w1 k1 hf hd
    have k0 := (Keep.drew [] w2515).trans k1
    have s1 := s2516.call k0
    obtain ⟨F2, rfl⟩ := lit_of (F := F1) [(15, Value.bool false), (17, vI ((c.recs[i]!).asked))] ⟨hd 4 15 (by kernel_rfl), hd 6 17 (by kernel_rfl), trivial⟩
    refine sp_take rfl rfl ((o_callK (vs := [vI ((c.recs[i]!).asked), vI (0 : Int), vI (1023 : Int)]) enter_32 (c_in (O := (b2508 :: []) ++ O) ((c.recs[i]!).asked) (0 : Int) (1023 : Int) w1 s1.lt) rfl s1 fun v2723 w2724 s2725 m2726 k2727 r2728 => (?_)))
    obtain rfl := r2728
    exact ⟨k2727, rfl⟩
   ·intro F1 w1 k1 hf hd
    obtain ⟨F2, rfl⟩ := lit_of (F := F1) [(15, Value.bool false), (18, Value.bool (inM ((c.recs[i]!).asked) (0 : Int) (1023 : Int)))] ⟨hd 4 15 (by kernel_rfl), hd 7 18 (by kernel_rfl), trivial⟩
    refine sp_take rfl rfl ((o_not (inM ((c.recs[i]!).asked) (0 : Int) (1023 : Int)) rfl (?_)))
    exact ⟨(Keep.refl _ _), congrArg Value.bool (hb2526)⟩
   ·intro F1 w1 k1 hf hd
    obtain ⟨F2, rfl⟩ := lit_of (F := F1) [(15, Value.bool false), (19, Value.bool true)] ⟨hd 4 15 (by kernel_rfl), hd 8 19 (by kernel_rfl), trivial⟩
    exact sp_plain rfl ((o_pickF (Value.bool true) rfl rfl (⟨(Keep.refl _ _), rfl⟩)))
   ·intro F1 w1 k1 hf hd
    obtain ⟨F2, rfl⟩ := lit_of (F := F1) [(20, Value.bool true)] ⟨hd 9 20 (by kernel_rfl), trivial⟩
    exact sp_plain rfl ((o_move (Value.bool true) rfl (⟨(Keep.refl _ _), rfl⟩)))
   ·intro F1 w1 k1 hf hd
    exact sp_skipD rfl rfl (hd 10 21 (by kernel_rfl)) rfl rfl
   ·intro F1 w1 k1 hf hd
    exact sp_skipD rfl rfl (hd 10 21 (by kernel_rfl)) rfl rfl
   ·intro F1 w1 k1 hf hd
    exact sp_skipD rfl rfl (hd 10 21 (by kernel_rfl)) rfl rfl
   ·intro F1 w1 k1 hf hd
    exact sp_undefD rfl rfl (hd 13 24 (by kernel_rfl)) rfl
   ·intro F1 w1 k1 hf hd
    exact sp_undefD rfl rfl (hd 13 24 (by kernel_rfl)) rfl
   ·intro F1 w1 k1 hf hd
    exact sp_undefD rfl rfl (hd 13 24 (by kernel_rfl)) rfl
   ·intro F1 w1 k1 hf hd
    exact sp_undefD rfl rfl (hd 13 24 (by kernel_rfl)) rfl
   ·intro F1 w1 k1 hf hd
    exact sp_undefD rfl rfl (hd 13 24 (by kernel_rfl)) rfl
   ·intro F1 w1 k1 hf hd
    exact sp_undefD rfl rfl (hd 13 24 (by kernel_rfl)) rfl
   ·intro F1 w1 k1 hf hd
    exact sp_undefD rfl rfl (hd 13 24 (by kernel_rfl)) rfl
   ·intro F1 w1 k1 hf hd
    exact sp_undefD rfl rfl (hd 13 24 (by kernel_rfl)) rfl
   ·intro F1 w1 k1 hf hd
    exact sp_undefD rfl rfl (hd 13 24 (by kernel_rfl)) rfl
   intro F2730 w2731 k2729 hT2732 hF2733
   have s2734 := s2516.call k2729
   obtain ⟨F2, rfl⟩ := lit_of (F := F2730) [(1, vI (i : Int)), (2, Value.pointer (some a2494)), (5, Value.pointer (some ⟨b2508, 0, none⟩)), (82, undef), (21, Value.bool true), (24, undef)] ⟨hF2733 1 (by kernel_rfl), hF2733 2 (by kernel_rfl), hF2733 5 (by kernel_rfl), hF2733 82 (by kernel_rfl), hT2732 10 21 (by kernel_rfl) (by decide), hT2732 13 24 (by kernel_rfl) (by decide), trivial⟩
   clear hT2732 hF2733
   refine wl_u rfl (wl_k rfl (wl_s (o_pickT (Value.bool true) rfl rfl (wl_s (o_move (Value.bool true) rfl (wl_k rfl (wl_k rfl (wl_k rfl (wl_k rfl (wl_s (o_pickT (Value.bool true) rfl rfl (wl_s (o_move (Value.bool true) rfl (wl_k rfl (wl_k rfl (wl_k rfl (wl_k rfl (wl_s (o_pickT (Value.bool true) rfl rfl (wl_nil (thenQ_n (?_))))))))))))))))))))))
   refine cw_cond true rfl rfl (fun _ => ?_) (fun h => by cases h)
   refine cw_seq (?_)
   refine cw_region (by kernel_rfl) (wl_s (o_assign (Value.bool false) rfl (wl_nil (thenQ_n (?_)))))
   refine cw_ret (thenQ_r (end_r rfl (res1 rfl rfl rfl) (?_)))
   have e : (refRecM c i) = false := by first | (unfold refRecM; ((repeat (first | (refine (if_pos ?_).trans ?_; solve | omega | assumption | (simp only [dbs]; first | done | (repeat (first | omega | assumption | (right; first | omega | assumption | (constructor <;> first | omega | assumption)) | left))) | (rw [Bool.not_eq_true]; simp only [dbs]; first | done | omega | assumption | ((repeat' apply And.intro) <;> first | omega | assumption)) | (simp only [*, dbs]; done)) | (refine (if_neg ?_).trans ?_; solve | omega | assumption | (simp only [dbs]; first | done | (repeat (first | omega | assumption | (right; first | omega | assumption | (constructor <;> first | omega | assumption)) | left))) | (rw [Bool.not_eq_true]; simp only [dbs]; first | done | omega | assumption | ((repeat' apply And.intro) <;> first | omega | assumption)) | (simp only [*, dbs]; done)))); rfl)) | (unfold refRecM; simp only [*, dbs]; simp; done) | simp_all [refRecM]
   exact ⟨_, rfl, s2734.keep, by rw [e]; exact rfl⟩
 ·have hp2737 : (c.recs[i]!).no ≠ (i : Int) := by first | simpa using hb2524 | (have e := hb2524; simp at e; omega)
  refine cw_draw' 23 _ _ [isV (Value.pointer (some ⟨b2508, 0, none⟩)), isV (vI ((c.recs[i]!).no)), isV (vI (i : Int)), isV (Value.bool true), isV (Value.bool true), isV undef, isV undef, isV undef, isV undef, isV (Value.bool true), isV (Value.bool true), isV undef, isV undef, isV undef, isV undef, isV undef, isV undef, isV undef, isV undef, isV undef, isV undef, isV undef, isV undef] (by kernel_rfl) (by kernel_rfl) (by kernel_rfl) (by kernel_rfl) rfl rfl ⟨kI, kI, kI, kI, kI, kI, kI, kI, kI, kI, kI, kI, kI, kI, kI, kI, kI, kI, kI, kI, kI, kI, kI, trivial⟩ ⟨?_, ?_, ?_, ?_, ?_, ?_, ?_, ?_, ?_, ?_, ?_, ?_, ?_, ?_, ?_, ?_, ?_, ?_, ?_, ?_, ?_, ?_, ?_, trivial⟩ ?_
  ·intro F1 w1 k1 hf hd
   obtain ⟨F2, rfl⟩ := lit_of (F := F1) [(5, Value.pointer (some ⟨b2508, 0, none⟩))] ⟨hf 5 (by kernel_rfl), trivial⟩
   exact sp_plain rfl ((o_fieldL 0 f_47_0 rfl (⟨(Keep.refl _ _), rfl⟩)))
  ·intro F1 w1 k1 hf hd
   have k0 := (Keep.drew [] w2515).trans k1
   have bx2519 := bx2519.keep k0 (by simp)
   obtain ⟨F2, rfl⟩ := lit_of (F := F1) [(11, Value.pointer (some ⟨b2508, 0, none⟩))] ⟨hd 0 11 (by kernel_rfl), trivial⟩
   exact sp_plain rfl ((o_loadBx Try.underlying3 rfl (vI ((c.recs[i]!).no)) rfl bx2519 rfl (⟨(Keep.refl _ _), rfl⟩)))
  ·intro F1 w1 k1 hf hd
   obtain ⟨F2, rfl⟩ := lit_of (F := F1) [(1, vI (i : Int))] ⟨hf 1 (by kernel_rfl), trivial⟩
   exact sp_plain rfl ((o_move (vI (i : Int)) rfl (⟨(Keep.refl _ _), rfl⟩)))
  ·intro F1 w1 k1 hf hd
   obtain ⟨F2, rfl⟩ := lit_of (F := F1) [(12, vI ((c.recs[i]!).no)), (13, vI (i : Int))] ⟨hd 1 12 (by kernel_rfl), hd 2 13 (by kernel_rfl), trivial⟩
   refine sp_plain rfl ((o_neq .i64 ((c.recs[i]!).no) (i : Int) rfl rfl (?_)))
   exact ⟨(Keep.refl _ _), congrArg Value.bool (hb2524)⟩
  ·intro F1 w1 k1 hf hd
   obtain ⟨F2, rfl⟩ := lit_of (F := F1) [(14, Value.bool true)] ⟨hd 3 14 (by kernel_rfl), trivial⟩
   exact sp_plain rfl ((o_move (Value.bool true) rfl (⟨(Keep.refl _ _), rfl⟩)))
  ·intro F1 w1 k1 hf hd
   exact sp_skipD rfl rfl (hd 4 15 (by kernel_rfl)) rfl rfl
  ·intro F1 w1 k1 hf hd
   exact sp_skipD rfl rfl (hd 4 15 (by kernel_rfl)) rfl rfl
  ·intro F1 w1 k1 hf hd
   exact sp_skipD rfl rfl (hd 4 15 (by kernel_rfl)) rfl rfl
  ·intro F1 w1 k1 hf hd
   exact sp_skipD rfl rfl (hd 4 15 (by kernel_rfl)) rfl rfl
  ·intro F1 w1 k1 hf hd
   obtain ⟨F2, rfl⟩ := lit_of (F := F1) [(15, Value.bool true), (19, undef)] ⟨hd 4 15 (by kernel_rfl), hd 8 19 (by kernel_rfl), trivial⟩
   exact sp_plain rfl ((o_pickT (Value.bool true) rfl rfl (⟨(Keep.refl _ _), rfl⟩)))
  ·intro F1 w1 k1 hf hd
   obtain ⟨F2, rfl⟩ := lit_of (F := F1) [(20, Value.bool true)] ⟨hd 9 20 (by kernel_rfl), trivial⟩
   exact sp_plain rfl ((o_move (Value.bool true) rfl (⟨(Keep.refl _ _), rfl⟩)))
  ·intro F1 w1 k1 hf hd
   exact sp_skipD rfl rfl (hd 10 21 (by kernel_rfl)) rfl rfl
  ·intro F1 w1 k1 hf hd
   exact sp_skipD rfl rfl (hd 10 21 (by kernel_rfl)) rfl rfl
  ·intro F1 w1 k1 hf hd
   exact sp_skipD rfl rfl (hd 10 21 (by kernel_rfl)) rfl rfl
  ·intro F1 w1 k1 hf hd
   exact sp_undefD rfl rfl (hd 13 24 (by kernel_rfl)) rfl
  ·intro F1 w1 k1 hf hd
   exact sp_undefD rfl rfl (hd 13 24 (by kernel_rfl)) rfl
  ·intro F1 w1 k1 hf hd
   exact sp_undefD rfl rfl (hd 13 24 (by kernel_rfl)) rfl
  ·intro F1 w1 k1 hf hd
   exact sp_undefD rfl rfl (hd 13 24 (by kernel_rfl)) rfl
  ·intro F1 w1 k1 hf hd
   exact sp_undefD rfl rfl (hd 13 24 (by kernel_rfl)) rfl
  ·intro F1 w1 k1 hf hd
   exact sp_undefD rfl rfl (hd 13 24 (by kernel_rfl)) rfl
  ·intro F1 w1 k1 hf hd
   exact sp_undefD rfl rfl (hd 13 24 (by kernel_rfl)) rfl
  ·intro F1 w1 k1 hf hd
   exact sp_undefD rfl rfl (hd 13 24 (by kernel_rfl)) rfl
  ·intro F1 w1 k1 hf hd
   exact sp_undefD rfl rfl (hd 13 24 (by kernel_rfl)) rfl
  intro F2739 w2740 k2738 hT2741 hF2742
  have s2743 := s2516.call k2738
  obtain ⟨F2, rfl⟩ := lit_of (F := F2739) [(1, vI (i : Int)), (2, Value.pointer (some a2494)), (5, Value.pointer (some ⟨b2508, 0, none⟩)), (82, undef), (21, Value.bool true), (24, undef)] ⟨hF2742 1 (by kernel_rfl), hF2742 2 (by kernel_rfl), hF2742 5 (by kernel_rfl), hF2742 82 (by kernel_rfl), hT2741 10 21 (by kernel_rfl) (by decide), hT2741 13 24 (by kernel_rfl) (by decide), trivial⟩
  clear hT2741 hF2742
  refine wl_u rfl (wl_k rfl (wl_s (o_pickT (Value.bool true) rfl rfl (wl_s (o_move (Value.bool true) rfl (wl_k rfl (wl_k rfl (wl_k rfl (wl_k rfl (wl_s (o_pickT (Value.bool true) rfl rfl (wl_s (o_move (Value.bool true) rfl (wl_k rfl (wl_k rfl (wl_k rfl (wl_k rfl (wl_s (o_pickT (Value.bool true) rfl rfl (wl_nil (thenQ_n (?_))))))))))))))))))))))
  refine cw_cond true rfl rfl (fun _ => ?_) (fun h => by cases h)
  refine cw_seq (?_)
  refine cw_region (by kernel_rfl) (wl_s (o_assign (Value.bool false) rfl (wl_nil (thenQ_n (?_)))))
  refine cw_ret (thenQ_r (end_r rfl (res1 rfl rfl rfl) (?_)))
  have e : (refRecM c i) = false := by first | (unfold refRecM; ((repeat (first | (refine (if_pos ?_).trans ?_; solve | omega | assumption | (simp only [dbs]; first | done | (repeat (first | omega | assumption | (right; first | omega | assumption | (constructor <;> first | omega | assumption)) | left))) | (rw [Bool.not_eq_true]; simp only [dbs]; first | done | omega | assumption | ((repeat' apply And.intro) <;> first | omega | assumption)) | (simp only [*, dbs]; done)) | (refine (if_neg ?_).trans ?_; solve | omega | assumption | (simp only [dbs]; first | done | (repeat (first | omega | assumption | (right; first | omega | assumption | (constructor <;> first | omega | assumption)) | left))) | (rw [Bool.not_eq_true]; simp only [dbs]; first | done | omega | assumption | ((repeat' apply And.intro) <;> first | omega | assumption)) | (simp only [*, dbs]; done)))); rfl)) | (unfold refRecM; simp only [*, dbs]; simp; done) | simp_all [refRecM]
  exact ⟨_, rfl, s2743.keep, by rw [e]; exact rfl⟩
set_option maxHeartbeats 4000000 in
set_option maxRecDepth 100000 in
theorem c_refCheck {O : List Nat} (c_cs : List Value) (c : Circle) (w : World) (h_c : Enc.circle.rd w O c_cs c) (hO : ∀ b ∈ O, b < w.heap.size) : CallsK Try.prog 17 [.agg c_cs.toArray] w (fun v _ => v = vI (gCheck c)) :=  by
 have h_c : Enc.circle.rd w ([] ++ O) c_cs c := h_c
 have s0 : St w O w [] := St.start hO
 refine callsK_of 53 Try.func17 rfl rfl (of_decide_eq_true rfl) (fun F0 => ?_)
 refine cw_seq (?_)
 refine cw_region (by kernel_rfl) (wl_s (o_boxR (E := Enc.circle) (Value.agg c_cs.toArray) (c_cs) c rfl rfl h_c s0 fun a2746 w2747 s2748 m2749 k2750 hp2751 => (?_)))
 refine wl_s (o_assign (vI (0 : Int)) rfl (wl_nil (thenQ_n (?_))))
 refine cw_seq (?_)
 refine cw_seq (?_)
 refine cw_region (by kernel_rfl) (wl_s (o_fieldR 0 f_25_0 (c.epoch) rfl hp2751 (fun _ _ _ h => Enc_circle_f0 h) fun a2752 hp2753 => (wl_s (o_loadI Try.underlying3 rfl rfl hp2753 (wl_s (o_callK (vs := [vI c.epoch, vI (0 : Int), vI (1048576 : Int)]) enter_32 (c_in (O := [] ++ O) c.epoch (0 : Int) (1048576 : Int) w2747 s2748.lt) rfl s2748 fun v2754 w2755 s2756 m2757 k2758 r2759 => (?_)))))))
 obtain rfl := r2759
 have hp2751 := hp2751.mv m2757
 refine wl_s (o_not (inM c.epoch (0 : Int) (1048576 : Int)) rfl (wl_s (o_move (Value.bool (!(inM c.epoch (0 : Int) (1048576 : Int)))) rfl (?_))))
 cases hb2760 : (!(inM c.epoch (0 : Int) (1048576 : Int)))
 ·have hp2761 : (inM c.epoch (0 : Int) (1048576 : Int)) = true := by first | simpa using hb2760 | (have e := hb2760; simp at e; omega)
  refine wl_t rfl (o_fieldR 3 f_25_3 (c.guardians) rfl hp2751 (fun _ _ _ h => Enc_circle_f3 h) fun a2762 hp2763 => (wl_t rfl (o_loadL Try.underlying22 rfl rfl hp2763 fun v2764 hl2765 => (?_))))
  have := hl2765.len_le
  refine wl_t rfl (o_lenR Try.underlying22 rfl hl2765 (wl_t rfl (o_callK (vs := [vI (c.guardians.length : Int), vI (1 : Int), vI (8 : Int)]) enter_32 (c_in (O := [] ++ O) (c.guardians.length : Int) (1 : Int) (8 : Int) w2755 s2756.lt) rfl s2756 fun v2766 w2767 s2768 m2769 k2770 r2771 => (?_))))
  obtain rfl := r2771
  have hp2751 := hp2751.mv m2769
  refine wl_t rfl (o_not (inM (c.guardians.length : Int) (1 : Int) (8 : Int)) rfl (wl_s (o_pickF (Value.bool (!(inM (c.guardians.length : Int) (1 : Int) (8 : Int)))) rfl rfl (wl_s (o_move (Value.bool (!(inM (c.guardians.length : Int) (1 : Int) (8 : Int)))) rfl (?_))))))
  cases hb2772 : (!(inM (c.guardians.length : Int) (1 : Int) (8 : Int)))
  ·have hp2773 : (inM (c.guardians.length : Int) (1 : Int) (8 : Int)) = true := by first | simpa using hb2772 | (have e := hb2772; simp at e; omega)
   refine wl_t rfl (o_fieldR 3 f_25_3 (c.guardians) rfl hp2751 (fun _ _ _ h => Enc_circle_f3 h) fun a2774 hp2775 => (wl_t rfl (o_loadL Try.underlying22 rfl rfl hp2775 fun v2776 hl2777 => (?_))))
   have := hl2777.len_le
   refine wl_t rfl (o_callK (vs := [v2776]) enter_35 (c_rising (O := [] ++ O) v2776 c.guardians w2767 hl2777 s2768.lt) rfl s2768 fun v2778 w2779 s2780 m2781 k2782 r2783 => (?_))
   obtain rfl := r2783
   have hp2751 := hp2751.mv m2781
   refine wl_t rfl (o_not (incM c.guardians) rfl (wl_s (o_pickF (Value.bool (!(incM c.guardians))) rfl rfl (wl_s (o_move (Value.bool (!(incM c.guardians))) rfl (?_))))))
   cases hb2784 : (!(incM c.guardians))
   ·have hp2785 : (incM c.guardians) = true := by first | simpa using hb2784 | (have e := hb2784; simp at e; omega)
    refine wl_t rfl (o_fieldR 1 f_25_1 (c.threshold) rfl hp2751 (fun _ _ _ h => Enc_circle_f1 h) fun a2786 hp2787 => (wl_t rfl (o_loadI Try.underlying3 rfl rfl hp2787 (wl_t rfl (o_fieldR 3 f_25_3 (c.guardians) rfl hp2751 (fun _ _ _ h => Enc_circle_f3 h) fun a2788 hp2789 => (wl_t rfl (o_loadL Try.underlying22 rfl rfl hp2789 fun v2790 hl2791 => (?_))))))))
    have := hl2791.len_le
    refine wl_t rfl (o_lenR Try.underlying22 rfl hl2791 (wl_t rfl (o_callK (vs := [vI c.threshold, vI (1 : Int), vI (c.guardians.length : Int)]) enter_32 (c_in (O := [] ++ O) c.threshold (1 : Int) (c.guardians.length : Int) w2779 s2780.lt) rfl s2780 fun v2792 w2793 s2794 m2795 k2796 r2797 => (?_))))
    obtain rfl := r2797
    have hp2751 := hp2751.mv m2795
    refine wl_t rfl (o_not (inM c.threshold (1 : Int) (c.guardians.length : Int)) rfl (wl_s (o_pickF (Value.bool (!(inM c.threshold (1 : Int) (c.guardians.length : Int)))) rfl rfl (wl_s (o_move (Value.bool (!(inM c.threshold (1 : Int) (c.guardians.length : Int)))) rfl (?_))))))
    cases hb2798 : (!(inM c.threshold (1 : Int) (c.guardians.length : Int)))
    ·have hp2799 : (inM c.threshold (1 : Int) (c.guardians.length : Int)) = true := by first | simpa using hb2798 | (have e := hb2798; simp at e; omega)
     refine wl_t rfl (o_fieldR 2 f_25_2 (c.wait) rfl hp2751 (fun _ _ _ h => Enc_circle_f2 h) fun a2800 hp2801 => (wl_t rfl (o_loadI Try.underlying3 rfl rfl hp2801 (wl_t rfl (o_callK (vs := [vI c.wait, vI (0 : Int), vI (1023 : Int)]) enter_32 (c_in (O := [] ++ O) c.wait (0 : Int) (1023 : Int) w2793 s2794.lt) rfl s2794 fun v2802 w2803 s2804 m2805 k2806 r2807 => (?_))))))
     obtain rfl := r2807
     have hp2751 := hp2751.mv m2805
     refine wl_t rfl (o_not (inM c.wait (0 : Int) (1023 : Int)) rfl (wl_s (o_pickF (Value.bool (!(inM c.wait (0 : Int) (1023 : Int)))) rfl rfl (wl_s (o_move (Value.bool (!(inM c.wait (0 : Int) (1023 : Int)))) rfl (?_))))))
     cases hb2808 : (!(inM c.wait (0 : Int) (1023 : Int)))
     ·have hp2809 : (inM c.wait (0 : Int) (1023 : Int)) = true := by first | simpa using hb2808 | (have e := hb2808; simp at e; omega)
      refine wl_t rfl (o_fieldR 4 f_25_4 (c.recs) rfl hp2751 (fun _ _ _ h => Enc_circle_f4 h) fun a2810 hp2811 => (wl_t rfl (o_loadL Try.underlying23 rfl rfl hp2811 fun v2812 hl2813 => (?_))))
      have := hl2813.len_le
      refine wl_t rfl (o_lenR Try.underlying23 rfl hl2813 (wl_t rfl (o_gtr .i64 (c.recs.length : Int) (1024 : Int) rfl rfl (wl_s (o_pickF (Value.bool (decide ((1024 : Int) < (c.recs.length : Int)))) rfl rfl (wl_nil (thenQ_n (?_))))))))
      refine cw_cond (decide ((1024 : Int) < (c.recs.length : Int))) rfl rfl (fun hc2814 => ?_) (fun hc2814 => ?_)
      ·have hp2815 : (1024 : Int) < (c.recs.length : Int) := by first | simpa using hc2814 | (have e := hc2814; simp at e; omega)
       refine cw_seq (?_)
       refine cw_region (by kernel_rfl) (wl_s (o_assign (vI (450 : Int)) rfl (wl_nil (thenQ_n (?_)))))
       refine cw_ret (thenQ_r (end_r rfl (res1 rfl rfl rfl) (?_)))
       have e : (gCheck c) = (450 : Int) := by first | exact gc_1 (by assumption) | exact gc_2 (by assumption) | exact gc_3 (by assumption) | exact gc_4 (by assumption) | exact gc_5 (by assumption) | exact gc_6 (by assumption) | exact gc_rec (k := k) (by omega) hr0_1 (by assumption) | exact gc_ok hhead (fun q hq => hr0_1 q (by omega))
       exact ⟨_, rfl, s2804.keep, by rw [e]; exact rfl⟩
      ·have hp2816 : (c.recs.length : Int) ≤ (1024 : Int) := by first | simpa using hc2814 | (have e := hc2814; simp at e; omega)
       refine cw_skip (thenQ_n (?_))
       refine cw_seq (?_)
       refine cw_seq (?_)
       refine cw_region (by kernel_rfl) (wl_s (o_assign (vI (0 : Int)) rfl (wl_nil (thenQ_n (?_)))))
       refine cw_block (?_)
       have hhead : headBad c = false := head_ok (by assumption) (by assumption) (by assumption) (by assumption) (by assumption) (by assumption)
       refine cw_loop (fun mI FI wI => ∃ (k : Nat) (B : List Nat), k ≤ c.recs.length ∧ (∀ q, q < k → recBad c.recs q = false) ∧ mI = c.recs.length - k ∧ (∃ F1, FI = upds F1 [(1, Value.pointer (some a2746)), (3, vI ((k : Nat) : Int)), (53, undef)]) ∧ St w O wI B ∧ PT Enc.circle wI (B ++ O) (.pointer (some a2746)) (c)) (c.recs.length - (0)) ?_ ?_
       ·exact ⟨(0), [], (by first | omega | (simp; done) | (simp; omega) | simp_all), (fun q hq => by omega), rfl, ⟨_, upds_self _ ⟨rfl, (by first | rfl | exact congrArg (Value.int _) (by first | omega | (simp))), rfl, trivial⟩⟩, s2804, hp2751⟩
       ·intro ml0 F wl0 hI
        clear hp2751
        obtain ⟨k, Bl0, hr0_0, hr0_1, hm0, ⟨Fl0, rfl⟩, sl0, hp2751⟩ := hI
        refine cw_seq (?_)
        refine cw_seq (?_)
        refine cw_region (by kernel_rfl) (wl_s (o_move (vI ((k : Nat) : Int)) rfl (wl_s (o_fieldR 4 f_25_4 (c.recs) rfl hp2751 (fun _ _ _ h => Enc_circle_f4 h) fun a2817 hp2818 => (wl_s (o_loadL Try.underlying23 rfl rfl hp2818 fun v2819 hl2820 => (?_)))))))
        have := hl2820.len_le
        refine wl_s (o_lenR Try.underlying23 rfl hl2820 (wl_s (o_lss .i64 ((k : Nat) : Int) (c.recs.length : Int) rfl rfl (wl_nil (thenQ_n (?_))))))
        refine cw_cond (decide (((k : Nat) : Int) < (c.recs.length : Int))) rfl rfl (fun hc2821 => ?_) (fun hc2821 => ?_)
        ·have hp2822 : ((k : Nat) : Int) < (c.recs.length : Int) := by first | simpa using hc2821 | (have e := hc2821; simp at e; omega)
         refine cw_skip (thenQ_n (?_))
         refine cw_seq (?_)
         refine cw_block (?_)
         refine cw_seq (?_)
         refine cw_region (by kernel_rfl) (wl_s (o_loadS Try.underlying25 rfl s_25 rfl hp2751 fun cs2823 hs2824 => (wl_s (o_move (vI ((k : Nat) : Int)) rfl (wl_s (o_callK (vs := [Value.agg cs2823.toArray, vI ((k : Nat) : Int)]) enter_36 (c_refRec (O := Bl0 ++ O) cs2823 c k wl0 hs2824 (by first | omega | assumption | (simp; done)) sl0.lt) rfl sl0 fun v2825 w2826 s2827 m2828 k2829 r2830 => (?_)))))))
         obtain rfl := r2830
         have hp2751 := hp2751.mv m2828
         refine wl_s (o_not (refRecM c k) rfl (wl_nil (thenQ_n (?_))))
         refine cw_cond (!(refRecM c k)) rfl rfl (fun hc2831 => ?_) (fun hc2831 => ?_)
         ·have hp2832 : (refRecM c k) = false := by first | simpa using hc2831 | (have e := hc2831; simp at e; omega)
          refine cw_seq (?_)
          refine cw_region (by kernel_rfl) (wl_s (o_assign (vI (450 : Int)) rfl (wl_nil (thenQ_n (?_)))))
          refine cw_ret (blockQ_r (thenQ_r (thenQ_r (blockQ_r (thenQ_r (end_r rfl (res1 rfl rfl rfl) (?_)))))))
          have e : (gCheck c) = (450 : Int) := by first | exact gc_1 (by assumption) | exact gc_2 (by assumption) | exact gc_3 (by assumption) | exact gc_4 (by assumption) | exact gc_5 (by assumption) | exact gc_6 (by assumption) | exact gc_rec (k := k) (by omega) hr0_1 (by assumption) | exact gc_ok hhead (fun q hq => hr0_1 q (by omega))
          exact ⟨_, rfl, s2827.keep, by rw [e]; exact rfl⟩
         ·have hp2833 : (refRecM c k) = true := by first | simpa using hc2831 | (have e := hc2831; simp at e; omega)
          refine cw_skip (blockQ_n (thenQ_n (?_)))
          refine cw_region (by kernel_rfl) (wl_s (o_move (vI ((k : Nat) : Int)) rfl (wl_s (o_add .i64 ((k : Nat) : Int) (1 : Int) (((k + 1 : Nat) : Int)) rfl rfl (w64 (by omega) (by omega)) (wl_s (o_assign (vI ((k + 1 : Nat) : Int)) rfl (wl_nil (thenQ_n (?_)))))))))
          exact ⟨_, (by omega), (k + 1), Bl0, (by first | omega | (simp; done) | (simp; omega) | simp_all), (rec_step (by omega) hr0_1 (by assumption)), rfl, ⟨_, upds_self _ ⟨rfl, (by first | rfl | exact congrArg (Value.int _) (by first | omega | (simp))), rfl, trivial⟩⟩, s2827, hp2751⟩
        ·have hp2834 : (c.recs.length : Int) ≤ ((k : Nat) : Int) := by first | simpa using hc2821 | (have e := hc2821; simp at e; omega)
         refine cw_exit (thenQ_x (thenQ_x (blockQ_x (thenQ_n (?_)))))
         refine cw_seq (?_)
         refine cw_region (by kernel_rfl) (wl_s (o_assign (vI (0 : Int)) rfl (wl_nil (thenQ_n (?_)))))
         refine cw_ret (end_r rfl (res1 rfl rfl rfl) (?_))
         have e : (gCheck c) = (0 : Int) := by first | exact gc_1 (by assumption) | exact gc_2 (by assumption) | exact gc_3 (by assumption) | exact gc_4 (by assumption) | exact gc_5 (by assumption) | exact gc_6 (by assumption) | exact gc_rec (k := k) (by omega) hr0_1 (by assumption) | exact gc_ok hhead (fun q hq => hr0_1 q (by omega))
         exact ⟨_, rfl, sl0.keep, by rw [e]; exact rfl⟩
     ·have hp2835 : (inM c.wait (0 : Int) (1023 : Int)) = false := by first | simpa using hb2808 | (have e := hb2808; simp at e; omega)
      refine wl_k rfl (wl_k rfl (wl_k rfl (wl_k rfl (wl_s (o_pickT (Value.bool true) rfl rfl (wl_nil (thenQ_n (?_))))))))
      refine cw_cond true rfl rfl (fun _ => ?_) (fun h => by cases h)
      refine cw_seq (?_)
      refine cw_region (by kernel_rfl) (wl_s (o_assign (vI (450 : Int)) rfl (wl_nil (thenQ_n (?_)))))
      refine cw_ret (thenQ_r (end_r rfl (res1 rfl rfl rfl) (?_)))
      have e : (gCheck c) = (450 : Int) := by first | exact gc_1 (by assumption) | exact gc_2 (by assumption) | exact gc_3 (by assumption) | exact gc_4 (by assumption) | exact gc_5 (by assumption) | exact gc_6 (by assumption) | exact gc_rec (k := k) (by omega) hr0_1 (by assumption) | exact gc_ok hhead (fun q hq => hr0_1 q (by omega))
      exact ⟨_, rfl, s2804.keep, by rw [e]; exact rfl⟩
    ·have hp2836 : (inM c.threshold (1 : Int) (c.guardians.length : Int)) = false := by first | simpa using hb2798 | (have e := hb2798; simp at e; omega)
     refine wl_k rfl (wl_k rfl (wl_k rfl (wl_k rfl (wl_s (o_pickT (Value.bool true) rfl rfl (wl_s (o_move (Value.bool true) rfl (wl_k rfl (wl_k rfl (wl_k rfl (wl_k rfl (wl_s (o_pickT (Value.bool true) rfl rfl (wl_nil (thenQ_n (?_))))))))))))))))
     refine cw_cond true rfl rfl (fun _ => ?_) (fun h => by cases h)
     refine cw_seq (?_)
     refine cw_region (by kernel_rfl) (wl_s (o_assign (vI (450 : Int)) rfl (wl_nil (thenQ_n (?_)))))
     refine cw_ret (thenQ_r (end_r rfl (res1 rfl rfl rfl) (?_)))
     have e : (gCheck c) = (450 : Int) := by first | exact gc_1 (by assumption) | exact gc_2 (by assumption) | exact gc_3 (by assumption) | exact gc_4 (by assumption) | exact gc_5 (by assumption) | exact gc_6 (by assumption) | exact gc_rec (k := k) (by omega) hr0_1 (by assumption) | exact gc_ok hhead (fun q hq => hr0_1 q (by omega))
     exact ⟨_, rfl, s2794.keep, by rw [e]; exact rfl⟩
   ·have hp2837 : (incM c.guardians) = false := by first | simpa using hb2784 | (have e := hb2784; simp at e; omega)
    refine wl_k rfl (wl_k rfl (wl_k rfl (wl_k rfl (wl_k rfl (wl_k rfl (wl_k rfl (wl_s (o_pickT (Value.bool true) rfl rfl (wl_s (o_move (Value.bool true) rfl (wl_k rfl (wl_k rfl (wl_k rfl (wl_k rfl (wl_s (o_pickT (Value.bool true) rfl rfl (wl_s (o_move (Value.bool true) rfl (wl_k rfl (wl_k rfl (wl_k rfl (wl_k rfl (wl_s (o_pickT (Value.bool true) rfl rfl (wl_nil (thenQ_n (?_)))))))))))))))))))))))))))
    refine cw_cond true rfl rfl (fun _ => ?_) (fun h => by cases h)
    refine cw_seq (?_)
    refine cw_region (by kernel_rfl) (wl_s (o_assign (vI (450 : Int)) rfl (wl_nil (thenQ_n (?_)))))
    refine cw_ret (thenQ_r (end_r rfl (res1 rfl rfl rfl) (?_)))
    have e : (gCheck c) = (450 : Int) := by first | exact gc_1 (by assumption) | exact gc_2 (by assumption) | exact gc_3 (by assumption) | exact gc_4 (by assumption) | exact gc_5 (by assumption) | exact gc_6 (by assumption) | exact gc_rec (k := k) (by omega) hr0_1 (by assumption) | exact gc_ok hhead (fun q hq => hr0_1 q (by omega))
    exact ⟨_, rfl, s2780.keep, by rw [e]; exact rfl⟩
  ·have hp2838 : (inM (c.guardians.length : Int) (1 : Int) (8 : Int)) = false := by first | simpa using hb2772 | (have e := hb2772; simp at e; omega)
   refine wl_k rfl (wl_k rfl (wl_k rfl (wl_k rfl (wl_s (o_pickT (Value.bool true) rfl rfl (wl_s (o_move (Value.bool true) rfl (wl_k rfl (wl_k rfl (wl_k rfl (wl_k rfl (wl_k rfl (wl_k rfl (wl_k rfl (wl_s (o_pickT (Value.bool true) rfl rfl (wl_s (o_move (Value.bool true) rfl (wl_k rfl (wl_k rfl (wl_k rfl (wl_k rfl (wl_s (o_pickT (Value.bool true) rfl rfl (wl_s (o_move (Value.bool true) rfl (wl_k rfl (wl_k rfl (wl_k rfl (wl_k rfl (wl_s (o_pickT (Value.bool true) rfl rfl (wl_nil (thenQ_n (?_)))))))))))))))))))))))))))))))))))
   refine cw_cond true rfl rfl (fun _ => ?_) (fun h => by cases h)
   refine cw_seq (?_)
   refine cw_region (by kernel_rfl) (wl_s (o_assign (vI (450 : Int)) rfl (wl_nil (thenQ_n (?_)))))
   refine cw_ret (thenQ_r (end_r rfl (res1 rfl rfl rfl) (?_)))
   have e : (gCheck c) = (450 : Int) := by first | exact gc_1 (by assumption) | exact gc_2 (by assumption) | exact gc_3 (by assumption) | exact gc_4 (by assumption) | exact gc_5 (by assumption) | exact gc_6 (by assumption) | exact gc_rec (k := k) (by omega) hr0_1 (by assumption) | exact gc_ok hhead (fun q hq => hr0_1 q (by omega))
   exact ⟨_, rfl, s2768.keep, by rw [e]; exact rfl⟩
 ·have hp2839 : (inM c.epoch (0 : Int) (1048576 : Int)) = false := by first | simpa using hb2760 | (have e := hb2760; simp at e; omega)
  refine wl_k rfl (wl_k rfl (wl_k rfl (wl_k rfl (wl_k rfl (wl_s (o_pickT (Value.bool true) rfl rfl (wl_s (o_move (Value.bool true) rfl (wl_k rfl (wl_k rfl (wl_k rfl (wl_k rfl (wl_s (o_pickT (Value.bool true) rfl rfl (wl_s (o_move (Value.bool true) rfl (wl_k rfl (wl_k rfl (wl_k rfl (wl_k rfl (wl_k rfl (wl_k rfl (wl_k rfl (wl_s (o_pickT (Value.bool true) rfl rfl (wl_s (o_move (Value.bool true) rfl (wl_k rfl (wl_k rfl (wl_k rfl (wl_k rfl (wl_s (o_pickT (Value.bool true) rfl rfl (wl_s (o_move (Value.bool true) rfl (wl_k rfl (wl_k rfl (wl_k rfl (wl_k rfl (wl_s (o_pickT (Value.bool true) rfl rfl (wl_nil (thenQ_n (?_))))))))))))))))))))))))))))))))))))))))))))
  refine cw_cond true rfl rfl (fun _ => ?_) (fun h => by cases h)
  refine cw_seq (?_)
  refine cw_region (by kernel_rfl) (wl_s (o_assign (vI (450 : Int)) rfl (wl_nil (thenQ_n (?_)))))
  refine cw_ret (thenQ_r (end_r rfl (res1 rfl rfl rfl) (?_)))
  have e : (gCheck c) = (450 : Int) := by first | exact gc_1 (by assumption) | exact gc_2 (by assumption) | exact gc_3 (by assumption) | exact gc_4 (by assumption) | exact gc_5 (by assumption) | exact gc_6 (by assumption) | exact gc_rec (k := k) (by omega) hr0_1 (by assumption) | exact gc_ok hhead (fun q hq => hr0_1 q (by omega))
  exact ⟨_, rfl, s2756.keep, by rw [e]; exact rfl⟩

end Go.Proofs.Ytpdekmknnpkmgaa
