/- Walks, printed by gen.py. -/
import Derived.Test.YteajcgfcnbdmgaaWaB
set_option linter.unusedSimpArgs false
set_option linter.unusedVariables false
namespace Go.Proofs.Yteajcgfcnbdmgaa
open Go.Fw Go.RowKit

set_option maxHeartbeats 4000000 in
set_option maxRecDepth 100000 in
theorem c_refThrough {O : List Nat} (xs_v : Value) (xs : List UInt8) (ys_v : Value) (ys : List UInt8) (at_ : UInt8) (w : World) (h_xs : RdL Enc.u8 w O xs_v xs) (h_ys : RdL Enc.u8 w O ys_v ys) (hO : ∀ b ∈ O, b < w.heap.size) : CallsK Try.prog 23 [xs_v, ys_v, vB at_] w (fun v _ => v = .tuple #[vB ((refThrough xs ys at_).1), vI ((refThrough xs ys at_).2)]) :=  by
 have lim_xs := h_xs.len_le
 have h_xs : RdL Enc.u8 w ([] ++ O) xs_v xs := h_xs
 have lim_ys := h_ys.len_le
 have h_ys : RdL Enc.u8 w ([] ++ O) ys_v ys := h_ys
 have s0 : St w O w [] := St.start hO
 refine callsK_of 57 Try.func23 rfl rfl (of_decide_eq_true rfl) (fun F0 => ?_)
 refine cw_seq (?_)
 refine cw_region (by kernel_rfl) (wl_s (o_assign (vB (0 : UInt8)) rfl (wl_s (o_assign (vI (0 : Int)) rfl (wl_nil (thenQ_n (?_)))))))
 refine cw_seq (?_)
 refine cw_seq (?_)
 refine cw_region (by kernel_rfl) (wl_s (o_move (xs_v) rfl (wl_s (o_move (ys_v) rfl (wl_s (o_callK (vs := [xs_v, ys_v]) enter_43 (c_refPoints (O := [] ++ O) xs_v xs ys_v ys w h_xs h_ys s0.lt) rfl s0 fun v227 w228 s229 m230 k231 r232 => (?_)))))))
 obtain rfl := r232
 have h_xs := h_xs.mv m230
 have h_ys := h_ys.mv m230
 refine wl_s (o_not (refPoints xs ys) rfl (wl_nil (thenQ_n (?_))))
 refine cw_cond (!(refPoints xs ys)) rfl rfl (fun hc233 => ?_) (fun hc233 => ?_)
 ·have hp234 : (refPoints xs ys) = false := by first | simpa using hc233 | (have e := hc233; simp at e; omega)
  refine cw_seq (?_)
  refine cw_region (by kernel_rfl) (wl_s (o_assign (vB (0 : UInt8)) rfl (wl_s (o_assign (vI (1 : Int)) rfl (wl_nil (thenQ_n (?_)))))))
  refine cw_ret (thenQ_r (end_r rfl (res2 rfl rfl rfl rfl) (?_)))
  have e : (refThrough xs ys at_) = ((0 : UInt8), (1 : Int)) := by simp [refThrough, *]
  exact ⟨_, rfl, s229.keep, by rw [e]; exact rfl⟩
 ·have hp235 : (refPoints xs ys) = true := by first | simpa using hc233 | (have e := hc233; simp at e; omega)
  have hxy := refPoints_len (by simpa using hc233)
  refine cw_skip (thenQ_n (?_))
  refine cw_seq (?_)
  refine cw_region (by kernel_rfl) (wl_s (o_assign (vB (0 : UInt8)) rfl (wl_nil (thenQ_n (?_)))))
  refine cw_seq (?_)
  refine cw_seq (?_)
  refine cw_region (by kernel_rfl) (wl_s (o_assign (vI (0 : Int)) rfl (wl_nil (thenQ_n (?_)))))
  refine cw_block (?_)
  refine cw_loop (fun mI FI wI => ∃ (i : Nat) (B : List Nat), i ≤ xs.length ∧ mI = xs.length - i ∧ (∃ F1, FI = upds F1 [(0, xs_v), (1, ys_v), (2, vB at_), (8, vB (refThY xs ys at_ i)), (9, vI ((i : Nat) : Int)), (57, undef)]) ∧ St w O wI B ∧ RdL Enc.u8 wI (B ++ O) (xs_v) (xs) ∧ RdL Enc.u8 wI (B ++ O) (ys_v) (ys)) (xs.length - (0)) ?_ ?_
  ·exact ⟨(0), [], (by first | omega | (simp; done) | (simp; omega) | simp_all), rfl, ⟨_, upds_self _ ⟨rfl, rfl, rfl, (congrArg vB (by first | rfl | (rfl))), (by first | rfl | exact congrArg (Value.int _) (by first | omega | (simp))), rfl, trivial⟩⟩, s229, h_xs, h_ys⟩
  ·intro ml0 F wl0 hI
   clear h_xs h_ys
   obtain ⟨i, Bl0, hr0_0, hm0, ⟨Fl0, rfl⟩, sl0, h_xs, h_ys⟩ := hI
   refine cw_seq (?_)
   refine cw_seq (?_)
   refine cw_region (by kernel_rfl) (wl_s (o_move (vI ((i : Nat) : Int)) rfl (wl_s (o_move (xs_v) rfl (wl_s (o_lenR Try.underlying28 rfl h_xs (wl_s (o_lss .i64 ((i : Nat) : Int) (xs.length : Int) rfl rfl (wl_nil (thenQ_n (?_)))))))))))
   refine cw_cond (decide (((i : Nat) : Int) < (xs.length : Int))) rfl rfl (fun hc236 => ?_) (fun hc236 => ?_)
   ·have hp237 : ((i : Nat) : Int) < (xs.length : Int) := by first | simpa using hc236 | (have e := hc236; simp at e; omega)
    refine cw_skip (thenQ_n (?_))
    refine cw_seq (?_)
    refine cw_block (?_)
    refine cw_seq (?_)
    refine cw_region (by kernel_rfl) (wl_s (o_move (ys_v) rfl (wl_s (o_move (vI ((i : Nat) : Int)) rfl (wl_s (o_idx Try.underlying28 s_5 .i64 ((i : Nat) : Int) i rfl rfl rfl h_ys (by omega) fun a238 hp239 => (wl_s (o_loadB Try.underlying5 rfl rfl hp239 (wl_s (o_assign (vB (ys[i]!)) rfl (wl_nil (thenQ_n (?_)))))))))))))
    refine cw_seq (?_)
    refine cw_seq (?_)
    refine cw_region (by kernel_rfl) (wl_s (o_assign (vI (0 : Int)) rfl (wl_nil (thenQ_n (?_)))))
    refine cw_block (?_)
    refine cw_loop (fun mI FI wI => ∃ (k : Nat) (B : List Nat), k ≤ xs.length ∧ mI = xs.length - k ∧ (∃ F1, FI = upds F1 [(0, xs_v), (1, ys_v), (2, vB at_), (8, vB (refThY xs ys at_ i)), (9, vI ((i : Nat) : Int)), (10, vB (refThN xs at_ i ys[i]! k)), (11, vI ((k : Nat) : Int)), (57, undef)]) ∧ St w O wI B ∧ RdL Enc.u8 wI (B ++ O) (xs_v) (xs) ∧ RdL Enc.u8 wI (B ++ O) (ys_v) (ys)) (xs.length - (0)) ?_ ?_
    ·exact ⟨(0), Bl0, (by first | omega | (simp; done) | (simp; omega) | simp_all), rfl, ⟨_, upds_self _ ⟨rfl, rfl, rfl, rfl, rfl, (congrArg vB (by first | rfl | (rfl))), (by first | rfl | exact congrArg (Value.int _) (by first | omega | (simp))), rfl, trivial⟩⟩, sl0, h_xs, h_ys⟩
    ·intro ml1 F wl1 hI
     clear h_xs h_ys
     obtain ⟨k, Bl1, hr1_0, hm1, ⟨Fl1, rfl⟩, sl1, h_xs, h_ys⟩ := hI
     refine cw_seq (?_)
     refine cw_seq (?_)
     refine cw_region (by kernel_rfl) (wl_s (o_move (vI ((k : Nat) : Int)) rfl (wl_s (o_move (xs_v) rfl (wl_s (o_lenR Try.underlying28 rfl h_xs (wl_s (o_lss .i64 ((k : Nat) : Int) (xs.length : Int) rfl rfl (wl_nil (thenQ_n (?_)))))))))))
     refine cw_cond (decide (((k : Nat) : Int) < (xs.length : Int))) rfl rfl (fun hc240 => ?_) (fun hc240 => ?_)
     ·have hp241 : ((k : Nat) : Int) < (xs.length : Int) := by first | simpa using hc240 | (have e := hc240; simp at e; omega)
      refine cw_skip (thenQ_n (?_))
      refine cw_seq (?_)
      refine cw_block (?_)
      refine cw_seq (?_)
      refine cw_region (by kernel_rfl) (wl_s (o_move (vI ((k : Nat) : Int)) rfl (wl_s (o_move (vI ((i : Nat) : Int)) rfl (wl_s (o_neq .i64 ((k : Nat) : Int) ((i : Nat) : Int) rfl rfl (wl_nil (thenQ_n (?_)))))))))
      refine cw_cond (((k : Nat) : Int) != ((i : Nat) : Int)) rfl rfl (fun hc242 => ?_) (fun hc242 => ?_)
      ·have hp243 : ((k : Nat) : Int) ≠ ((i : Nat) : Int) := by first | simpa using hc242 | (have e := hc242; simp at e; omega)
       refine cw_draw' 17 _ _ [isV (vB (refThN xs at_ i ys[i]! k)), isV (vB at_), fun (vT : Value) (wT : World) => RdL Enc.u8 wT (Bl1 ++ O) vT (xs), isV (vI ((k : Nat) : Int)), fun (vT : Value) (wT : World) => ∃ aT, vT = .pointer (some aT) ∧ PT Enc.u8 wT (Bl1 ++ O) (.pointer (some aT)) (xs[k]!), isV (vB (xs[k]!)), isV (vB (at_ ^^^ (xs[k]!))), fun (vT : Value) (wT : World) => RdL Enc.u8 wT (Bl1 ++ O) vT (xs), isV (vI ((i : Nat) : Int)), fun (vT : Value) (wT : World) => ∃ aT, vT = .pointer (some aT) ∧ PT Enc.u8 wT (Bl1 ++ O) (.pointer (some aT)) (xs[i]!), isV (vB (xs[i]!)), fun (vT : Value) (wT : World) => RdL Enc.u8 wT (Bl1 ++ O) vT (xs), isV (vI ((k : Nat) : Int)), fun (vT : Value) (wT : World) => ∃ aT, vT = .pointer (some aT) ∧ PT Enc.u8 wT (Bl1 ++ O) (.pointer (some aT)) (xs[k]!), isV (vB (xs[k]!)), isV (vB ((xs[i]!) ^^^ (xs[k]!))), isV (vB (refOver (at_ ^^^ (xs[k]!)) ((xs[i]!) ^^^ (xs[k]!))))] (by kernel_rfl) (by kernel_rfl) (by kernel_rfl) (by kernel_rfl) rfl rfl ⟨kI, kI, fun _ _ _ h k => h.mv (Mv.of_keep k), kI, fun _ _ _ ⟨a, e, h⟩ k => ⟨a, e, h.mv (Mv.of_keep k)⟩, kI, kI, fun _ _ _ h k => h.mv (Mv.of_keep k), kI, fun _ _ _ ⟨a, e, h⟩ k => ⟨a, e, h.mv (Mv.of_keep k)⟩, kI, fun _ _ _ h k => h.mv (Mv.of_keep k), kI, fun _ _ _ ⟨a, e, h⟩ k => ⟨a, e, h.mv (Mv.of_keep k)⟩, kI, kI, kI, trivial⟩ ⟨?_, ?_, ?_, ?_, ?_, ?_, ?_, ?_, ?_, ?_, ?_, ?_, ?_, ?_, ?_, ?_, ?_, trivial⟩ ?_
       ·intro F1 w1 k1 hf hd
        obtain ⟨F2, rfl⟩ := lit_of (F := F1) [(10, vB (refThN xs at_ i ys[i]! k))] ⟨hf 10 (by kernel_rfl), trivial⟩
        exact sp_plain rfl ((o_move (vB (refThN xs at_ i ys[i]! k)) rfl (⟨(Keep.refl _ _), rfl⟩)))
       ·intro F1 w1 k1 hf hd
        obtain ⟨F2, rfl⟩ := lit_of (F := F1) [(2, vB at_)] ⟨hf 2 (by kernel_rfl), trivial⟩
        exact sp_plain rfl ((o_move (vB at_) rfl (⟨(Keep.refl _ _), rfl⟩)))
       ·intro F1 w1 k1 hf hd
        have k0 := (Keep.drew [] wl1).trans k1
        have m1 : Mv Bl1 wl1 Bl1 w1 := Mv.of_keep k0
        have h_xs := h_xs.mv m1
        obtain ⟨F2, rfl⟩ := lit_of (F := F1) [(0, xs_v)] ⟨hf 0 (by kernel_rfl), trivial⟩
        exact sp_plain rfl ((o_move (xs_v) rfl (⟨(Keep.refl _ _), h_xs⟩)))
       ·intro F1 w1 k1 hf hd
        obtain ⟨F2, rfl⟩ := lit_of (F := F1) [(11, vI ((k : Nat) : Int))] ⟨hf 11 (by kernel_rfl), trivial⟩
        exact sp_plain rfl ((o_move (vI ((k : Nat) : Int)) rfl (⟨(Keep.refl _ _), rfl⟩)))
       ·intro F1 w1 k1 hf hd
        obtain ⟨v244, e246, hl245⟩ : ∃ v, F1 37 = v ∧ RdL Enc.u8 w1 (Bl1 ++ O) v (xs) := ⟨_, rfl, hd 2 37 (by kernel_rfl)⟩
        have := hl245.len_le
        obtain ⟨F2, rfl⟩ := lit_of (F := F1) [(37, v244), (38, vI ((k : Nat) : Int))] ⟨e246, hd 3 38 (by kernel_rfl), trivial⟩
        exact sp_plain rfl ((o_idx Try.underlying28 s_5 .i64 ((k : Nat) : Int) k rfl rfl rfl hl245 (by omega) fun a247 hp248 => (⟨(Keep.refl _ _), ⟨a247, rfl, hp248⟩⟩)))
       ·intro F1 w1 k1 hf hd
        obtain ⟨a249, e251, hp250⟩ : ∃ a, F1 39 = .pointer (some a) ∧ PT Enc.u8 w1 (Bl1 ++ O) (.pointer (some a)) (xs[k]!) := hd 4 39 (by kernel_rfl)
        obtain ⟨F2, rfl⟩ := lit_of (F := F1) [(39, Value.pointer (some a249))] ⟨e251, trivial⟩
        exact sp_plain rfl ((o_loadB Try.underlying5 rfl rfl hp250 (⟨(Keep.refl _ _), rfl⟩)))
       ·intro F1 w1 k1 hf hd
        obtain ⟨F2, rfl⟩ := lit_of (F := F1) [(36, vB at_), (40, vB (xs[k]!))] ⟨hd 1 36 (by kernel_rfl), hd 5 40 (by kernel_rfl), trivial⟩
        exact sp_plain rfl ((o_xor8 at_ (xs[k]!) rfl rfl (⟨(Keep.refl _ _), rfl⟩)))
       ·intro F1 w1 k1 hf hd
        have k0 := (Keep.drew [] wl1).trans k1
        have m1 : Mv Bl1 wl1 Bl1 w1 := Mv.of_keep k0
        have h_xs := h_xs.mv m1
        obtain ⟨F2, rfl⟩ := lit_of (F := F1) [(0, xs_v)] ⟨hf 0 (by kernel_rfl), trivial⟩
        exact sp_plain rfl ((o_move (xs_v) rfl (⟨(Keep.refl _ _), h_xs⟩)))
       ·intro F1 w1 k1 hf hd
        obtain ⟨F2, rfl⟩ := lit_of (F := F1) [(9, vI ((i : Nat) : Int))] ⟨hf 9 (by kernel_rfl), trivial⟩
        exact sp_plain rfl ((o_move (vI ((i : Nat) : Int)) rfl (⟨(Keep.refl _ _), rfl⟩)))
       ·intro F1 w1 k1 hf hd
        obtain ⟨v252, e254, hl253⟩ : ∃ v, F1 42 = v ∧ RdL Enc.u8 w1 (Bl1 ++ O) v (xs) := ⟨_, rfl, hd 7 42 (by kernel_rfl)⟩
        have := hl253.len_le
        obtain ⟨F2, rfl⟩ := lit_of (F := F1) [(42, v252), (43, vI ((i : Nat) : Int))] ⟨e254, hd 8 43 (by kernel_rfl), trivial⟩
        exact sp_plain rfl ((o_idx Try.underlying28 s_5 .i64 ((i : Nat) : Int) i rfl rfl rfl hl253 (by omega) fun a255 hp256 => (⟨(Keep.refl _ _), ⟨a255, rfl, hp256⟩⟩)))
       ·intro F1 w1 k1 hf hd
        obtain ⟨a257, e259, hp258⟩ : ∃ a, F1 44 = .pointer (some a) ∧ PT Enc.u8 w1 (Bl1 ++ O) (.pointer (some a)) (xs[i]!) := hd 9 44 (by kernel_rfl)
        obtain ⟨F2, rfl⟩ := lit_of (F := F1) [(44, Value.pointer (some a257))] ⟨e259, trivial⟩
        exact sp_plain rfl ((o_loadB Try.underlying5 rfl rfl hp258 (⟨(Keep.refl _ _), rfl⟩)))
       ·intro F1 w1 k1 hf hd
        have k0 := (Keep.drew [] wl1).trans k1
        have m1 : Mv Bl1 wl1 Bl1 w1 := Mv.of_keep k0
        have h_xs := h_xs.mv m1
        obtain ⟨F2, rfl⟩ := lit_of (F := F1) [(0, xs_v)] ⟨hf 0 (by kernel_rfl), trivial⟩
        exact sp_plain rfl ((o_move (xs_v) rfl (⟨(Keep.refl _ _), h_xs⟩)))
       ·intro F1 w1 k1 hf hd
        obtain ⟨F2, rfl⟩ := lit_of (F := F1) [(11, vI ((k : Nat) : Int))] ⟨hf 11 (by kernel_rfl), trivial⟩
        exact sp_plain rfl ((o_move (vI ((k : Nat) : Int)) rfl (⟨(Keep.refl _ _), rfl⟩)))
       ·intro F1 w1 k1 hf hd
        obtain ⟨v260, e262, hl261⟩ : ∃ v, F1 46 = v ∧ RdL Enc.u8 w1 (Bl1 ++ O) v (xs) := ⟨_, rfl, hd 11 46 (by kernel_rfl)⟩
        have := hl261.len_le
        obtain ⟨F2, rfl⟩ := lit_of (F := F1) [(46, v260), (47, vI ((k : Nat) : Int))] ⟨e262, hd 12 47 (by kernel_rfl), trivial⟩
        exact sp_plain rfl ((o_idx Try.underlying28 s_5 .i64 ((k : Nat) : Int) k rfl rfl rfl hl261 (by omega) fun a263 hp264 => (⟨(Keep.refl _ _), ⟨a263, rfl, hp264⟩⟩)))
       ·intro F1 w1 k1 hf hd
        obtain ⟨a265, e267, hp266⟩ : ∃ a, F1 48 = .pointer (some a) ∧ PT Enc.u8 w1 (Bl1 ++ O) (.pointer (some a)) (xs[k]!) := hd 13 48 (by kernel_rfl)
        obtain ⟨F2, rfl⟩ := lit_of (F := F1) [(48, Value.pointer (some a265))] ⟨e267, trivial⟩
        exact sp_plain rfl ((o_loadB Try.underlying5 rfl rfl hp266 (⟨(Keep.refl _ _), rfl⟩)))
       ·intro F1 w1 k1 hf hd
        obtain ⟨F2, rfl⟩ := lit_of (F := F1) [(45, vB (xs[i]!)), (49, vB (xs[k]!))] ⟨hd 10 45 (by kernel_rfl), hd 14 49 (by kernel_rfl), trivial⟩
        exact sp_plain rfl ((o_xor8 (xs[i]!) (xs[k]!) rfl rfl (⟨(Keep.refl _ _), rfl⟩)))
       ·intro F1 w1 k1 hf hd
        have k0 := (Keep.drew [] wl1).trans k1
        have s1 := sl1.call k0
        obtain ⟨F2, rfl⟩ := lit_of (F := F1) [(41, vB (at_ ^^^ (xs[k]!))), (50, vB ((xs[i]!) ^^^ (xs[k]!)))] ⟨hd 6 41 (by kernel_rfl), hd 15 50 (by kernel_rfl), trivial⟩
        refine sp_plain rfl ((o_callK (vs := [vB (at_ ^^^ (xs[k]!)), vB ((xs[i]!) ^^^ (xs[k]!))]) enter_44 (c_refOver (O := Bl1 ++ O) (at_ ^^^ (xs[k]!)) ((xs[i]!) ^^^ (xs[k]!)) w1 s1.lt) rfl s1 fun v268 w269 s270 m271 k272 r273 => (?_)))
        obtain rfl := r273
        exact ⟨k272, rfl⟩
       intro F275 w276 k274 hT277 hF278
       have s279 := sl1.call k274
       have m280 : Mv Bl1 wl1 Bl1 w276 := Mv.of_keep k274
       have h_xs := h_xs.mv m280
       have h_ys := h_ys.mv m280
       obtain ⟨F2, rfl⟩ := lit_of (F := F275) [(0, xs_v), (1, ys_v), (2, vB at_), (8, vB (refThY xs ys at_ i)), (9, vI ((i : Nat) : Int)), (10, vB (refThN xs at_ i ys[i]! k)), (11, vI ((k : Nat) : Int)), (57, undef), (35, vB (refThN xs at_ i ys[i]! k)), (51, vB (refOver (at_ ^^^ (xs[k]!)) ((xs[i]!) ^^^ (xs[k]!))))] ⟨hF278 0 (by kernel_rfl), hF278 1 (by kernel_rfl), hF278 2 (by kernel_rfl), hF278 8 (by kernel_rfl), hF278 9 (by kernel_rfl), hF278 10 (by kernel_rfl), hF278 11 (by kernel_rfl), hF278 57 (by kernel_rfl), hT277 0 35 (by kernel_rfl) (by decide), hT277 16 51 (by kernel_rfl) (by decide), trivial⟩
       clear hT277 hF278
       refine wl_s (o_callK (vs := [vB (refThN xs at_ i ys[i]! k), vB (refOver (at_ ^^^ (xs[k]!)) ((xs[i]!) ^^^ (xs[k]!)))]) enter_21 (c_refMul (O := Bl1 ++ O) (refThN xs at_ i ys[i]! k) (refOver (at_ ^^^ (xs[k]!)) ((xs[i]!) ^^^ (xs[k]!))) w276 s279.lt) rfl s279 fun v282 w283 s284 m285 k286 r287 => (?_))
       obtain rfl := r287
       have h_xs := h_xs.mv m285
       have h_ys := h_ys.mv m285
       refine wl_s (o_assign (vB (refMul (refThN xs at_ i ys[i]! k) (refOver (at_ ^^^ (xs[k]!)) ((xs[i]!) ^^^ (xs[k]!))))) rfl (wl_nil (blockQ_n (thenQ_n (?_)))))
       refine cw_region (by kernel_rfl) (wl_s (o_move (vI ((k : Nat) : Int)) rfl (wl_s (o_add .i64 ((k : Nat) : Int) (1 : Int) (((k + 1 : Nat) : Int)) rfl rfl (w64 (by omega) (by omega)) (wl_s (o_assign (vI ((k + 1 : Nat) : Int)) rfl (wl_nil (thenQ_n (?_)))))))))
       exact ⟨_, (by omega), (k + 1), Bl1, (by first | omega | (simp; done) | (simp; omega) | simp_all), rfl, ⟨_, upds_self _ ⟨rfl, rfl, rfl, rfl, rfl, (congrArg vB (by first | exact (refThN_yes (by assumption)).symm | exact (refThN_no (by assumption)).symm)), (by first | rfl | exact congrArg (Value.int _) (by first | omega | (simp))), rfl, trivial⟩⟩, s284, h_xs, h_ys⟩
      ·have hp288 : ((k : Nat) : Int) = ((i : Nat) : Int) := by first | simpa using hc242 | (have e := hc242; simp at e; omega)
       refine cw_skip (blockQ_n (thenQ_n (?_)))
       refine cw_region (by kernel_rfl) (wl_s (o_move (vI ((k : Nat) : Int)) rfl (wl_s (o_add .i64 ((k : Nat) : Int) (1 : Int) (((k + 1 : Nat) : Int)) rfl rfl (w64 (by omega) (by omega)) (wl_s (o_assign (vI ((k + 1 : Nat) : Int)) rfl (wl_nil (thenQ_n (?_)))))))))
       exact ⟨_, (by omega), (k + 1), Bl1, (by first | omega | (simp; done) | (simp; omega) | simp_all), rfl, ⟨_, upds_self _ ⟨rfl, rfl, rfl, rfl, rfl, (congrArg vB (by first | exact (refThN_yes (by assumption)).symm | exact (refThN_no (by assumption)).symm)), (by first | rfl | exact congrArg (Value.int _) (by first | omega | (simp))), rfl, trivial⟩⟩, sl1, h_xs, h_ys⟩
     ·have hp289 : (xs.length : Int) ≤ ((k : Nat) : Int) := by first | simpa using hc240 | (have e := hc240; simp at e; omega)
      obtain rfl : k = xs.length := by omega
      refine cw_exit (thenQ_x (thenQ_x (blockQ_x (thenQ_n (?_)))))
      refine cw_region (by kernel_rfl) (wl_s (o_move (vB (refThY xs ys at_ i)) rfl (wl_s (o_move (vB (refThN xs at_ i ys[i]! xs.length)) rfl (wl_s (o_xor8 (refThY xs ys at_ i) (refThN xs at_ i ys[i]! xs.length) rfl rfl (wl_s (o_assign (vB ((refThY xs ys at_ i) ^^^ (refThN xs at_ i ys[i]! xs.length))) rfl (wl_nil (blockQ_n (thenQ_n (?_))))))))))))
      refine cw_region (by kernel_rfl) (wl_s (o_move (vI ((i : Nat) : Int)) rfl (wl_s (o_add .i64 ((i : Nat) : Int) (1 : Int) (((i + 1 : Nat) : Int)) rfl rfl (w64 (by omega) (by omega)) (wl_s (o_assign (vI ((i + 1 : Nat) : Int)) rfl (wl_nil (thenQ_n (?_)))))))))
      exact ⟨_, (by omega), (i + 1), Bl1, (by first | omega | (simp; done) | (simp; omega) | simp_all), rfl, ⟨_, upds_self _ ⟨rfl, rfl, rfl, (congrArg vB (by first | rfl | (rfl))), (by first | rfl | exact congrArg (Value.int _) (by first | omega | (simp))), rfl, trivial⟩⟩, sl1, h_xs, h_ys⟩
   ·have hp290 : (xs.length : Int) ≤ ((i : Nat) : Int) := by first | simpa using hc236 | (have e := hc236; simp at e; omega)
    obtain rfl : i = xs.length := by omega
    refine cw_exit (thenQ_x (thenQ_x (blockQ_x (thenQ_n (?_)))))
    refine cw_seq (?_)
    refine cw_region (by kernel_rfl) (wl_s (o_move (vB (refThY xs ys at_ xs.length)) rfl (wl_s (o_assign (vB (refThY xs ys at_ xs.length)) rfl (wl_s (o_assign (vI (0 : Int)) rfl (wl_nil (thenQ_n (?_)))))))))
    refine cw_ret (end_r rfl (res2 rfl rfl rfl rfl) (?_))
    have e : (refThrough xs ys at_) = (refThY xs ys at_ xs.length, (0 : Int)) := by simp [refThrough, *]
    exact ⟨_, rfl, sl0.keep, by rw [e]; exact rfl⟩
set_option maxHeartbeats 4000000 in
set_option maxRecDepth 100000 in
theorem c_times {O : List Nat} (l_v : Value) (l : List UInt8) (a : UInt8) (b : UInt8) (w : World) (h_l : RdL Enc.u8 w O l_v l) (hpre0 : l.length < 1000000) (hO : ∀ b ∈ O, b < w.heap.size) : CallsK Try.prog 47 [l_v, vB a, vB b] w (fun v w' => ∃ (x0 : Value), v = x0 ∧ RdL Enc.u8 w' (O) x0 (times l a b)) :=  by
 have lim_l := h_l.len_le
 have h_l : RdL Enc.u8 w ([] ++ O) l_v l := h_l
 have s0 : St w O w [] := St.start hO
 refine callsK_of 50 Try.func47 rfl rfl (of_decide_eq_true rfl) (fun F0 => ?_)
 refine cw_seq (?_)
 refine cw_region (by kernel_rfl) (wl_s (o_assign (Value.slice none 0 0) rfl (wl_nil (thenQ_n (?_)))))
 refine cw_seq (?_)
 refine cw_region (by kernel_rfl) (wl_s (o_move (l_v) rfl (wl_s (o_lenR Try.underlying28 rfl h_l (wl_s (o_add .i64 (l.length : Int) (1 : Int) (((l.length + 1 : Nat) : Int)) rfl rfl (w64 (by omega) (by omega)) (wl_s (o_make (E := Enc.u8) Try.underlying28 i_5 [vB (0 : UInt8)] rfl rfl (by decide) (0 : UInt8) (fun _ _ => rfl) .i64 .i64 ((l.length + 1 : Nat) : Int) ((l.length + 1 : Nat) : Int) (l.length + 1) (l.length + 1) rfl rfl rfl rfl (by omega) (by omega) (by simp only [maxLen]; omega) s0 fun v295 b297 w291 e298 hb299 s292 m293 k294 hl296 => (?_)))))))))
 have hB300 : ∀ b, v295.ownBlock = some b → b ∈ (b297 :: []) := fun b hb => by rw [hb299] at hb; cases hb; simp
 clear e298 hb299
 have h_l := h_l.mv m293
 refine wl_s (o_assign (v295) rfl (wl_nil (thenQ_n (?_))))
 refine cw_seq (?_)
 refine cw_seq (?_)
 refine cw_region (by kernel_rfl) (wl_s (o_assign (vI (0 : Int)) rfl (wl_nil (thenQ_n (?_)))))
 refine cw_block (?_)
 refine cw_loop (fun mI FI wI => ∃ (k : Nat) (vo0_7 : Value) (B : List Nat), k ≤ l.length ∧ mI = l.length - k ∧ (∃ F1, FI = upds F1 [(0, l_v), (1, vB a), (2, vB b), (7, vo0_7), (8, vI ((k : Nat) : Int)), (50, undef)]) ∧ St w O wI B ∧ Own Enc.u8 5 w.heap.size (B ++ O) wI vo0_7 (tmS l a b k) ∧ (∀ b, vo0_7.ownBlock = some b → b ∈ B) ∧ RdL Enc.u8 wI (B ++ O) (l_v) (l)) (l.length - (0)) ?_ ?_
 ·exact ⟨(0), v295, (b297 :: []), (by first | omega | (simp; done) | (simp; omega) | simp_all), rfl, ⟨_, upds_self _ ⟨rfl, rfl, rfl, rfl, (by first | rfl | exact congrArg (Value.int _) (by first | omega | (simp))), rfl, trivial⟩⟩, s292, (by rw [show tmS l a b (0) = List.replicate (l.length + 1) (0 : UInt8) from rfl]; exact hl296), hB300, h_l⟩
 ·intro ml0 F wl0 hI
  clear h_l
  obtain ⟨k, vo0_7, Bl0, hr0_0, hm0, ⟨Fl0, rfl⟩, sl0, ho0_7, hB0_7, h_l⟩ := hI
  refine cw_seq (?_)
  refine cw_seq (?_)
  refine cw_region (by kernel_rfl) (wl_s (o_move (vI ((k : Nat) : Int)) rfl (wl_s (o_move (l_v) rfl (wl_s (o_lenR Try.underlying28 rfl h_l (wl_s (o_lss .i64 ((k : Nat) : Int) (l.length : Int) rfl rfl (wl_nil (thenQ_n (?_)))))))))))
  refine cw_cond (decide (((k : Nat) : Int) < (l.length : Int))) rfl rfl (fun hc301 => ?_) (fun hc301 => ?_)
  ·have hp302 : ((k : Nat) : Int) < (l.length : Int) := by first | simpa using hc301 | (have e := hc301; simp at e; omega)
   refine cw_skip (thenQ_n (?_))
   refine cw_seq (?_)
   refine cw_block (?_)
   refine cw_seq (?_)
   refine cw_draw' 13 _ _ [isV vo0_7, isV (vI ((k : Nat) : Int)), isV vo0_7, isV (vI ((k : Nat) : Int)), fun (vT : Value) (wT : World) => ∃ bT, vT = .pointer (some ⟨bT, k * 1, none⟩) ∧ vo0_7.ownBlock = some bT, isV (vB ((tmS l a b k)[k]!)), fun (vT : Value) (wT : World) => RdL Enc.u8 wT (Bl0 ++ O) vT (l), isV (vI ((k : Nat) : Int)), fun (vT : Value) (wT : World) => ∃ aT, vT = .pointer (some aT) ∧ PT Enc.u8 wT (Bl0 ++ O) (.pointer (some aT)) (l[k]!), isV (vB (l[k]!)), isV (vB a), isV (vB (refMul (l[k]!) a)), isV (vB (((tmS l a b k)[k]!) ^^^ (refMul (l[k]!) a)))] (by kernel_rfl) (by kernel_rfl) (by kernel_rfl) (by kernel_rfl) rfl rfl ⟨kI, kI, kI, kI, fun _ _ _ h _ => h, kI, fun _ _ _ h k => h.mv (Mv.of_keep k), kI, fun _ _ _ ⟨a, e, h⟩ k => ⟨a, e, h.mv (Mv.of_keep k)⟩, kI, kI, kI, kI, trivial⟩ ⟨?_, ?_, ?_, ?_, ?_, ?_, ?_, ?_, ?_, ?_, ?_, ?_, ?_, trivial⟩ ?_
   ·intro F1 w1 k1 hf hd
    obtain ⟨F2, rfl⟩ := lit_of (F := F1) [(7, vo0_7)] ⟨hf 7 (by kernel_rfl), trivial⟩
    exact sp_plain rfl ((o_move (vo0_7) rfl (⟨(Keep.refl _ _), rfl⟩)))
   ·intro F1 w1 k1 hf hd
    obtain ⟨F2, rfl⟩ := lit_of (F := F1) [(8, vI ((k : Nat) : Int))] ⟨hf 8 (by kernel_rfl), trivial⟩
    exact sp_plain rfl ((o_move (vI ((k : Nat) : Int)) rfl (⟨(Keep.refl _ _), rfl⟩)))
   ·intro F1 w1 k1 hf hd
    obtain ⟨F2, rfl⟩ := lit_of (F := F1) [(7, vo0_7)] ⟨hf 7 (by kernel_rfl), trivial⟩
    exact sp_plain rfl ((o_move (vo0_7) rfl (⟨(Keep.refl _ _), rfl⟩)))
   ·intro F1 w1 k1 hf hd
    obtain ⟨F2, rfl⟩ := lit_of (F := F1) [(8, vI ((k : Nat) : Int))] ⟨hf 8 (by kernel_rfl), trivial⟩
    exact sp_plain rfl ((o_move (vI ((k : Nat) : Int)) rfl (⟨(Keep.refl _ _), rfl⟩)))
   ·intro F1 w1 k1 hf hd
    have k0 := (Keep.drew [] wl0).trans k1
    have m1 : Mv Bl0 wl0 Bl0 w1 := Mv.of_keep k0
    have ho0_7 := ho0_7.mv m1 k0 (by simp)
    obtain ⟨F2, rfl⟩ := lit_of (F := F1) [(21, vo0_7), (22, vI ((k : Nat) : Int))] ⟨hd 2 21 (by kernel_rfl), hd 3 22 (by kernel_rfl), trivial⟩
    exact sp_plain rfl ((o_indexO Try.underlying28 s_5 .i64 ((k : Nat) : Int) k rfl rfl rfl ho0_7 (by first | omega | (simp only [List.length_set, List.length_append, List.length_cons, List.length_nil, List.length_replicate, tmS_len]; omega)) fun b303 hb304 => (⟨(Keep.refl _ _), ⟨_, rfl, hb304⟩⟩)))
   ·intro F1 w1 k1 hf hd
    have k0 := (Keep.drew [] wl0).trans k1
    have m1 : Mv Bl0 wl0 Bl0 w1 := Mv.of_keep k0
    have ho0_7 := ho0_7.mv m1 k0 (by simp)
    obtain ⟨b305, e307, hb306⟩ : ∃ b, F1 23 = .pointer (some ⟨b, k * 1, none⟩) ∧ vo0_7.ownBlock = some b := hd 4 23 (by kernel_rfl)
    obtain ⟨F2, rfl⟩ := lit_of (F := F1) [(23, Value.pointer (some ⟨b305, k * 1, none⟩))] ⟨e307, trivial⟩
    exact sp_plain rfl ((o_loadO8 Try.underlying5 rfl rfl ho0_7 hb306 (by first | omega | (simp only [List.length_set, List.length_append, List.length_cons, List.length_nil, List.length_replicate, tmS_len]; omega)) (⟨(Keep.refl _ _), rfl⟩)))
   ·intro F1 w1 k1 hf hd
    have k0 := (Keep.drew [] wl0).trans k1
    have m1 : Mv Bl0 wl0 Bl0 w1 := Mv.of_keep k0
    have h_l := h_l.mv m1
    obtain ⟨F2, rfl⟩ := lit_of (F := F1) [(0, l_v)] ⟨hf 0 (by kernel_rfl), trivial⟩
    exact sp_plain rfl ((o_move (l_v) rfl (⟨(Keep.refl _ _), h_l⟩)))
   ·intro F1 w1 k1 hf hd
    obtain ⟨F2, rfl⟩ := lit_of (F := F1) [(8, vI ((k : Nat) : Int))] ⟨hf 8 (by kernel_rfl), trivial⟩
    exact sp_plain rfl ((o_move (vI ((k : Nat) : Int)) rfl (⟨(Keep.refl _ _), rfl⟩)))
   ·intro F1 w1 k1 hf hd
    obtain ⟨v308, e310, hl309⟩ : ∃ v, F1 25 = v ∧ RdL Enc.u8 w1 (Bl0 ++ O) v (l) := ⟨_, rfl, hd 6 25 (by kernel_rfl)⟩
    have := hl309.len_le
    obtain ⟨F2, rfl⟩ := lit_of (F := F1) [(25, v308), (26, vI ((k : Nat) : Int))] ⟨e310, hd 7 26 (by kernel_rfl), trivial⟩
    exact sp_plain rfl ((o_idx Try.underlying28 s_5 .i64 ((k : Nat) : Int) k rfl rfl rfl hl309 (by omega) fun a311 hp312 => (⟨(Keep.refl _ _), ⟨a311, rfl, hp312⟩⟩)))
   ·intro F1 w1 k1 hf hd
    obtain ⟨a313, e315, hp314⟩ : ∃ a, F1 27 = .pointer (some a) ∧ PT Enc.u8 w1 (Bl0 ++ O) (.pointer (some a)) (l[k]!) := hd 8 27 (by kernel_rfl)
    obtain ⟨F2, rfl⟩ := lit_of (F := F1) [(27, Value.pointer (some a313))] ⟨e315, trivial⟩
    exact sp_plain rfl ((o_loadB Try.underlying5 rfl rfl hp314 (⟨(Keep.refl _ _), rfl⟩)))
   ·intro F1 w1 k1 hf hd
    obtain ⟨F2, rfl⟩ := lit_of (F := F1) [(1, vB a)] ⟨hf 1 (by kernel_rfl), trivial⟩
    exact sp_plain rfl ((o_move (vB a) rfl (⟨(Keep.refl _ _), rfl⟩)))
   ·intro F1 w1 k1 hf hd
    have k0 := (Keep.drew [] wl0).trans k1
    have s1 := sl0.call k0
    obtain ⟨F2, rfl⟩ := lit_of (F := F1) [(28, vB (l[k]!)), (29, vB a)] ⟨hd 9 28 (by kernel_rfl), hd 10 29 (by kernel_rfl), trivial⟩
    refine sp_plain rfl ((o_callK (vs := [vB (l[k]!), vB a]) enter_21 (c_refMul (O := Bl0 ++ O) (l[k]!) a w1 s1.lt) rfl s1 fun v316 w317 s318 m319 k320 r321 => (?_)))
    obtain rfl := r321
    exact ⟨k320, rfl⟩
   ·intro F1 w1 k1 hf hd
    obtain ⟨F2, rfl⟩ := lit_of (F := F1) [(24, vB ((tmS l a b k)[k]!)), (30, vB (refMul (l[k]!) a))] ⟨hd 5 24 (by kernel_rfl), hd 11 30 (by kernel_rfl), trivial⟩
    exact sp_plain rfl ((o_xor8 ((tmS l a b k)[k]!) (refMul (l[k]!) a) rfl rfl (⟨(Keep.refl _ _), rfl⟩)))
   intro F323 w324 k322 hT325 hF326
   have s327 := sl0.call k322
   have m328 : Mv Bl0 wl0 Bl0 w324 := Mv.of_keep k322
   have h_l := h_l.mv m328
   have ho0_7 := ho0_7.mv m328 k322 (by simp)
   obtain ⟨F2, rfl⟩ := lit_of (F := F323) [(0, l_v), (1, vB a), (2, vB b), (7, vo0_7), (8, vI ((k : Nat) : Int)), (50, undef), (19, vo0_7), (20, vI ((k : Nat) : Int)), (31, vB (((tmS l a b k)[k]!) ^^^ (refMul (l[k]!) a)))] ⟨hF326 0 (by kernel_rfl), hF326 1 (by kernel_rfl), hF326 2 (by kernel_rfl), hF326 7 (by kernel_rfl), hF326 8 (by kernel_rfl), hF326 50 (by kernel_rfl), hT325 0 19 (by kernel_rfl) (by decide), hT325 1 20 (by kernel_rfl) (by decide), hT325 12 31 (by kernel_rfl) (by decide), trivial⟩
   clear hT325 hF326
   refine wl_s (o_indexO Try.underlying28 s_5 .i64 ((k : Nat) : Int) k rfl rfl rfl ho0_7 (by first | omega | (simp only [List.length_set, List.length_append, List.length_cons, List.length_nil, List.length_replicate, tmS_len]; omega)) fun b330 hb331 => (wl_n (o_storeO (((tmS l a b k)[k]!) ^^^ (refMul (l[k]!) a)) s_5 rfl rfl rfl ho0_7 hb331 (hB0_7 _ hb331) (by first | omega | (simp only [List.length_set, List.length_append, List.length_cons, List.length_nil, List.length_replicate, tmS_len]; omega)) rfl s327 fun w332 s333 m334 k335 bx336 => (?_))))
   have h_l := h_l.mv m334
   refine wl_nil (thenQ_n (?_))
   refine cw_draw' 15 _ _ [isV vo0_7, isV (vI ((k : Nat) : Int)), isV (vI ((k + 1 : Nat) : Int)), isV vo0_7, isV (vI ((k : Nat) : Int)), isV (vI ((k + 1 : Nat) : Int)), fun (vT : Value) (wT : World) => ∃ bT, vT = .pointer (some ⟨bT, (k + 1) * 1, none⟩) ∧ vo0_7.ownBlock = some bT, isV (vB (((tmS l a b k).set k (((tmS l a b k)[k]!) ^^^ (refMul (l[k]!) a)))[k + 1]!)), fun (vT : Value) (wT : World) => RdL Enc.u8 wT (Bl0 ++ O) vT (l), isV (vI ((k : Nat) : Int)), fun (vT : Value) (wT : World) => ∃ aT, vT = .pointer (some aT) ∧ PT Enc.u8 wT (Bl0 ++ O) (.pointer (some aT)) (l[k]!), isV (vB (l[k]!)), isV (vB b), isV (vB (refMul (l[k]!) b)), isV (vB ((((tmS l a b k).set k (((tmS l a b k)[k]!) ^^^ (refMul (l[k]!) a)))[k + 1]!) ^^^ (refMul (l[k]!) b)))] (by kernel_rfl) (by kernel_rfl) (by kernel_rfl) (by kernel_rfl) rfl rfl ⟨kI, kI, kI, kI, kI, kI, fun _ _ _ h _ => h, kI, fun _ _ _ h k => h.mv (Mv.of_keep k), kI, fun _ _ _ ⟨a, e, h⟩ k => ⟨a, e, h.mv (Mv.of_keep k)⟩, kI, kI, kI, kI, trivial⟩ ⟨?_, ?_, ?_, ?_, ?_, ?_, ?_, ?_, ?_, ?_, ?_, ?_, ?_, ?_, ?_, trivial⟩ ?_
   ·intro F1 w1 k1 hf hd
    obtain ⟨F2, rfl⟩ := lit_of (F := F1) [(7, vo0_7)] ⟨hf 7 (by kernel_rfl), trivial⟩
    exact sp_plain rfl ((o_move (vo0_7) rfl (⟨(Keep.refl _ _), rfl⟩)))
   ·intro F1 w1 k1 hf hd
    obtain ⟨F2, rfl⟩ := lit_of (F := F1) [(8, vI ((k : Nat) : Int))] ⟨hf 8 (by kernel_rfl), trivial⟩
    exact sp_plain rfl ((o_move (vI ((k : Nat) : Int)) rfl (⟨(Keep.refl _ _), rfl⟩)))
   ·intro F1 w1 k1 hf hd
    obtain ⟨F2, rfl⟩ := lit_of (F := F1) [(34, vI ((k : Nat) : Int))] ⟨hd 1 34 (by kernel_rfl), trivial⟩
    exact sp_plain rfl ((o_add .i64 ((k : Nat) : Int) (1 : Int) (((k + 1 : Nat) : Int)) rfl rfl (w64 (by omega) (by omega)) (⟨(Keep.refl _ _), rfl⟩)))
   ·intro F1 w1 k1 hf hd
    obtain ⟨F2, rfl⟩ := lit_of (F := F1) [(7, vo0_7)] ⟨hf 7 (by kernel_rfl), trivial⟩
    exact sp_plain rfl ((o_move (vo0_7) rfl (⟨(Keep.refl _ _), rfl⟩)))
   ·intro F1 w1 k1 hf hd
    obtain ⟨F2, rfl⟩ := lit_of (F := F1) [(8, vI ((k : Nat) : Int))] ⟨hf 8 (by kernel_rfl), trivial⟩
    exact sp_plain rfl ((o_move (vI ((k : Nat) : Int)) rfl (⟨(Keep.refl _ _), rfl⟩)))
   ·intro F1 w1 k1 hf hd
    obtain ⟨F2, rfl⟩ := lit_of (F := F1) [(37, vI ((k : Nat) : Int))] ⟨hd 4 37 (by kernel_rfl), trivial⟩
    exact sp_plain rfl ((o_add .i64 ((k : Nat) : Int) (1 : Int) (((k + 1 : Nat) : Int)) rfl rfl (w64 (by omega) (by omega)) (⟨(Keep.refl _ _), rfl⟩)))
   ·intro F1 w1 k1 hf hd
    have k0 := (Keep.drew [] w332).trans k1
    have m1 : Mv Bl0 w332 Bl0 w1 := Mv.of_keep k0
    have bx336 := bx336.mv m1 k0 (by simp)
    obtain ⟨F2, rfl⟩ := lit_of (F := F1) [(36, vo0_7), (38, vI ((k + 1 : Nat) : Int))] ⟨hd 3 36 (by kernel_rfl), hd 5 38 (by kernel_rfl), trivial⟩
    exact sp_plain rfl ((o_indexO Try.underlying28 s_5 .i64 ((k + 1 : Nat) : Int) (k + 1) rfl rfl rfl bx336 (by first | omega | (simp only [List.length_set, List.length_append, List.length_cons, List.length_nil, List.length_replicate, tmS_len]; omega)) fun b337 hb338 => (⟨(Keep.refl _ _), ⟨_, rfl, hb338⟩⟩)))
   ·intro F1 w1 k1 hf hd
    have k0 := (Keep.drew [] w332).trans k1
    have m1 : Mv Bl0 w332 Bl0 w1 := Mv.of_keep k0
    have bx336 := bx336.mv m1 k0 (by simp)
    obtain ⟨b339, e341, hb340⟩ : ∃ b, F1 39 = .pointer (some ⟨b, (k + 1) * 1, none⟩) ∧ vo0_7.ownBlock = some b := hd 6 39 (by kernel_rfl)
    obtain ⟨F2, rfl⟩ := lit_of (F := F1) [(39, Value.pointer (some ⟨b339, (k + 1) * 1, none⟩))] ⟨e341, trivial⟩
    exact sp_plain rfl ((o_loadO8 Try.underlying5 rfl rfl bx336 hb340 (by first | omega | (simp only [List.length_set, List.length_append, List.length_cons, List.length_nil, List.length_replicate, tmS_len]; omega)) (⟨(Keep.refl _ _), rfl⟩)))
   ·intro F1 w1 k1 hf hd
    have k0 := (Keep.drew [] w332).trans k1
    have m1 : Mv Bl0 w332 Bl0 w1 := Mv.of_keep k0
    have h_l := h_l.mv m1
    obtain ⟨F2, rfl⟩ := lit_of (F := F1) [(0, l_v)] ⟨hf 0 (by kernel_rfl), trivial⟩
    exact sp_plain rfl ((o_move (l_v) rfl (⟨(Keep.refl _ _), h_l⟩)))
   ·intro F1 w1 k1 hf hd
    obtain ⟨F2, rfl⟩ := lit_of (F := F1) [(8, vI ((k : Nat) : Int))] ⟨hf 8 (by kernel_rfl), trivial⟩
    exact sp_plain rfl ((o_move (vI ((k : Nat) : Int)) rfl (⟨(Keep.refl _ _), rfl⟩)))
   ·intro F1 w1 k1 hf hd
    obtain ⟨v342, e344, hl343⟩ : ∃ v, F1 41 = v ∧ RdL Enc.u8 w1 (Bl0 ++ O) v (l) := ⟨_, rfl, hd 8 41 (by kernel_rfl)⟩
    have := hl343.len_le
    obtain ⟨F2, rfl⟩ := lit_of (F := F1) [(41, v342), (42, vI ((k : Nat) : Int))] ⟨e344, hd 9 42 (by kernel_rfl), trivial⟩
    exact sp_plain rfl ((o_idx Try.underlying28 s_5 .i64 ((k : Nat) : Int) k rfl rfl rfl hl343 (by omega) fun a345 hp346 => (⟨(Keep.refl _ _), ⟨a345, rfl, hp346⟩⟩)))
   ·intro F1 w1 k1 hf hd
    obtain ⟨a347, e349, hp348⟩ : ∃ a, F1 43 = .pointer (some a) ∧ PT Enc.u8 w1 (Bl0 ++ O) (.pointer (some a)) (l[k]!) := hd 10 43 (by kernel_rfl)
    obtain ⟨F2, rfl⟩ := lit_of (F := F1) [(43, Value.pointer (some a347))] ⟨e349, trivial⟩
    exact sp_plain rfl ((o_loadB Try.underlying5 rfl rfl hp348 (⟨(Keep.refl _ _), rfl⟩)))
   ·intro F1 w1 k1 hf hd
    obtain ⟨F2, rfl⟩ := lit_of (F := F1) [(2, vB b)] ⟨hf 2 (by kernel_rfl), trivial⟩
    exact sp_plain rfl ((o_move (vB b) rfl (⟨(Keep.refl _ _), rfl⟩)))
   ·intro F1 w1 k1 hf hd
    have k0 := (Keep.drew [] w332).trans k1
    have s1 := s333.call k0
    obtain ⟨F2, rfl⟩ := lit_of (F := F1) [(44, vB (l[k]!)), (45, vB b)] ⟨hd 11 44 (by kernel_rfl), hd 12 45 (by kernel_rfl), trivial⟩
    refine sp_plain rfl ((o_callK (vs := [vB (l[k]!), vB b]) enter_21 (c_refMul (O := Bl0 ++ O) (l[k]!) b w1 s1.lt) rfl s1 fun v350 w351 s352 m353 k354 r355 => (?_)))
    obtain rfl := r355
    exact ⟨k354, rfl⟩
   ·intro F1 w1 k1 hf hd
    obtain ⟨F2, rfl⟩ := lit_of (F := F1) [(40, vB (((tmS l a b k).set k (((tmS l a b k)[k]!) ^^^ (refMul (l[k]!) a)))[k + 1]!)), (46, vB (refMul (l[k]!) b))] ⟨hd 7 40 (by kernel_rfl), hd 13 46 (by kernel_rfl), trivial⟩
    exact sp_plain rfl ((o_xor8 (((tmS l a b k).set k (((tmS l a b k)[k]!) ^^^ (refMul (l[k]!) a)))[k + 1]!) (refMul (l[k]!) b) rfl rfl (⟨(Keep.refl _ _), rfl⟩)))
   intro F357 w358 k356 hT359 hF360
   have s361 := s333.call k356
   have m362 : Mv Bl0 w332 Bl0 w358 := Mv.of_keep k356
   have h_l := h_l.mv m362
   have bx336 := bx336.mv m362 k356 (by simp)
   obtain ⟨F2, rfl⟩ := lit_of (F := F357) [(0, l_v), (1, vB a), (2, vB b), (7, vo0_7), (8, vI ((k : Nat) : Int)), (50, undef), (33, vo0_7), (35, vI ((k + 1 : Nat) : Int)), (47, vB ((((tmS l a b k).set k (((tmS l a b k)[k]!) ^^^ (refMul (l[k]!) a)))[k + 1]!) ^^^ (refMul (l[k]!) b)))] ⟨hF360 0 (by kernel_rfl), hF360 1 (by kernel_rfl), hF360 2 (by kernel_rfl), hF360 7 (by kernel_rfl), hF360 8 (by kernel_rfl), hF360 50 (by kernel_rfl), hT359 0 33 (by kernel_rfl) (by decide), hT359 2 35 (by kernel_rfl) (by decide), hT359 14 47 (by kernel_rfl) (by decide), trivial⟩
   clear hT359 hF360
   refine wl_s (o_indexO Try.underlying28 s_5 .i64 ((k + 1 : Nat) : Int) (k + 1) rfl rfl rfl bx336 (by first | omega | (simp only [List.length_set, List.length_append, List.length_cons, List.length_nil, List.length_replicate, tmS_len]; omega)) fun b364 hb365 => (wl_n (o_storeO ((((tmS l a b k).set k (((tmS l a b k)[k]!) ^^^ (refMul (l[k]!) a)))[k + 1]!) ^^^ (refMul (l[k]!) b)) s_5 rfl rfl rfl bx336 hb365 (hB0_7 _ hb365) (by first | omega | (simp only [List.length_set, List.length_append, List.length_cons, List.length_nil, List.length_replicate, tmS_len]; omega)) rfl s361 fun w366 s367 m368 k369 bx370 => (?_))))
   have h_l := h_l.mv m368
   refine wl_nil (blockQ_n (thenQ_n (?_)))
   refine cw_region (by kernel_rfl) (wl_s (o_move (vI ((k : Nat) : Int)) rfl (wl_s (o_add .i64 ((k : Nat) : Int) (1 : Int) (((k + 1 : Nat) : Int)) rfl rfl (w64 (by omega) (by omega)) (wl_s (o_assign (vI ((k + 1 : Nat) : Int)) rfl (wl_nil (thenQ_n (?_)))))))))
   exact ⟨_, (by omega), (k + 1), vo0_7, Bl0, (by first | omega | (simp; done) | (simp; omega) | simp_all), rfl, ⟨_, upds_self _ ⟨rfl, rfl, rfl, rfl, (by first | rfl | exact congrArg (Value.int _) (by first | omega | (simp))), rfl, trivial⟩⟩, s367, (by rw [show tmS l a b (k + 1) = ((tmS l a b k).set k (((tmS l a b k)[k]!) ^^^ (refMul (l[k]!) a))).set (k + 1) ((((tmS l a b k).set k (((tmS l a b k)[k]!) ^^^ (refMul (l[k]!) a)))[k + 1]!) ^^^ (refMul (l[k]!) b)) from rfl]; exact bx370), hB0_7, h_l⟩
  ·have hp371 : (l.length : Int) ≤ ((k : Nat) : Int) := by first | simpa using hc301 | (have e := hc301; simp at e; omega)
   obtain rfl : k = l.length := by omega
   refine cw_exit (thenQ_x (thenQ_x (blockQ_x (thenQ_n (?_)))))
   refine cw_seq (?_)
   refine cw_region (by kernel_rfl) (wl_s (o_move (vo0_7) rfl (wl_s (o_assign (vo0_7) rfl (wl_nil (thenQ_n (?_)))))))
   refine cw_ret (end_r rfl (res1 rfl rfl rfl) (?_))
   have e : (times l a b) = (tmS l a b l.length) := rfl
   exact ⟨_, rfl, sl0.keep, by rw [e]; exact ⟨vo0_7, rfl, ho0_7.pub sl0⟩⟩
set_option maxHeartbeats 4000000 in
set_option maxRecDepth 100000 in
theorem c_refCoeff {O : List Nat} (xs_v : Value) (xs : List UInt8) (ys_v : Value) (ys : List UInt8) (w : World) (h_xs : RdL Enc.u8 w O xs_v xs) (h_ys : RdL Enc.u8 w O ys_v ys) (hpre0 : xs.length < 1000000) (hO : ∀ b ∈ O, b < w.heap.size) : CallsK Try.prog 25 [xs_v, ys_v] w (fun v w' => ∃ (x0 : Value), v = .tuple #[x0, vI ((refCoeff xs ys).2)] ∧ RdL Enc.u8 w' (O) x0 ((refCoeff xs ys).1)) :=  by
 have lim_xs := h_xs.len_le
 have h_xs : RdL Enc.u8 w ([] ++ O) xs_v xs := h_xs
 have lim_ys := h_ys.len_le
 have h_ys : RdL Enc.u8 w ([] ++ O) ys_v ys := h_ys
 have s0 : St w O w [] := St.start hO
 refine callsK_of 77 Try.func25 rfl rfl (of_decide_eq_true rfl) (fun F0 => ?_)
 refine cw_seq (?_)
 refine cw_region (by kernel_rfl) (wl_s (o_assign (Value.slice none 0 0) rfl (wl_s (o_assign (vI (0 : Int)) rfl (wl_nil (thenQ_n (?_)))))))
 refine cw_seq (?_)
 refine cw_seq (?_)
 refine cw_region (by kernel_rfl) (wl_s (o_move (xs_v) rfl (wl_s (o_move (ys_v) rfl (wl_s (o_callK (vs := [xs_v, ys_v]) enter_43 (c_refPoints (O := [] ++ O) xs_v xs ys_v ys w h_xs h_ys s0.lt) rfl s0 fun v372 w373 s374 m375 k376 r377 => (?_)))))))
 obtain rfl := r377
 have h_xs := h_xs.mv m375
 have h_ys := h_ys.mv m375
 refine wl_s (o_not (refPoints xs ys) rfl (wl_nil (thenQ_n (?_))))
 refine cw_cond (!(refPoints xs ys)) rfl rfl (fun hc378 => ?_) (fun hc378 => ?_)
 ·have hp379 : (refPoints xs ys) = false := by first | simpa using hc378 | (have e := hc378; simp at e; omega)
  refine cw_seq (?_)
  refine cw_region (by kernel_rfl) (wl_s (o_assign (Value.slice none 0 0) rfl (wl_s (o_assign (vI (1 : Int)) rfl (wl_nil (thenQ_n (?_)))))))
  refine cw_ret (thenQ_r (end_r rfl (res2 rfl rfl rfl rfl) (?_)))
  have e : (refCoeff xs ys) = ([], (1 : Int)) := by simp [refCoeff, *]
  exact ⟨_, rfl, s374.keep, by rw [e]; exact ⟨.slice none 0 0, rfl, RdL.nil _ _ _⟩⟩
 ·have hp380 : (refPoints xs ys) = true := by first | simpa using hc378 | (have e := hc378; simp at e; omega)
  have hxy := refPoints_len (by simpa using hc378)
  refine cw_skip (thenQ_n (?_))
  refine cw_seq (?_)
  refine cw_region (by kernel_rfl) (wl_s (o_move (xs_v) rfl (wl_s (o_lenR Try.underlying28 rfl h_xs (wl_s (o_make (E := Enc.u8) Try.underlying28 i_5 [vB (0 : UInt8)] rfl rfl (by decide) (0 : UInt8) (fun _ _ => rfl) .i64 .i64 (xs.length : Int) (xs.length : Int) xs.length xs.length rfl rfl rfl rfl (by omega) (by omega) (by simp only [maxLen]; omega) s374 fun v385 b387 w381 e388 hb389 s382 m383 k384 hl386 => (?_)))))))
  have hB390 : ∀ b, v385.ownBlock = some b → b ∈ (b387 :: []) := fun b hb => by rw [hb389] at hb; cases hb; simp
  clear e388 hb389
  have h_xs := h_xs.mv m383
  have h_ys := h_ys.mv m383
  refine wl_s (o_assign (v385) rfl (wl_nil (thenQ_n (?_))))
  refine cw_seq (?_)
  refine cw_seq (?_)
  refine cw_region (by kernel_rfl) (wl_s (o_assign (vI (0 : Int)) rfl (wl_nil (thenQ_n (?_)))))
  refine cw_block (?_)
  refine cw_loop (fun mI FI wI => ∃ (i : Nat) (vo0_6 : Value) (B : List Nat), i ≤ xs.length ∧ mI = xs.length - i ∧ (∃ F1, FI = upds F1 [(0, xs_v), (1, ys_v), (6, vo0_6), (7, vI ((i : Nat) : Int)), (77, undef)]) ∧ St w O wI B ∧ Own Enc.u8 5 w.heap.size (B ++ O) wI vo0_6 (refCoS xs ys i) ∧ (∀ b, vo0_6.ownBlock = some b → b ∈ B) ∧ RdL Enc.u8 wI (B ++ O) (xs_v) (xs) ∧ RdL Enc.u8 wI (B ++ O) (ys_v) (ys)) (xs.length - (0)) ?_ ?_
  ·exact ⟨(0), v385, (b387 :: []), (by first | omega | (simp; done) | (simp; omega) | simp_all), rfl, ⟨_, upds_self _ ⟨rfl, rfl, rfl, (by first | rfl | exact congrArg (Value.int _) (by first | omega | (simp))), rfl, trivial⟩⟩, s382, (by rw [show refCoS xs ys (0) = List.replicate xs.length (0 : UInt8) from rfl]; exact hl386), hB390, h_xs, h_ys⟩
  ·intro ml0 F wl0 hI
   clear h_xs h_ys
   obtain ⟨i, vo0_6, Bl0, hr0_0, hm0, ⟨Fl0, rfl⟩, sl0, ho0_6, hB0_6, h_xs, h_ys⟩ := hI
   refine cw_seq (?_)
   refine cw_seq (?_)
   refine cw_region (by kernel_rfl) (wl_s (o_move (vI ((i : Nat) : Int)) rfl (wl_s (o_move (xs_v) rfl (wl_s (o_lenR Try.underlying28 rfl h_xs (wl_s (o_lss .i64 ((i : Nat) : Int) (xs.length : Int) rfl rfl (wl_nil (thenQ_n (?_)))))))))))
   refine cw_cond (decide (((i : Nat) : Int) < (xs.length : Int))) rfl rfl (fun hc391 => ?_) (fun hc391 => ?_)
   ·have hp392 : ((i : Nat) : Int) < (xs.length : Int) := by first | simpa using hc391 | (have e := hc391; simp at e; omega)
    refine cw_skip (thenQ_n (?_))
    refine cw_seq (?_)
    refine cw_block (?_)
    refine cw_seq (?_)
    refine cw_region (by kernel_rfl) (wl_s (o_move (ys_v) rfl (wl_s (o_move (vI ((i : Nat) : Int)) rfl (wl_s (o_idx Try.underlying28 s_5 .i64 ((i : Nat) : Int) i rfl rfl rfl h_ys (by omega) fun a393 hp394 => (wl_s (o_loadB Try.underlying5 rfl rfl hp394 (wl_s (o_lit (E := Enc.u8) (xs := [.tmp 28]) Try.underlying28 s_5 z_5 (by decide) [vB (ys[i]!)] [[vB (ys[i]!)]] [ys[i]!] rfl rfl rfl (Parts.cons rfl rfl (Parts.nil _ _ _)) (of_decide_eq_true rfl) sl0 fun v399 w395 s396 m397 k398 hl400 => (?_)))))))))))
    have h_xs := h_xs.mv m397
    have h_ys := h_ys.mv m397
    have ho0_6 := ho0_6.mv m397 k398 (by simp)
    have := hl400.len_le
    refine wl_s (o_assign (v399) rfl (wl_nil (thenQ_n (?_))))
    refine cw_seq (?_)
    refine cw_seq (?_)
    refine cw_region (by kernel_rfl) (wl_s (o_assign (vI (0 : Int)) rfl (wl_nil (thenQ_n (?_)))))
    refine cw_block (?_)
    refine cw_loop (fun mI FI wI => ∃ (k : Nat) (vr1_8 : Value) (B : List Nat), k ≤ xs.length ∧ mI = xs.length - k ∧ (∃ F1, FI = upds F1 [(0, xs_v), (1, ys_v), (6, vo0_6), (7, vI ((i : Nat) : Int)), (8, vr1_8), (9, vI ((k : Nat) : Int)), (77, undef)]) ∧ St w O wI B ∧ RdL Enc.u8 wI (B ++ O) vr1_8 (refOne xs ys i k) ∧ RdL Enc.u8 wI (B ++ O) (xs_v) (xs) ∧ RdL Enc.u8 wI (B ++ O) (ys_v) (ys) ∧ Own Enc.u8 5 w.heap.size (B ++ O) wI vo0_6 (refCoS xs ys i) ∧ (∀ b, vo0_6.ownBlock = some b → b ∈ B)) (xs.length - (0)) ?_ ?_
    ·exact ⟨(0), v399, Bl0, (by first | omega | (simp; done) | (simp; omega) | simp_all), rfl, ⟨_, upds_self _ ⟨rfl, rfl, rfl, rfl, rfl, (by first | rfl | exact congrArg (Value.int _) (by first | omega | (simp))), rfl, trivial⟩⟩, s396, (by rw [show refOne xs ys i (0) = [ys[i]!] from rfl]; exact hl400), h_xs, h_ys, ho0_6, hB0_6⟩
    ·intro ml1 F wl1 hI
     clear h_xs h_ys ho0_6 hB0_6
     obtain ⟨k, vr1_8, Bl1, hr1_0, hm1, ⟨Fl1, rfl⟩, sl1, hrd1_8, h_xs, h_ys, ho0_6, hB0_6⟩ := hI
     have := hrd1_8.len_le
     refine cw_seq (?_)
     refine cw_seq (?_)
     refine cw_region (by kernel_rfl) (wl_s (o_move (vI ((k : Nat) : Int)) rfl (wl_s (o_move (xs_v) rfl (wl_s (o_lenR Try.underlying28 rfl h_xs (wl_s (o_lss .i64 ((k : Nat) : Int) (xs.length : Int) rfl rfl (wl_nil (thenQ_n (?_)))))))))))
     refine cw_cond (decide (((k : Nat) : Int) < (xs.length : Int))) rfl rfl (fun hc401 => ?_) (fun hc401 => ?_)
     ·have hp402 : ((k : Nat) : Int) < (xs.length : Int) := by first | simpa using hc401 | (have e := hc401; simp at e; omega)
      refine cw_skip (thenQ_n (?_))
      refine cw_seq (?_)
      refine cw_block (?_)
      refine cw_seq (?_)
      refine cw_region (by kernel_rfl) (wl_s (o_move (vI ((k : Nat) : Int)) rfl (wl_s (o_move (vI ((i : Nat) : Int)) rfl (wl_s (o_neq .i64 ((k : Nat) : Int) ((i : Nat) : Int) rfl rfl (wl_nil (thenQ_n (?_)))))))))
      refine cw_cond (((k : Nat) : Int) != ((i : Nat) : Int)) rfl rfl (fun hc403 => ?_) (fun hc403 => ?_)
      ·have hp404 : ((k : Nat) : Int) ≠ ((i : Nat) : Int) := by first | simpa using hc403 | (have e := hc403; simp at e; omega)
       refine cw_seq (?_)
       refine cw_draw' 8 _ _ [fun (vT : Value) (wT : World) => RdL Enc.u8 wT (Bl1 ++ O) vT (xs), isV (vI ((i : Nat) : Int)), fun (vT : Value) (wT : World) => ∃ aT, vT = .pointer (some aT) ∧ PT Enc.u8 wT (Bl1 ++ O) (.pointer (some aT)) (xs[i]!), isV (vB (xs[i]!)), fun (vT : Value) (wT : World) => RdL Enc.u8 wT (Bl1 ++ O) vT (xs), isV (vI ((k : Nat) : Int)), fun (vT : Value) (wT : World) => ∃ aT, vT = .pointer (some aT) ∧ PT Enc.u8 wT (Bl1 ++ O) (.pointer (some aT)) (xs[k]!), isV (vB (xs[k]!))] (by kernel_rfl) (by kernel_rfl) (by kernel_rfl) (by kernel_rfl) rfl rfl ⟨fun _ _ _ h k => h.mv (Mv.of_keep k), kI, fun _ _ _ ⟨a, e, h⟩ k => ⟨a, e, h.mv (Mv.of_keep k)⟩, kI, fun _ _ _ h k => h.mv (Mv.of_keep k), kI, fun _ _ _ ⟨a, e, h⟩ k => ⟨a, e, h.mv (Mv.of_keep k)⟩, kI, trivial⟩ ⟨?_, ?_, ?_, ?_, ?_, ?_, ?_, ?_, trivial⟩ ?_
       ·intro F1 w1 k1 hf hd
        have k0 := (Keep.drew [] wl1).trans k1
        have m1 : Mv Bl1 wl1 Bl1 w1 := Mv.of_keep k0
        have h_xs := h_xs.mv m1
        obtain ⟨F2, rfl⟩ := lit_of (F := F1) [(0, xs_v)] ⟨hf 0 (by kernel_rfl), trivial⟩
        exact sp_plain rfl ((o_move (xs_v) rfl (⟨(Keep.refl _ _), h_xs⟩)))
       ·intro F1 w1 k1 hf hd
        obtain ⟨F2, rfl⟩ := lit_of (F := F1) [(7, vI ((i : Nat) : Int))] ⟨hf 7 (by kernel_rfl), trivial⟩
        exact sp_plain rfl ((o_move (vI ((i : Nat) : Int)) rfl (⟨(Keep.refl _ _), rfl⟩)))
       ·intro F1 w1 k1 hf hd
        obtain ⟨v405, e407, hl406⟩ : ∃ v, F1 39 = v ∧ RdL Enc.u8 w1 (Bl1 ++ O) v (xs) := ⟨_, rfl, hd 0 39 (by kernel_rfl)⟩
        have := hl406.len_le
        obtain ⟨F2, rfl⟩ := lit_of (F := F1) [(39, v405), (40, vI ((i : Nat) : Int))] ⟨e407, hd 1 40 (by kernel_rfl), trivial⟩
        exact sp_plain rfl ((o_idx Try.underlying28 s_5 .i64 ((i : Nat) : Int) i rfl rfl rfl hl406 (by omega) fun a408 hp409 => (⟨(Keep.refl _ _), ⟨a408, rfl, hp409⟩⟩)))
       ·intro F1 w1 k1 hf hd
        obtain ⟨a410, e412, hp411⟩ : ∃ a, F1 41 = .pointer (some a) ∧ PT Enc.u8 w1 (Bl1 ++ O) (.pointer (some a)) (xs[i]!) := hd 2 41 (by kernel_rfl)
        obtain ⟨F2, rfl⟩ := lit_of (F := F1) [(41, Value.pointer (some a410))] ⟨e412, trivial⟩
        exact sp_plain rfl ((o_loadB Try.underlying5 rfl rfl hp411 (⟨(Keep.refl _ _), rfl⟩)))
       ·intro F1 w1 k1 hf hd
        have k0 := (Keep.drew [] wl1).trans k1
        have m1 : Mv Bl1 wl1 Bl1 w1 := Mv.of_keep k0
        have h_xs := h_xs.mv m1
        obtain ⟨F2, rfl⟩ := lit_of (F := F1) [(0, xs_v)] ⟨hf 0 (by kernel_rfl), trivial⟩
        exact sp_plain rfl ((o_move (xs_v) rfl (⟨(Keep.refl _ _), h_xs⟩)))
       ·intro F1 w1 k1 hf hd
        obtain ⟨F2, rfl⟩ := lit_of (F := F1) [(9, vI ((k : Nat) : Int))] ⟨hf 9 (by kernel_rfl), trivial⟩
        exact sp_plain rfl ((o_move (vI ((k : Nat) : Int)) rfl (⟨(Keep.refl _ _), rfl⟩)))
       ·intro F1 w1 k1 hf hd
        obtain ⟨v413, e415, hl414⟩ : ∃ v, F1 43 = v ∧ RdL Enc.u8 w1 (Bl1 ++ O) v (xs) := ⟨_, rfl, hd 4 43 (by kernel_rfl)⟩
        have := hl414.len_le
        obtain ⟨F2, rfl⟩ := lit_of (F := F1) [(43, v413), (44, vI ((k : Nat) : Int))] ⟨e415, hd 5 44 (by kernel_rfl), trivial⟩
        exact sp_plain rfl ((o_idx Try.underlying28 s_5 .i64 ((k : Nat) : Int) k rfl rfl rfl hl414 (by omega) fun a416 hp417 => (⟨(Keep.refl _ _), ⟨a416, rfl, hp417⟩⟩)))
       ·intro F1 w1 k1 hf hd
        obtain ⟨a418, e420, hp419⟩ : ∃ a, F1 45 = .pointer (some a) ∧ PT Enc.u8 w1 (Bl1 ++ O) (.pointer (some a)) (xs[k]!) := hd 6 45 (by kernel_rfl)
        obtain ⟨F2, rfl⟩ := lit_of (F := F1) [(45, Value.pointer (some a418))] ⟨e420, trivial⟩
        exact sp_plain rfl ((o_loadB Try.underlying5 rfl rfl hp419 (⟨(Keep.refl _ _), rfl⟩)))
       intro F422 w423 k421 hT424 hF425
       have s426 := sl1.call k421
       have m427 : Mv Bl1 wl1 Bl1 w423 := Mv.of_keep k421
       have h_xs := h_xs.mv m427
       have h_ys := h_ys.mv m427
       have ho0_6 := ho0_6.mv m427 k421 (by simp)
       have hrd1_8 := hrd1_8.mv m427
       obtain ⟨F2, rfl⟩ := lit_of (F := F422) [(0, xs_v), (1, ys_v), (6, vo0_6), (7, vI ((i : Nat) : Int)), (8, vr1_8), (9, vI ((k : Nat) : Int)), (77, undef), (42, vB (xs[i]!)), (46, vB (xs[k]!))] ⟨hF425 0 (by kernel_rfl), hF425 1 (by kernel_rfl), hF425 6 (by kernel_rfl), hF425 7 (by kernel_rfl), hF425 8 (by kernel_rfl), hF425 9 (by kernel_rfl), hF425 77 (by kernel_rfl), hT424 3 42 (by kernel_rfl) (by decide), hT424 7 46 (by kernel_rfl) (by decide), trivial⟩
       clear hT424 hF425
       refine wl_s (o_xor8 (xs[i]!) (xs[k]!) rfl rfl (wl_s (o_callK (vs := [vB (1 : UInt8), vB ((xs[i]!) ^^^ (xs[k]!))]) enter_44 (c_refOver (O := Bl1 ++ O) (1 : UInt8) ((xs[i]!) ^^^ (xs[k]!)) w423 s426.lt) rfl s426 fun v429 w430 s431 m432 k433 r434 => (?_))))
       obtain rfl := r434
       have h_xs := h_xs.mv m432
       have h_ys := h_ys.mv m432
       have ho0_6 := ho0_6.mv m432 k433 (by simp)
       have hrd1_8 := hrd1_8.mv m432
       refine wl_s (o_assign (vB (refOver (1 : UInt8) ((xs[i]!) ^^^ (xs[k]!)))) rfl (wl_nil (thenQ_n (?_))))
       refine cw_region (by kernel_rfl) (wl_s (o_move (vr1_8) rfl (wl_s (o_move (vB (refOver (1 : UInt8) ((xs[i]!) ^^^ (xs[k]!)))) rfl (wl_s (o_move (xs_v) rfl (wl_s (o_move (vI ((k : Nat) : Int)) rfl (wl_s (o_idx Try.underlying28 s_5 .i64 ((k : Nat) : Int) k rfl rfl rfl h_xs (by omega) fun a435 hp436 => (wl_s (o_loadB Try.underlying5 rfl rfl hp436 (wl_s (o_callK (vs := [vB (refOver (1 : UInt8) ((xs[i]!) ^^^ (xs[k]!))), vB (xs[k]!)]) enter_21 (c_refMul (O := Bl1 ++ O) (refOver (1 : UInt8) ((xs[i]!) ^^^ (xs[k]!))) (xs[k]!) w430 s431.lt) rfl s431 fun v437 w438 s439 m440 k441 r442 => (?_)))))))))))))))
       obtain rfl := r442
       have h_xs := h_xs.mv m440
       have h_ys := h_ys.mv m440
       have ho0_6 := ho0_6.mv m440 k441 (by simp)
       have hrd1_8 := hrd1_8.mv m440
       refine wl_s (o_move (vB (refOver (1 : UInt8) ((xs[i]!) ^^^ (xs[k]!)))) rfl (wl_s (o_callK (vs := [vr1_8, vB (refMul (refOver (1 : UInt8) ((xs[i]!) ^^^ (xs[k]!))) (xs[k]!)), vB (refOver (1 : UInt8) ((xs[i]!) ^^^ (xs[k]!)))]) enter_47 (c_times (O := Bl1 ++ O) vr1_8 (refOne xs ys i k) (refMul (refOver (1 : UInt8) ((xs[i]!) ^^^ (xs[k]!))) (xs[k]!)) (refOver (1 : UInt8) ((xs[i]!) ^^^ (xs[k]!))) w438 hrd1_8 (by rw [refOne_len]; split <;> omega) s439.lt) rfl s439 fun v443 w444 s445 m446 k447 r448 => (?_))))
       obtain ⟨_, rfl, hl449⟩ := r448
       have := hl449.len_le
       have h_xs := h_xs.mv m446
       have h_ys := h_ys.mv m446
       have ho0_6 := ho0_6.mv m446 k447 (by simp)
       refine wl_s (o_assign (v443) rfl (wl_nil (blockQ_n (thenQ_n (?_)))))
       refine cw_region (by kernel_rfl) (wl_s (o_move (vI ((k : Nat) : Int)) rfl (wl_s (o_add .i64 ((k : Nat) : Int) (1 : Int) (((k + 1 : Nat) : Int)) rfl rfl (w64 (by omega) (by omega)) (wl_s (o_assign (vI ((k + 1 : Nat) : Int)) rfl (wl_nil (thenQ_n (?_)))))))))
       exact ⟨_, (by omega), (k + 1), v443, Bl1, (by first | omega | (simp; done) | (simp; omega) | simp_all), rfl, ⟨_, upds_self _ ⟨rfl, rfl, rfl, rfl, rfl, (by first | rfl | exact congrArg (Value.int _) (by first | omega | (simp))), rfl, trivial⟩⟩, s445, (by rw [show refOne xs ys i (k + 1) = times (refOne xs ys i k) (refMul (refOver (1 : UInt8) ((xs[i]!) ^^^ (xs[k]!))) (xs[k]!)) (refOver (1 : UInt8) ((xs[i]!) ^^^ (xs[k]!))) from by first | exact refOne_yes (by assumption) | exact refOne_no (by assumption)]; exact hl449), h_xs, h_ys, ho0_6, hB0_6⟩
      ·have hp450 : ((k : Nat) : Int) = ((i : Nat) : Int) := by first | simpa using hc403 | (have e := hc403; simp at e; omega)
       refine cw_skip (blockQ_n (thenQ_n (?_)))
       refine cw_region (by kernel_rfl) (wl_s (o_move (vI ((k : Nat) : Int)) rfl (wl_s (o_add .i64 ((k : Nat) : Int) (1 : Int) (((k + 1 : Nat) : Int)) rfl rfl (w64 (by omega) (by omega)) (wl_s (o_assign (vI ((k + 1 : Nat) : Int)) rfl (wl_nil (thenQ_n (?_)))))))))
       exact ⟨_, (by omega), (k + 1), vr1_8, Bl1, (by first | omega | (simp; done) | (simp; omega) | simp_all), rfl, ⟨_, upds_self _ ⟨rfl, rfl, rfl, rfl, rfl, (by first | rfl | exact congrArg (Value.int _) (by first | omega | (simp))), rfl, trivial⟩⟩, sl1, (by rw [show refOne xs ys i (k + 1) = refOne xs ys i k from by first | exact refOne_yes (by assumption) | exact refOne_no (by assumption)]; exact hrd1_8), h_xs, h_ys, ho0_6, hB0_6⟩
     ·have hp451 : (xs.length : Int) ≤ ((k : Nat) : Int) := by first | simpa using hc401 | (have e := hc401; simp at e; omega)
      obtain rfl : k = xs.length := by omega
      refine cw_exit (thenQ_x (thenQ_x (blockQ_x (thenQ_n (?_)))))
      refine cw_seq (?_)
      refine cw_region (by kernel_rfl) (wl_s (o_assign (vI (0 : Int)) rfl (wl_nil (thenQ_n (?_)))))
      refine cw_block (?_)
      have hone : (refOne xs ys i xs.length).length = xs.length := by rw [refOne_len]; simp; omega
      refine cw_loop (fun mI FI wI => ∃ (j : Nat) (vo2_6 : Value) (B : List Nat), j ≤ (refOne xs ys i xs.length).length ∧ mI = (refOne xs ys i xs.length).length - j ∧ (∃ F1, FI = upds F1 [(0, xs_v), (1, ys_v), (6, vo2_6), (7, vI ((i : Nat) : Int)), (8, vr1_8), (11, vI ((j : Nat) : Int)), (77, undef)]) ∧ St w O wI B ∧ Own Enc.u8 5 w.heap.size (B ++ O) wI vo2_6 (addS (refCoS xs ys i) (refOne xs ys i xs.length) j) ∧ (∀ b, vo2_6.ownBlock = some b → b ∈ B) ∧ RdL Enc.u8 wI (B ++ O) (xs_v) (xs) ∧ RdL Enc.u8 wI (B ++ O) (ys_v) (ys) ∧ RdL Enc.u8 wI (B ++ O) (vr1_8) (refOne xs ys i xs.length)) ((refOne xs ys i xs.length).length - (0)) ?_ ?_
      ·exact ⟨(0), vo0_6, Bl1, (by first | omega | (simp; done) | (simp; omega) | simp_all), rfl, ⟨_, upds_self _ ⟨rfl, rfl, rfl, rfl, rfl, (by first | rfl | exact congrArg (Value.int _) (by first | omega | (simp))), rfl, trivial⟩⟩, sl1, (by rw [show addS (refCoS xs ys i) (refOne xs ys i xs.length) (0) = refCoS xs ys i from rfl]; exact ho0_6), hB0_6, h_xs, h_ys, hrd1_8⟩
      ·intro ml2 F wl2 hI
       clear h_xs h_ys hrd1_8
       obtain ⟨j, vo2_6, Bl2, hr2_0, hm2, ⟨Fl2, rfl⟩, sl2, ho2_6, hB2_6, h_xs, h_ys, hrd1_8⟩ := hI
       refine cw_seq (?_)
       refine cw_seq (?_)
       refine cw_region (by kernel_rfl) (wl_s (o_move (vI ((j : Nat) : Int)) rfl (wl_s (o_move (vr1_8) rfl (wl_s (o_lenR Try.underlying28 rfl hrd1_8 (wl_s (o_lss .i64 ((j : Nat) : Int) ((refOne xs ys i xs.length).length : Int) rfl rfl (wl_nil (thenQ_n (?_)))))))))))
       refine cw_cond (decide (((j : Nat) : Int) < ((refOne xs ys i xs.length).length : Int))) rfl rfl (fun hc452 => ?_) (fun hc452 => ?_)
       ·have hp453 : ((j : Nat) : Int) < ((refOne xs ys i xs.length).length : Int) := by first | simpa using hc452 | (have e := hc452; simp at e; omega)
        refine cw_skip (thenQ_n (?_))
        refine cw_seq (?_)
        refine cw_block (?_)
        refine cw_draw' 11 _ _ [isV vo2_6, isV (vI ((j : Nat) : Int)), isV vo2_6, isV (vI ((j : Nat) : Int)), fun (vT : Value) (wT : World) => ∃ bT, vT = .pointer (some ⟨bT, j * 1, none⟩) ∧ vo2_6.ownBlock = some bT, isV (vB ((addS (refCoS xs ys i) (refOne xs ys i xs.length) j)[j]!)), fun (vT : Value) (wT : World) => RdL Enc.u8 wT (Bl2 ++ O) vT (refOne xs ys i xs.length), isV (vI ((j : Nat) : Int)), fun (vT : Value) (wT : World) => ∃ aT, vT = .pointer (some aT) ∧ PT Enc.u8 wT (Bl2 ++ O) (.pointer (some aT)) ((refOne xs ys i xs.length)[j]!), isV (vB ((refOne xs ys i xs.length)[j]!)), isV (vB (((addS (refCoS xs ys i) (refOne xs ys i xs.length) j)[j]!) ^^^ ((refOne xs ys i xs.length)[j]!)))] (by kernel_rfl) (by kernel_rfl) (by kernel_rfl) (by kernel_rfl) rfl rfl ⟨kI, kI, kI, kI, fun _ _ _ h _ => h, kI, fun _ _ _ h k => h.mv (Mv.of_keep k), kI, fun _ _ _ ⟨a, e, h⟩ k => ⟨a, e, h.mv (Mv.of_keep k)⟩, kI, kI, trivial⟩ ⟨?_, ?_, ?_, ?_, ?_, ?_, ?_, ?_, ?_, ?_, ?_, trivial⟩ ?_
        ·intro F1 w1 k1 hf hd
         obtain ⟨F2, rfl⟩ := lit_of (F := F1) [(6, vo2_6)] ⟨hf 6 (by kernel_rfl), trivial⟩
         exact sp_plain rfl ((o_move (vo2_6) rfl (⟨(Keep.refl _ _), rfl⟩)))
        ·intro F1 w1 k1 hf hd
         obtain ⟨F2, rfl⟩ := lit_of (F := F1) [(11, vI ((j : Nat) : Int))] ⟨hf 11 (by kernel_rfl), trivial⟩
         exact sp_plain rfl ((o_move (vI ((j : Nat) : Int)) rfl (⟨(Keep.refl _ _), rfl⟩)))
        ·intro F1 w1 k1 hf hd
         obtain ⟨F2, rfl⟩ := lit_of (F := F1) [(6, vo2_6)] ⟨hf 6 (by kernel_rfl), trivial⟩
         exact sp_plain rfl ((o_move (vo2_6) rfl (⟨(Keep.refl _ _), rfl⟩)))
        ·intro F1 w1 k1 hf hd
         obtain ⟨F2, rfl⟩ := lit_of (F := F1) [(11, vI ((j : Nat) : Int))] ⟨hf 11 (by kernel_rfl), trivial⟩
         exact sp_plain rfl ((o_move (vI ((j : Nat) : Int)) rfl (⟨(Keep.refl _ _), rfl⟩)))
        ·intro F1 w1 k1 hf hd
         have k0 := (Keep.drew [] wl2).trans k1
         have m1 : Mv Bl2 wl2 Bl2 w1 := Mv.of_keep k0
         have ho2_6 := ho2_6.mv m1 k0 (by simp)
         obtain ⟨F2, rfl⟩ := lit_of (F := F1) [(66, vo2_6), (67, vI ((j : Nat) : Int))] ⟨hd 2 66 (by kernel_rfl), hd 3 67 (by kernel_rfl), trivial⟩
         exact sp_plain rfl ((o_indexO Try.underlying28 s_5 .i64 ((j : Nat) : Int) j rfl rfl rfl ho2_6 (by first | omega | (simp only [List.length_set, List.length_append, List.length_cons, List.length_nil, List.length_replicate, addS_len, refCoS_len]; omega)) fun b454 hb455 => (⟨(Keep.refl _ _), ⟨_, rfl, hb455⟩⟩)))
        ·intro F1 w1 k1 hf hd
         have k0 := (Keep.drew [] wl2).trans k1
         have m1 : Mv Bl2 wl2 Bl2 w1 := Mv.of_keep k0
         have ho2_6 := ho2_6.mv m1 k0 (by simp)
         obtain ⟨b456, e458, hb457⟩ : ∃ b, F1 68 = .pointer (some ⟨b, j * 1, none⟩) ∧ vo2_6.ownBlock = some b := hd 4 68 (by kernel_rfl)
         obtain ⟨F2, rfl⟩ := lit_of (F := F1) [(68, Value.pointer (some ⟨b456, j * 1, none⟩))] ⟨e458, trivial⟩
         exact sp_plain rfl ((o_loadO8 Try.underlying5 rfl rfl ho2_6 hb457 (by first | omega | (simp only [List.length_set, List.length_append, List.length_cons, List.length_nil, List.length_replicate, addS_len, refCoS_len]; omega)) (⟨(Keep.refl _ _), rfl⟩)))
        ·intro F1 w1 k1 hf hd
         have k0 := (Keep.drew [] wl2).trans k1
         have m1 : Mv Bl2 wl2 Bl2 w1 := Mv.of_keep k0
         have hrd1_8 := hrd1_8.mv m1
         obtain ⟨F2, rfl⟩ := lit_of (F := F1) [(8, vr1_8)] ⟨hf 8 (by kernel_rfl), trivial⟩
         exact sp_plain rfl ((o_move (vr1_8) rfl (⟨(Keep.refl _ _), hrd1_8⟩)))
        ·intro F1 w1 k1 hf hd
         obtain ⟨F2, rfl⟩ := lit_of (F := F1) [(11, vI ((j : Nat) : Int))] ⟨hf 11 (by kernel_rfl), trivial⟩
         exact sp_plain rfl ((o_move (vI ((j : Nat) : Int)) rfl (⟨(Keep.refl _ _), rfl⟩)))
        ·intro F1 w1 k1 hf hd
         obtain ⟨v459, e461, hl460⟩ : ∃ v, F1 70 = v ∧ RdL Enc.u8 w1 (Bl2 ++ O) v (refOne xs ys i xs.length) := ⟨_, rfl, hd 6 70 (by kernel_rfl)⟩
         have := hl460.len_le
         obtain ⟨F2, rfl⟩ := lit_of (F := F1) [(70, v459), (71, vI ((j : Nat) : Int))] ⟨e461, hd 7 71 (by kernel_rfl), trivial⟩
         exact sp_plain rfl ((o_idx Try.underlying28 s_5 .i64 ((j : Nat) : Int) j rfl rfl rfl hl460 (by omega) fun a462 hp463 => (⟨(Keep.refl _ _), ⟨a462, rfl, hp463⟩⟩)))
        ·intro F1 w1 k1 hf hd
         obtain ⟨a464, e466, hp465⟩ : ∃ a, F1 72 = .pointer (some a) ∧ PT Enc.u8 w1 (Bl2 ++ O) (.pointer (some a)) ((refOne xs ys i xs.length)[j]!) := hd 8 72 (by kernel_rfl)
         obtain ⟨F2, rfl⟩ := lit_of (F := F1) [(72, Value.pointer (some a464))] ⟨e466, trivial⟩
         exact sp_plain rfl ((o_loadB Try.underlying5 rfl rfl hp465 (⟨(Keep.refl _ _), rfl⟩)))
        ·intro F1 w1 k1 hf hd
         obtain ⟨F2, rfl⟩ := lit_of (F := F1) [(69, vB ((addS (refCoS xs ys i) (refOne xs ys i xs.length) j)[j]!)), (73, vB ((refOne xs ys i xs.length)[j]!))] ⟨hd 5 69 (by kernel_rfl), hd 9 73 (by kernel_rfl), trivial⟩
         exact sp_plain rfl ((o_xor8 ((addS (refCoS xs ys i) (refOne xs ys i xs.length) j)[j]!) ((refOne xs ys i xs.length)[j]!) rfl rfl (⟨(Keep.refl _ _), rfl⟩)))
        intro F468 w469 k467 hT470 hF471
        have s472 := sl2.call k467
        have m473 : Mv Bl2 wl2 Bl2 w469 := Mv.of_keep k467
        have h_xs := h_xs.mv m473
        have h_ys := h_ys.mv m473
        have ho2_6 := ho2_6.mv m473 k467 (by simp)
        have hrd1_8 := hrd1_8.mv m473
        obtain ⟨F2, rfl⟩ := lit_of (F := F468) [(0, xs_v), (1, ys_v), (6, vo2_6), (7, vI ((i : Nat) : Int)), (8, vr1_8), (11, vI ((j : Nat) : Int)), (77, undef), (64, vo2_6), (65, vI ((j : Nat) : Int)), (74, vB (((addS (refCoS xs ys i) (refOne xs ys i xs.length) j)[j]!) ^^^ ((refOne xs ys i xs.length)[j]!)))] ⟨hF471 0 (by kernel_rfl), hF471 1 (by kernel_rfl), hF471 6 (by kernel_rfl), hF471 7 (by kernel_rfl), hF471 8 (by kernel_rfl), hF471 11 (by kernel_rfl), hF471 77 (by kernel_rfl), hT470 0 64 (by kernel_rfl) (by decide), hT470 1 65 (by kernel_rfl) (by decide), hT470 10 74 (by kernel_rfl) (by decide), trivial⟩
        clear hT470 hF471
        refine wl_s (o_indexO Try.underlying28 s_5 .i64 ((j : Nat) : Int) j rfl rfl rfl ho2_6 (by first | omega | (simp only [List.length_set, List.length_append, List.length_cons, List.length_nil, List.length_replicate, addS_len, refCoS_len]; omega)) fun b475 hb476 => (wl_n (o_storeO (((addS (refCoS xs ys i) (refOne xs ys i xs.length) j)[j]!) ^^^ ((refOne xs ys i xs.length)[j]!)) s_5 rfl rfl rfl ho2_6 hb476 (hB2_6 _ hb476) (by first | omega | (simp only [List.length_set, List.length_append, List.length_cons, List.length_nil, List.length_replicate, addS_len, refCoS_len]; omega)) rfl s472 fun w477 s478 m479 k480 bx481 => (?_))))
        have h_xs := h_xs.mv m479
        have h_ys := h_ys.mv m479
        have hrd1_8 := hrd1_8.mv m479
        refine wl_nil (blockQ_n (thenQ_n (?_)))
        refine cw_region (by kernel_rfl) (wl_s (o_move (vI ((j : Nat) : Int)) rfl (wl_s (o_add .i64 ((j : Nat) : Int) (1 : Int) (((j + 1 : Nat) : Int)) rfl rfl (w64 (by omega) (by omega)) (wl_s (o_assign (vI ((j + 1 : Nat) : Int)) rfl (wl_nil (thenQ_n (?_)))))))))
        exact ⟨_, (by omega), (j + 1), vo2_6, Bl2, (by first | omega | (simp; done) | (simp; omega) | simp_all), rfl, ⟨_, upds_self _ ⟨rfl, rfl, rfl, rfl, rfl, (by first | rfl | exact congrArg (Value.int _) (by first | omega | (simp))), rfl, trivial⟩⟩, s478, (by rw [show addS (refCoS xs ys i) (refOne xs ys i xs.length) (j + 1) = (addS (refCoS xs ys i) (refOne xs ys i xs.length) j).set j (((addS (refCoS xs ys i) (refOne xs ys i xs.length) j)[j]!) ^^^ ((refOne xs ys i xs.length)[j]!)) from rfl]; exact bx481), hB2_6, h_xs, h_ys, hrd1_8⟩
       ·have hp482 : ((refOne xs ys i xs.length).length : Int) ≤ ((j : Nat) : Int) := by first | simpa using hc452 | (have e := hc452; simp at e; omega)
        obtain rfl : j = (refOne xs ys i xs.length).length := by omega
        refine cw_exit (thenQ_x (thenQ_x (blockQ_x (blockQ_n (thenQ_n (?_))))))
        refine cw_region (by kernel_rfl) (wl_s (o_move (vI ((i : Nat) : Int)) rfl (wl_s (o_add .i64 ((i : Nat) : Int) (1 : Int) (((i + 1 : Nat) : Int)) rfl rfl (w64 (by omega) (by omega)) (wl_s (o_assign (vI ((i + 1 : Nat) : Int)) rfl (wl_nil (thenQ_n (?_)))))))))
        exact ⟨_, (by omega), (i + 1), vo2_6, Bl2, (by first | omega | (simp; done) | (simp; omega) | simp_all), rfl, ⟨_, upds_self _ ⟨rfl, rfl, rfl, (by first | rfl | exact congrArg (Value.int _) (by first | omega | (simp))), rfl, trivial⟩⟩, sl2, (by rw [show refCoS xs ys (i + 1) = addS (refCoS xs ys i) (refOne xs ys i xs.length) ((refOne xs ys i xs.length).length) from rfl]; exact ho2_6), hB2_6, h_xs, h_ys⟩
   ·have hp483 : (xs.length : Int) ≤ ((i : Nat) : Int) := by first | simpa using hc391 | (have e := hc391; simp at e; omega)
    obtain rfl : i = xs.length := by omega
    refine cw_exit (thenQ_x (thenQ_x (blockQ_x (thenQ_n (?_)))))
    refine cw_seq (?_)
    refine cw_region (by kernel_rfl) (wl_s (o_move (vo0_6) rfl (wl_s (o_assign (vo0_6) rfl (wl_s (o_assign (vI (0 : Int)) rfl (wl_nil (thenQ_n (?_)))))))))
    refine cw_ret (end_r rfl (res2 rfl rfl rfl rfl) (?_))
    have e : (refCoeff xs ys) = (refCoS xs ys xs.length, (0 : Int)) := by simp [refCoeff, *]
    exact ⟨_, rfl, sl0.keep, by rw [e]; exact ⟨vo0_6, rfl, ho0_6.pub sl0⟩⟩
set_option maxHeartbeats 4000000 in
set_option maxRecDepth 100000 in
theorem c_wrong {O : List Nat} (xs_v : Value) (xs : List UInt8) (ys_v : Value) (ys : List UInt8) (w : World) (h_xs : RdL Enc.u8 w O xs_v xs) (h_ys : RdL Enc.u8 w O ys_v ys) (hO : ∀ b ∈ O, b < w.heap.size) : CallsK Try.prog 45 [xs_v, ys_v] w (fun v _ => v = .bool (wrongM xs ys)) :=  by
 have lim_xs := h_xs.len_le
 have h_xs : RdL Enc.u8 w ([] ++ O) xs_v xs := h_xs
 have lim_ys := h_ys.len_le
 have h_ys : RdL Enc.u8 w ([] ++ O) ys_v ys := h_ys
 have s0 : St w O w [] := St.start hO
 refine callsK_of 26 Try.func45 rfl rfl (of_decide_eq_true rfl) (fun F0 => ?_)
 refine cw_seq (?_)
 refine cw_region (by kernel_rfl) (wl_s (o_assign (Value.bool false) rfl (wl_nil (thenQ_n (?_)))))
 refine cw_seq (?_)
 refine cw_region (by kernel_rfl) (wl_s (o_makeMap s0 fun b484 w485 e490 s486 m487 k488 bx489 => (?_)))
 clear e490
 have h_xs := h_xs.mv m487
 have h_ys := h_ys.mv m487
 refine wl_s (o_alloc [.map none] z_77 rfl s486 fun b491 w492 e497 s493 m494 k495 bx496 => (?_))
 have ne498 : b484 ≠ b491 := by have := bx489.lt; omega
 clear e497
 have h_xs := h_xs.mv m494
 have h_ys := h_ys.mv m494
 have bx489 := bx489.keep k495 (by simp)
 refine wl_n (o_store1 (Value.map (some b484)) rfl rfl rfl s_77 (by first | assumption | (repeat (first | exact List.mem_cons_self | assumption | apply List.mem_cons_of_mem))) bx496 (of_decide_eq_true rfl) s493 fun w499 s500 m501 k502 bx503 => (?_))
 have h_xs := h_xs.mv m501
 have h_ys := h_ys.mv m501
 have bx489 := bx489.keep k502 (by simp only [List.mem_singleton]; first | omega | exact ne498)
 refine wl_nil (thenQ_n (?_))
 refine cw_seq (?_)
 refine cw_region (by kernel_rfl) (wl_s (o_makeFunc (first := []) (captured := [.tmp 5]) [] [Value.pointer (some ⟨b491, 0, none⟩)] rfl rfl (wl_s (o_assign (Value.func (.func 65) #[] #[Value.pointer (some ⟨b491, 0, none⟩)]) rfl (wl_nil (thenQ_n (?_)))))))
 refine cw_seq (?_)
 refine cw_seq (?_)
 refine cw_region (by kernel_rfl) (wl_s (o_move (xs_v) rfl (wl_s (o_lenR Try.underlying28 rfl h_xs (wl_s (o_move (ys_v) rfl (wl_s (o_lenR Try.underlying28 rfl h_ys (wl_s (o_neq .i64 (xs.length : Int) (ys.length : Int) rfl rfl (wl_nil (thenQ_n (?_)))))))))))))
 refine cw_cond ((xs.length : Int) != (ys.length : Int)) rfl rfl (fun hc504 => ?_) (fun hc504 => ?_)
 ·have hp505 : (xs.length : Int) ≠ (ys.length : Int) := by first | simpa using hc504 | (have e := hc504; simp at e; omega)
  refine cw_seq (?_)
  refine cw_region (by kernel_rfl) (wl_s (o_assign (Value.bool true) rfl (wl_nil (thenQ_n (?_)))))
  refine cw_ret (thenQ_r (end_r rfl (res1 rfl rfl rfl) (?_)))
  have e : (wrongM xs ys) = true := by simp [wrongM, *]
  exact ⟨_, rfl, s500.keep, by rw [e]; exact rfl⟩
 ·have hp506 : (xs.length : Int) = (ys.length : Int) := by first | simpa using hc504 | (have e := hc504; simp at e; omega)
  refine cw_skip (thenQ_n (?_))
  refine cw_seq (?_)
  refine cw_seq (?_)
  refine cw_region (by kernel_rfl) (wl_s (o_move (xs_v) rfl (wl_s (o_lenR Try.underlying28 rfl h_xs (wl_s (o_move (vI (0 : Int)) rfl (wl_nil (thenQ_n (?_)))))))))
  refine cw_block (?_)
  refine cw_loop (fun mI FI wI => ∃ (k : Nat) (B : List Nat), k ≤ xs.length ∧ twice xs xs.length = scan (fun k => if (xs.take k).contains xs[k]! then some true else none) false k (xs.length - k) ∧ mI = xs.length - k ∧ (∃ F1, FI = upds F1 [(6, Value.func (.func 65) #[] #[Value.pointer (some ⟨b491, 0, none⟩)]), (16, xs_v), (17, vI (xs.length : Int)), (18, vI ((k : Nat) : Int)), (26, undef)]) ∧ St w O wI B ∧ RdL Enc.u8 wI (B ++ O) (xs_v) (xs) ∧ MapB wI b484 (xs.take k) ∧ b484 ∈ B ∧ Box wI b491 77 [Value.map (some b484)] ∧ b491 ∈ B) (xs.length - (0)) ?_ ?_
  ·exact ⟨(0), (b491 :: (b484 :: [])), (by first | omega | (simp; done) | (simp; omega) | simp_all), rfl, rfl, ⟨_, upds_self _ ⟨rfl, rfl, rfl, (by first | rfl | exact congrArg (Value.int _) (by first | omega | (simp))), rfl, trivial⟩⟩, s500, h_xs, (by rw [show xs.take (0) = [] from rfl]; exact bx489), (by first | assumption | (repeat (first | exact List.mem_cons_self | assumption | apply List.mem_cons_of_mem)) | (apply_assumption; assumption)), bx503, (by first | assumption | (repeat (first | exact List.mem_cons_self | assumption | apply List.mem_cons_of_mem)) | (apply_assumption; assumption))⟩
  ·intro ml0 F wl0 hI
   clear h_xs bx503
   obtain ⟨k, Bl0, hr0_0, hr0_1, hm0, ⟨Fl0, rfl⟩, sl0, h_xs, hbx_b484, hin_b484, bx503, hin_b491⟩ := hI
   refine cw_seq (?_)
   refine cw_region (by kernel_rfl) (wl_s (o_lss .i64 ((k : Nat) : Int) (xs.length : Int) rfl rfl (wl_nil (thenQ_n (?_)))))
   refine cw_seq (?_)
   refine cw_cond (decide (((k : Nat) : Int) < (xs.length : Int))) rfl rfl (fun hc507 => ?_) (fun hc507 => ?_)
   ·have hp508 : ((k : Nat) : Int) < (xs.length : Int) := by first | simpa using hc507 | (have e := hc507; simp at e; omega)
    refine cw_skip (thenQ_n (?_))
    refine cw_seq (?_)
    refine cw_block (?_)
    refine cw_seq (?_)
    refine cw_region (by kernel_rfl) (wl_s (o_idx Try.underlying28 s_5 .i64 ((k : Nat) : Int) k rfl rfl rfl h_xs (by omega) fun a509 hp510 => (wl_s (o_loadB Try.underlying5 rfl rfl hp510 (wl_s (o_assign (vB (xs[k]!)) rfl (wl_nil (thenQ_n (?_)))))))))
    refine cw_seq (?_)
    refine cw_region (by kernel_rfl) (wl_s (o_move (Value.func (.func 65) #[] #[Value.pointer (some ⟨b491, 0, none⟩)]) rfl (wl_s (o_move (vB (xs[k]!)) rfl (wl_s (o_callv [] [Value.pointer (some ⟨b491, 0, none⟩)] [vB (xs[k]!)] _ enter_65 rfl rfl (calls_of_cw 9 Try.func65 rfl rfl (of_decide_eq_true rfl) (fun F511 => ?_)) (fun _ _ h => h)))))))
    refine cw_seq (?_)
    refine cw_region (by kernel_rfl) (wl_s (o_assign (Value.bool false) rfl (wl_nil (thenQ_n (?_)))))
    refine cw_seq (?_)
    refine cw_seq (?_)
    refine cw_region (by kernel_rfl) (wl_s (o_loadBx Try.underlying77 rfl (Value.map (some b484)) rfl bx503 rfl (wl_s (o_move (vB (xs[k]!)) rfl (wl_s (o_lookupB Try.underlying77 Try.underlying5 z_4 rfl rfl hbx_b484 (wl_nil (thenQ_n (?_)))))))))
    refine cw_cond ((xs.take k).contains (xs[k]!)) rfl rfl (fun hc512 => ?_) (fun hc512 => ?_)
    ·have hp513 : ((xs.take k).contains (xs[k]!)) = true := by first | simpa using hc512 | (have e := hc512; simp at e; omega)
     refine cw_seq (?_)
     refine cw_region (by kernel_rfl) (wl_s (o_assign (Value.bool true) rfl (wl_nil (thenQ_n (?_)))))
     refine cw_ret (thenQ_r (end_r rfl (res1 rfl rfl rfl) (Exists.intro _ (And.intro rfl (?_)))))
     refine wl_nil (thenQ_n (?_))
     refine cw_cond true rfl rfl (fun _ => ?_) (fun h => by cases h)
     refine cw_seq (?_)
     refine cw_region (by kernel_rfl) (wl_s (o_assign (Value.bool true) rfl (wl_nil (thenQ_n (?_)))))
     refine cw_ret (blockQ_r (thenQ_r (thenQ_r (blockQ_r (thenQ_r (end_r rfl (res1 rfl rfl rfl) (?_)))))))
     have e : (wrongM xs ys) = true := by simp only [wrongM]; rw [if_neg (by simpa using by assumption), hr0_1]; exact scan_some (by omega) (by simp_all)
     exact ⟨_, rfl, sl0.keep, by rw [e]; exact rfl⟩
    ·have hp514 : ((xs.take k).contains (xs[k]!)) = false := by first | simpa using hc512 | (have e := hc512; simp at e; omega)
     refine cw_skip (thenQ_n (?_))
     refine cw_seq (?_)
     refine cw_region (by kernel_rfl) (wl_s (o_loadBx Try.underlying77 rfl (Value.map (some b484)) rfl bx503 rfl (wl_s (o_move (vB (xs[k]!)) rfl (wl_n (o_updateB Try.underlying77 Try.underlying5 rfl rfl rfl (by first | assumption | simp_all) hbx_b484 (by first | assumption | (repeat (first | exact List.mem_cons_self | assumption | apply List.mem_cons_of_mem))) sl0 fun w515 s516 m517 k518 bx519 => (?_)))))))
     have h_xs := h_xs.mv m517
     have bx503 := bx503.keep k518 (by simp only [List.mem_singleton]; exact (Ne.symm ne498))
     refine wl_nil (thenQ_n (?_))
     refine cw_seq (?_)
     refine cw_region (by kernel_rfl) (wl_s (o_assign (Value.bool false) rfl (wl_nil (thenQ_n (?_)))))
     refine cw_ret (end_r rfl (res1 rfl rfl rfl) (Exists.intro _ (And.intro rfl (?_))))
     refine wl_nil (thenQ_n (?_))
     refine cw_cond false rfl rfl (fun h => by cases h) (fun _ => ?_)
     refine cw_skip (blockQ_n (thenQ_n (?_)))
     refine cw_region (by kernel_rfl) (wl_s (o_add .i64 ((k : Nat) : Int) (1 : Int) (((k + 1 : Nat) : Int)) rfl rfl (w64 (by omega) (by omega)) (wl_s (o_move (vI ((k + 1 : Nat) : Int)) rfl (wl_nil (thenQ_n (?_)))))))
     exact ⟨_, (by omega), (k + 1), Bl0, (by first | omega | (simp; done) | (simp; omega) | simp_all), (hr0_1.trans (scan_none (by omega) (by simp_all))), rfl, ⟨_, upds_self _ ⟨rfl, rfl, rfl, (by first | rfl | exact congrArg (Value.int _) (by first | omega | (simp))), rfl, trivial⟩⟩, s516, h_xs, (by rw [show xs.take (k + 1) = (xs.take k) ++ [xs[k]!] from take_snoc (by omega)]; exact bx519), (by first | assumption | (repeat (first | exact List.mem_cons_self | assumption | apply List.mem_cons_of_mem)) | (apply_assumption; assumption)), bx503, (by first | assumption | (repeat (first | exact List.mem_cons_self | assumption | apply List.mem_cons_of_mem)) | (apply_assumption; assumption))⟩
   ·have hp520 : (xs.length : Int) ≤ ((k : Nat) : Int) := by first | simpa using hc507 | (have e := hc507; simp at e; omega)
    refine cw_exit (thenQ_x (thenQ_x (blockQ_x (thenQ_n (?_)))))
    refine cw_seq (?_)
    refine cw_region (by kernel_rfl) (wl_s (o_assign (Value.bool false) rfl (wl_nil (thenQ_n (?_)))))
    refine cw_ret (end_r rfl (res1 rfl rfl rfl) (?_))
    have e : (wrongM xs ys) = false := by simp only [wrongM]; rw [if_neg (by simpa using by assumption), hr0_1]; exact scan_end (by omega)
    exact ⟨_, rfl, sl0.keep, by rw [e]; exact rfl⟩
set_option maxHeartbeats 4000000 in
set_option maxRecDepth 100000 in
theorem c_zeros {O : List Nat} (xs_v : Value) (xs : List UInt8) (w : World) (h_xs : RdL Enc.u8 w O xs_v xs) (hpre0 : xs.length < 1000000) (hO : ∀ b ∈ O, b < w.heap.size) : CallsK Try.prog 46 [xs_v] w (fun v w' => ∃ (x0 : Value), v = x0 ∧ RdL Enc.u8 w' (O) x0 (zeros xs)) :=  by
 have lim_xs := h_xs.len_le
 have h_xs : RdL Enc.u8 w ([] ++ O) xs_v xs := h_xs
 have s0 : St w O w [] := St.start hO
 refine callsK_of 53 Try.func46 rfl rfl (of_decide_eq_true rfl) (fun F0 => ?_)
 refine cw_seq (?_)
 refine cw_region (by kernel_rfl) (wl_s (o_assign (Value.slice none 0 0) rfl (wl_nil (thenQ_n (?_)))))
 refine cw_seq (?_)
 refine cw_region (by kernel_rfl) (wl_s (o_move (xs_v) rfl (wl_s (o_lenR Try.underlying28 rfl h_xs (wl_s (o_add .i64 (xs.length : Int) (1 : Int) (((xs.length + 1 : Nat) : Int)) rfl rfl (w64 (by omega) (by omega)) (wl_s (o_make (E := Enc.u8) Try.underlying28 i_5 [vB (0 : UInt8)] rfl rfl (by decide) (0 : UInt8) (fun _ _ => rfl) .i64 .i64 (1 : Int) ((xs.length + 1 : Nat) : Int) 1 (xs.length + 1) rfl rfl rfl rfl (by omega) (by omega) (by simp only [maxLen]; omega) s0 fun v525 b527 w521 e528 hb529 s522 m523 k524 hl526 => (?_)))))))))
 have hB530 : ∀ b, v525.ownBlock = some b → b ∈ (b527 :: []) := fun b hb => by rw [hb529] at hb; cases hb; simp
 clear e528 hb529
 have h_xs := h_xs.mv m523
 refine wl_s (o_assign (v525) rfl (wl_nil (thenQ_n (?_))))
 refine cw_seq (?_)
 refine cw_region (by kernel_rfl) (wl_s (o_move (v525) rfl (wl_s (o_indexO Try.underlying28 s_5 .i64 (0 : Int) 0 rfl rfl rfl hl526 (by first | omega | (simp only [List.length_set, List.length_append, List.length_cons, List.length_nil, List.length_replicate, zrS_len, zrO_len]; omega)) fun b531 hb532 => (wl_n (o_storeO (1 : UInt8) s_5 rfl rfl rfl hl526 hb532 (hB530 _ hb532) (by first | omega | (simp only [List.length_set, List.length_append, List.length_cons, List.length_nil, List.length_replicate, zrS_len, zrO_len]; omega)) rfl s522 fun w533 s534 m535 k536 bx537 => (?_)))))))
 have h_xs := h_xs.mv m535
 refine wl_nil (thenQ_n (?_))
 refine cw_seq (?_)
 refine cw_seq (?_)
 refine cw_region (by kernel_rfl) (wl_s (o_move (xs_v) rfl (wl_s (o_lenR Try.underlying28 rfl h_xs (wl_s (o_move (vI (0 : Int)) rfl (wl_nil (thenQ_n (?_)))))))))
 refine cw_block (?_)
 refine cw_loop (fun mI FI wI => ∃ (i : Nat) (vo0_3 : Value) (B : List Nat), i ≤ xs.length ∧ mI = xs.length - i ∧ (∃ F1, FI = upds F1 [(3, vo0_3), (13, xs_v), (14, vI (xs.length : Int)), (15, vI ((i : Nat) : Int)), (53, undef)]) ∧ St w O wI B ∧ Own Enc.u8 5 w.heap.size (B ++ O) wI vo0_3 (zrO xs i) ∧ (∀ b, vo0_3.ownBlock = some b → b ∈ B) ∧ RdL Enc.u8 wI (B ++ O) (xs_v) (xs)) (xs.length - (0)) ?_ ?_
 ·exact ⟨(0), v525, (b527 :: []), (by first | omega | (simp; done) | (simp; omega) | simp_all), rfl, ⟨_, upds_self _ ⟨rfl, rfl, rfl, (by first | rfl | exact congrArg (Value.int _) (by first | omega | (simp))), rfl, trivial⟩⟩, s534, (by rw [show zrO xs (0) = (List.replicate 1 (0 : UInt8)).set 0 (1 : UInt8) from rfl]; exact bx537), hB530, h_xs⟩
 ·intro ml0 F wl0 hI
  clear h_xs
  obtain ⟨i, vo0_3, Bl0, hr0_0, hm0, ⟨Fl0, rfl⟩, sl0, ho0_3, hB0_3, h_xs⟩ := hI
  refine cw_seq (?_)
  refine cw_region (by kernel_rfl) (wl_s (o_lss .i64 ((i : Nat) : Int) (xs.length : Int) rfl rfl (wl_nil (thenQ_n (?_)))))
  refine cw_seq (?_)
  refine cw_cond (decide (((i : Nat) : Int) < (xs.length : Int))) rfl rfl (fun hc538 => ?_) (fun hc538 => ?_)
  ·have hp539 : ((i : Nat) : Int) < (xs.length : Int) := by first | simpa using hc538 | (have e := hc538; simp at e; omega)
   refine cw_skip (thenQ_n (?_))
   refine cw_seq (?_)
   refine cw_block (?_)
   refine cw_seq (?_)
   refine cw_region (by kernel_rfl) (wl_s (o_idx Try.underlying28 s_5 .i64 ((i : Nat) : Int) i rfl rfl rfl h_xs (by omega) fun a540 hp541 => (wl_s (o_loadB Try.underlying5 rfl rfl hp541 (wl_s (o_assign (vB (xs[i]!)) rfl (wl_nil (thenQ_n (?_)))))))))
   refine cw_seq (?_)
   refine cw_region (by kernel_rfl) (wl_s (o_move (vo0_3) rfl (wl_s (o_lit (E := Enc.u8) (xs := [.const (vB (0 : UInt8))]) Try.underlying28 s_5 z_5 (by decide) [vB (0 : UInt8)] [[vB (0 : UInt8)]] [(0 : UInt8)] rfl rfl rfl (Parts.cons rfl rfl (Parts.nil _ _ _)) (of_decide_eq_true rfl) sl0 fun v546 w542 s543 m544 k545 hl547 => (?_)))))
   have ho0_3 := ho0_3.mv m544 k545 (by simp)
   have h_xs := h_xs.mv m544
   have := hl547.len_le
   refine wl_s (o_append (E := Enc.u8) (l := zrO xs i) (m := [(0 : UInt8)]) Try.underlying28 i_5 rfl (by decide) rfl rfl ho0_3 hl547 (fun _ hb => .inl hb) hB0_3 (by simp [zrO_len]; omega) (by simp [zrO_len, maxLen]; omega) s543 fun v552 w548 B554 hB555 at556 sub557 s549 m550 k551 ho553 => (?_))
   have h_xs := h_xs.mv m550
   refine wl_s (o_assign (v552) rfl (wl_nil (thenQ_n (?_))))
   refine cw_seq (?_)
   refine cw_region (by kernel_rfl) (wl_s (o_move (v552) rfl (wl_s (o_lenO Try.underlying28 rfl ho553 (wl_s (o_sub .i64 (((zrO xs i) ++ ([(0 : UInt8)])).length : Int) (1 : Int) (((i + 1 : Nat) : Int)) rfl rfl (w64 (by omega) (by simp [zrO_len])) (wl_s (o_assign (vI ((i + 1 : Nat) : Int)) rfl (wl_nil (thenQ_n (?_)))))))))))
   refine cw_block (?_)
   have hzl : (zrO xs i ++ [0]).length = i + 2 := by simp [zrO_len]
   refine cw_loop (fun mI FI wI => ∃ (k : Nat) (vo1_3 : Value) (B : List Nat), k ≤ i + 2 ∧ mI = k ∧ (∃ F1, FI = upds F1 [(3, vo1_3), (5, vB (xs[i]!)), (6, vI ((k : Int) - 1)), (13, xs_v), (14, vI (xs.length : Int)), (15, vI ((i : Nat) : Int)), (53, undef)]) ∧ St w O wI B ∧ Own Enc.u8 5 w.heap.size (B ++ O) wI vo1_3 (zrS (zrO xs i ++ [0]) xs[i]! (i + 2 - k)) ∧ (∀ b, vo1_3.ownBlock = some b → b ∈ B) ∧ RdL Enc.u8 wI (B ++ O) (xs_v) (xs)) ((i + 2)) ?_ ?_
   ·exact ⟨(i + 2), v552, B554, (by first | omega | (simp; done) | (simp; omega) | simp_all), rfl, ⟨_, upds_self _ ⟨rfl, rfl, (by first | rfl | exact congrArg (Value.int _) (by first | omega | (omega))), rfl, rfl, rfl, rfl, trivial⟩⟩, s549, (by rw [show zrS (zrO xs i ++ [0]) xs[i]! (i + 2 - (i + 2)) = (zrO xs i) ++ ([(0 : UInt8)]) from by rw [Nat.sub_self]; rfl]; exact ho553), hB555, h_xs⟩
   ·intro ml1 F wl1 hI
    clear h_xs
    obtain ⟨k, vo1_3, Bl1, hr1_0, hm1, ⟨Fl1, rfl⟩, sl1, ho1_3, hB1_3, h_xs⟩ := hI
    refine cw_seq (?_)
    refine cw_seq (?_)
    refine cw_region (by kernel_rfl) (wl_s (o_move (vI ((k : Int) - 1)) rfl (wl_s (o_geq .i64 ((k : Int) - 1) (0 : Int) rfl rfl (wl_nil (thenQ_n (?_)))))))
    refine cw_cond (decide ((0 : Int) ≤ (k : Int) - 1)) rfl rfl (fun hc558 => ?_) (fun hc558 => ?_)
    ·have hp559 : (0 : Int) ≤ (k : Int) - 1 := by first | simpa using hc558 | (have e := hc558; simp at e; omega)
     obtain ⟨q, rfl⟩ : ∃ q, k = q + 1 := ⟨k - 1, by omega⟩
     rw [show ((q + 1 : Nat) : Int) - 1 = ((q : Nat) : Int) from by omega]
     refine cw_skip (thenQ_n (?_))
     refine cw_seq (?_)
     refine cw_block (?_)
     refine cw_seq (?_)
     refine cw_region (by kernel_rfl) (wl_s (o_move (vo1_3) rfl (wl_s (o_move (vI ((q : Nat) : Int)) rfl (wl_s (o_move (vo1_3) rfl (wl_s (o_move (vI ((q : Nat) : Int)) rfl (wl_s (o_indexO Try.underlying28 s_5 .i64 ((q : Nat) : Int) q rfl rfl rfl ho1_3 (by first | omega | (simp only [List.length_set, List.length_append, List.length_cons, List.length_nil, List.length_replicate, zrS_len, zrO_len]; omega)) fun b560 hb561 => (wl_s (o_loadO8 Try.underlying5 rfl rfl ho1_3 hb561 (by first | omega | (simp only [List.length_set, List.length_append, List.length_cons, List.length_nil, List.length_replicate, zrS_len, zrO_len]; omega)) (wl_s (o_move (vB (xs[i]!)) rfl (wl_s (o_callK (vs := [vB ((zrS (zrO xs i ++ [0]) xs[i]! (i + 2 - (q + 1)))[q]!), vB (xs[i]!)]) enter_20 (c_mul (O := Bl1 ++ O) ((zrS (zrO xs i ++ [0]) xs[i]! (i + 2 - (q + 1)))[q]!) (xs[i]!) wl1 sl1.lt) rfl sl1 fun v562 w563 s564 m565 k566 r567 => (?_)))))))))))))))))
     obtain rfl := r567
     have ho1_3 := ho1_3.mv m565 k566 (by simp)
     have h_xs := h_xs.mv m565
     refine wl_s (o_indexO Try.underlying28 s_5 .i64 ((q : Nat) : Int) q rfl rfl rfl ho1_3 (by first | omega | (simp only [List.length_set, List.length_append, List.length_cons, List.length_nil, List.length_replicate, zrS_len, zrO_len]; omega)) fun b568 hb569 => (wl_n (o_storeO (gmul ((zrS (zrO xs i ++ [0]) xs[i]! (i + 2 - (q + 1)))[q]!) (xs[i]!)) s_5 rfl rfl rfl ho1_3 hb569 (hB1_3 _ hb569) (by first | omega | (simp only [List.length_set, List.length_append, List.length_cons, List.length_nil, List.length_replicate, zrS_len, zrO_len]; omega)) rfl s564 fun w570 s571 m572 k573 bx574 => (?_))))
     have h_xs := h_xs.mv m572
     refine wl_nil (thenQ_n (?_))
     refine cw_seq (?_)
     refine cw_region (by kernel_rfl) (wl_s (o_move (vI ((q : Nat) : Int)) rfl (wl_s (o_gtr .i64 ((q : Nat) : Int) (0 : Int) rfl rfl (wl_nil (thenQ_n (?_)))))))
     refine cw_cond (decide ((0 : Int) < ((q : Nat) : Int))) rfl rfl (fun hc575 => ?_) (fun hc575 => ?_)
     ·have hp576 : (0 : Int) < ((q : Nat) : Int) := by first | simpa using hc575 | (have e := hc575; simp at e; omega)
      refine cw_draw' 9 _ _ [isV vo1_3, isV (vI ((q : Nat) : Int)), fun (vT : Value) (wT : World) => ∃ bT, vT = .pointer (some ⟨bT, q * 1, none⟩) ∧ vo1_3.ownBlock = some bT, isV (vB (((zrS (zrO xs i ++ [0]) xs[i]! (i + 2 - (q + 1))).set q (gmul ((zrS (zrO xs i ++ [0]) xs[i]! (i + 2 - (q + 1)))[q]!) (xs[i]!)))[q]!)), isV vo1_3, isV (vI ((q : Nat) : Int)), isV (vI ((q - 1 : Nat) : Int)), fun (vT : Value) (wT : World) => ∃ bT, vT = .pointer (some ⟨bT, (q - 1) * 1, none⟩) ∧ vo1_3.ownBlock = some bT, isV (vB (((zrS (zrO xs i ++ [0]) xs[i]! (i + 2 - (q + 1))).set q (gmul ((zrS (zrO xs i ++ [0]) xs[i]! (i + 2 - (q + 1)))[q]!) (xs[i]!)))[q - 1]!))] (by kernel_rfl) (by kernel_rfl) (by kernel_rfl) (by kernel_rfl) rfl rfl ⟨kI, kI, fun _ _ _ h _ => h, kI, kI, kI, kI, fun _ _ _ h _ => h, kI, trivial⟩ ⟨?_, ?_, ?_, ?_, ?_, ?_, ?_, ?_, ?_, trivial⟩ ?_
      ·intro F1 w1 k1 hf hd
       obtain ⟨F2, rfl⟩ := lit_of (F := F1) [(3, vo1_3)] ⟨hf 3 (by kernel_rfl), trivial⟩
       exact sp_plain rfl ((o_move (vo1_3) rfl (⟨(Keep.refl _ _), rfl⟩)))
      ·intro F1 w1 k1 hf hd
       obtain ⟨F2, rfl⟩ := lit_of (F := F1) [(6, vI ((q : Nat) : Int))] ⟨hf 6 (by kernel_rfl), trivial⟩
       exact sp_plain rfl ((o_move (vI ((q : Nat) : Int)) rfl (⟨(Keep.refl _ _), rfl⟩)))
      ·intro F1 w1 k1 hf hd
       have k0 := (Keep.drew [] w570).trans k1
       have m1 : Mv Bl1 w570 Bl1 w1 := Mv.of_keep k0
       have bx574 := bx574.mv m1 k0 (by simp)
       obtain ⟨F2, rfl⟩ := lit_of (F := F1) [(40, vo1_3), (41, vI ((q : Nat) : Int))] ⟨hd 0 40 (by kernel_rfl), hd 1 41 (by kernel_rfl), trivial⟩
       exact sp_plain rfl ((o_indexO Try.underlying28 s_5 .i64 ((q : Nat) : Int) q rfl rfl rfl bx574 (by first | omega | (simp only [List.length_set, List.length_append, List.length_cons, List.length_nil, List.length_replicate, zrS_len, zrO_len]; omega)) fun b577 hb578 => (⟨(Keep.refl _ _), ⟨_, rfl, hb578⟩⟩)))
      ·intro F1 w1 k1 hf hd
       have k0 := (Keep.drew [] w570).trans k1
       have m1 : Mv Bl1 w570 Bl1 w1 := Mv.of_keep k0
       have bx574 := bx574.mv m1 k0 (by simp)
       obtain ⟨b579, e581, hb580⟩ : ∃ b, F1 42 = .pointer (some ⟨b, q * 1, none⟩) ∧ vo1_3.ownBlock = some b := hd 2 42 (by kernel_rfl)
       obtain ⟨F2, rfl⟩ := lit_of (F := F1) [(42, Value.pointer (some ⟨b579, q * 1, none⟩))] ⟨e581, trivial⟩
       exact sp_plain rfl ((o_loadO8 Try.underlying5 rfl rfl bx574 hb580 (by first | omega | (simp only [List.length_set, List.length_append, List.length_cons, List.length_nil, List.length_replicate, zrS_len, zrO_len]; omega)) (⟨(Keep.refl _ _), rfl⟩)))
      ·intro F1 w1 k1 hf hd
       obtain ⟨F2, rfl⟩ := lit_of (F := F1) [(3, vo1_3)] ⟨hf 3 (by kernel_rfl), trivial⟩
       exact sp_plain rfl ((o_move (vo1_3) rfl (⟨(Keep.refl _ _), rfl⟩)))
      ·intro F1 w1 k1 hf hd
       obtain ⟨F2, rfl⟩ := lit_of (F := F1) [(6, vI ((q : Nat) : Int))] ⟨hf 6 (by kernel_rfl), trivial⟩
       exact sp_plain rfl ((o_move (vI ((q : Nat) : Int)) rfl (⟨(Keep.refl _ _), rfl⟩)))
      ·intro F1 w1 k1 hf hd
       obtain ⟨F2, rfl⟩ := lit_of (F := F1) [(45, vI ((q : Nat) : Int))] ⟨hd 5 45 (by kernel_rfl), trivial⟩
       exact sp_plain rfl ((o_sub .i64 ((q : Nat) : Int) (1 : Int) (((q - 1 : Nat) : Int)) rfl rfl (w64 (by omega) (by omega)) (⟨(Keep.refl _ _), rfl⟩)))
      ·intro F1 w1 k1 hf hd
       have k0 := (Keep.drew [] w570).trans k1
       have m1 : Mv Bl1 w570 Bl1 w1 := Mv.of_keep k0
       have bx574 := bx574.mv m1 k0 (by simp)
       obtain ⟨F2, rfl⟩ := lit_of (F := F1) [(44, vo1_3), (46, vI ((q - 1 : Nat) : Int))] ⟨hd 4 44 (by kernel_rfl), hd 6 46 (by kernel_rfl), trivial⟩
       exact sp_plain rfl ((o_indexO Try.underlying28 s_5 .i64 ((q - 1 : Nat) : Int) (q - 1) rfl rfl rfl bx574 (by first | omega | (simp only [List.length_set, List.length_append, List.length_cons, List.length_nil, List.length_replicate, zrS_len, zrO_len]; omega)) fun b582 hb583 => (⟨(Keep.refl _ _), ⟨_, rfl, hb583⟩⟩)))
      ·intro F1 w1 k1 hf hd
       have k0 := (Keep.drew [] w570).trans k1
       have m1 : Mv Bl1 w570 Bl1 w1 := Mv.of_keep k0
       have bx574 := bx574.mv m1 k0 (by simp)
       obtain ⟨b584, e586, hb585⟩ : ∃ b, F1 47 = .pointer (some ⟨b, (q - 1) * 1, none⟩) ∧ vo1_3.ownBlock = some b := hd 7 47 (by kernel_rfl)
       obtain ⟨F2, rfl⟩ := lit_of (F := F1) [(47, Value.pointer (some ⟨b584, (q - 1) * 1, none⟩))] ⟨e586, trivial⟩
       exact sp_plain rfl ((o_loadO8 Try.underlying5 rfl rfl bx574 hb585 (by first | omega | (simp only [List.length_set, List.length_append, List.length_cons, List.length_nil, List.length_replicate, zrS_len, zrO_len]; omega)) (⟨(Keep.refl _ _), rfl⟩)))
      intro F588 w589 k587 hT590 hF591
      have s592 := s571.call k587
      have m593 : Mv Bl1 w570 Bl1 w589 := Mv.of_keep k587
      have bx574 := bx574.mv m593 k587 (by simp)
      have h_xs := h_xs.mv m593
      obtain ⟨F2, rfl⟩ := lit_of (F := F588) [(3, vo1_3), (5, vB (xs[i]!)), (6, vI ((q : Nat) : Int)), (13, xs_v), (14, vI (xs.length : Int)), (15, vI ((i : Nat) : Int)), (53, undef), (40, vo1_3), (41, vI ((q : Nat) : Int)), (43, vB (((zrS (zrO xs i ++ [0]) xs[i]! (i + 2 - (q + 1))).set q (gmul ((zrS (zrO xs i ++ [0]) xs[i]! (i + 2 - (q + 1)))[q]!) (xs[i]!)))[q]!)), (48, vB (((zrS (zrO xs i ++ [0]) xs[i]! (i + 2 - (q + 1))).set q (gmul ((zrS (zrO xs i ++ [0]) xs[i]! (i + 2 - (q + 1)))[q]!) (xs[i]!)))[q - 1]!))] ⟨hF591 3 (by kernel_rfl), hF591 5 (by kernel_rfl), hF591 6 (by kernel_rfl), hF591 13 (by kernel_rfl), hF591 14 (by kernel_rfl), hF591 15 (by kernel_rfl), hF591 53 (by kernel_rfl), hT590 0 40 (by kernel_rfl) (by decide), hT590 1 41 (by kernel_rfl) (by decide), hT590 3 43 (by kernel_rfl) (by decide), hT590 8 48 (by kernel_rfl) (by decide), trivial⟩
      clear hT590 hF591
      refine wl_s (o_xor8 (((zrS (zrO xs i ++ [0]) xs[i]! (i + 2 - (q + 1))).set q (gmul ((zrS (zrO xs i ++ [0]) xs[i]! (i + 2 - (q + 1)))[q]!) (xs[i]!)))[q]!) (((zrS (zrO xs i ++ [0]) xs[i]! (i + 2 - (q + 1))).set q (gmul ((zrS (zrO xs i ++ [0]) xs[i]! (i + 2 - (q + 1)))[q]!) (xs[i]!)))[q - 1]!) rfl rfl (wl_s (o_indexO Try.underlying28 s_5 .i64 ((q : Nat) : Int) q rfl rfl rfl bx574 (by first | omega | (simp only [List.length_set, List.length_append, List.length_cons, List.length_nil, List.length_replicate, zrS_len, zrO_len]; omega)) fun b595 hb596 => (wl_n (o_storeO ((((zrS (zrO xs i ++ [0]) xs[i]! (i + 2 - (q + 1))).set q (gmul ((zrS (zrO xs i ++ [0]) xs[i]! (i + 2 - (q + 1)))[q]!) (xs[i]!)))[q]!) ^^^ (((zrS (zrO xs i ++ [0]) xs[i]! (i + 2 - (q + 1))).set q (gmul ((zrS (zrO xs i ++ [0]) xs[i]! (i + 2 - (q + 1)))[q]!) (xs[i]!)))[q - 1]!)) s_5 rfl rfl rfl bx574 hb596 (hB1_3 _ hb596) (by first | omega | (simp only [List.length_set, List.length_append, List.length_cons, List.length_nil, List.length_replicate, zrS_len, zrO_len]; omega)) rfl s592 fun w597 s598 m599 k600 bx601 => (?_))))))
      have h_xs := h_xs.mv m599
      refine wl_nil (blockQ_n (thenQ_n (?_)))
      refine cw_region (by kernel_rfl) (wl_s (o_move (vI ((q : Nat) : Int)) rfl (wl_s (o_sub .i64 ((q : Nat) : Int) (1 : Int) (((q : Nat) : Int) - (1 : Int)) rfl rfl (w64 (by omega) (by omega)) (wl_s (o_assign (vI (((q : Nat) : Int) - (1 : Int))) rfl (wl_nil (thenQ_n (?_)))))))))
      exact ⟨_, (by omega), (q), vo1_3, Bl1, (by first | omega | (simp; done) | (simp; omega) | simp_all), rfl, ⟨_, upds_self _ ⟨rfl, rfl, (by first | rfl | exact congrArg (Value.int _) (by first | omega | (simp))), rfl, rfl, rfl, rfl, trivial⟩⟩, s598, (by rw [show zrS (zrO xs i ++ [0]) xs[i]! (i + 2 - (q)) = ((zrS (zrO xs i ++ [0]) xs[i]! (i + 2 - (q + 1))).set q (gmul ((zrS (zrO xs i ++ [0]) xs[i]! (i + 2 - (q + 1)))[q]!) (xs[i]!))).set q ((((zrS (zrO xs i ++ [0]) xs[i]! (i + 2 - (q + 1))).set q (gmul ((zrS (zrO xs i ++ [0]) xs[i]! (i + 2 - (q + 1)))[q]!) (xs[i]!)))[q]!) ^^^ (((zrS (zrO xs i ++ [0]) xs[i]! (i + 2 - (q + 1))).set q (gmul ((zrS (zrO xs i ++ [0]) xs[i]! (i + 2 - (q + 1)))[q]!) (xs[i]!)))[q - 1]!)) from by first | exact zrS_pos hzl.symm (by omega) (by assumption) | exact zrS_zero hzl.symm (by omega) (by assumption)]; exact bx601), hB1_3, h_xs⟩
     ·have hp602 : ((q : Nat) : Int) ≤ (0 : Int) := by first | simpa using hc575 | (have e := hc575; simp at e; omega)
      refine cw_skip (blockQ_n (thenQ_n (?_)))
      refine cw_region (by kernel_rfl) (wl_s (o_move (vI ((q : Nat) : Int)) rfl (wl_s (o_sub .i64 ((q : Nat) : Int) (1 : Int) (((q : Nat) : Int) - (1 : Int)) rfl rfl (w64 (by omega) (by omega)) (wl_s (o_assign (vI (((q : Nat) : Int) - (1 : Int))) rfl (wl_nil (thenQ_n (?_)))))))))
      exact ⟨_, (by omega), (q), vo1_3, Bl1, (by first | omega | (simp; done) | (simp; omega) | simp_all), rfl, ⟨_, upds_self _ ⟨rfl, rfl, (by first | rfl | exact congrArg (Value.int _) (by first | omega | (simp))), rfl, rfl, rfl, rfl, trivial⟩⟩, s571, (by rw [show zrS (zrO xs i ++ [0]) xs[i]! (i + 2 - (q)) = (zrS (zrO xs i ++ [0]) xs[i]! (i + 2 - (q + 1))).set q (gmul ((zrS (zrO xs i ++ [0]) xs[i]! (i + 2 - (q + 1)))[q]!) (xs[i]!)) from by first | exact zrS_pos hzl.symm (by omega) (by assumption) | exact zrS_zero hzl.symm (by omega) (by assumption)]; exact bx574), hB1_3, h_xs⟩
    ·have hp603 : (k : Int) - 1 < (0 : Int) := by first | simpa using hc558 | (have e := hc558; simp at e; omega)
     obtain rfl : k = 0 := by omega
     refine cw_exit (thenQ_x (thenQ_x (blockQ_x (blockQ_n (thenQ_n (?_))))))
     refine cw_region (by kernel_rfl) (wl_s (o_add .i64 ((i : Nat) : Int) (1 : Int) (((i + 1 : Nat) : Int)) rfl rfl (w64 (by omega) (by omega)) (wl_s (o_move (vI ((i + 1 : Nat) : Int)) rfl (wl_nil (thenQ_n (?_)))))))
     exact ⟨_, (by omega), (i + 1), vo1_3, Bl1, (by first | omega | (simp; done) | (simp; omega) | simp_all), rfl, ⟨_, upds_self _ ⟨rfl, rfl, rfl, (by first | rfl | exact congrArg (Value.int _) (by first | omega | (simp))), rfl, trivial⟩⟩, sl1, (by rw [show zrO xs (i + 1) = zrS (zrO xs i ++ [0]) xs[i]! (i + 2 - 0) from by rw [Nat.sub_zero, zrO, hzl]]; exact ho1_3), hB1_3, h_xs⟩
  ·have hp604 : (xs.length : Int) ≤ ((i : Nat) : Int) := by first | simpa using hc538 | (have e := hc538; simp at e; omega)
   obtain rfl : i = xs.length := by omega
   refine cw_exit (thenQ_x (thenQ_x (blockQ_x (thenQ_n (?_)))))
   refine cw_seq (?_)
   refine cw_region (by kernel_rfl) (wl_s (o_move (vo0_3) rfl (wl_s (o_assign (vo0_3) rfl (wl_nil (thenQ_n (?_)))))))
   refine cw_ret (end_r rfl (res1 rfl rfl rfl) (?_))
   have e : (zeros xs) = (zrO xs xs.length) := rfl
   exact ⟨_, rfl, sl0.keep, by rw [e]; exact ⟨vo0_3, rfl, ho0_3.pub sl0⟩⟩

end Go.Proofs.Yteajcgfcnbdmgaa
