/- Walks, printed by gen.py. -/
import Derived.Test.YteajcgfcnbdmgaaWaB
namespace Go.Proofs.Yteajcgfcnbdmgaa
open Go.Fw Go.RowKit

set_option maxHeartbeats 4000000 in
set_option maxRecDepth 100000 in
theorem c_refThrough {O : List Nat} (xs_v : Value) (xs : List UInt8) (ys_v : Value) (ys : List UInt8) (at_ : UInt8) (w : World) (h_xs : RdL Enc.u8 w O xs_v xs) (h_ys : RdL Enc.u8 w O ys_v ys) (hO : ∀ b ∈ O, b < w.heap.size) : CallsK Try.prog 23 [xs_v, ys_v, vB at_] w (fun v _ => v = .tuple #[vB ((refThrough xs ys at_).1), vI ((refThrough xs ys at_).2)]) :=  by
  have lim_xs := h_xs.len_le
  have h_xs : RdL Enc.u8 w ([] ++ O) xs_v xs := h_xs
  have lim_ys := h_ys.len_le
  have h_ys : RdL Enc.u8 w ([] ++ O) ys_v ys := h_ys
  have s0 : St w O w [] := St.start hO
  refine callsK_of 57 Try.func23 rfl rfl (of_decide_eq_true rfl) (fun F0 => ?_)
  refine cw_seq (?_)
  refine cw_region (by kernel_rfl) (wl_s (o_assign (vB (0 : UInt8)) rfl (wl_s (o_assign (vI (0 : Int)) rfl (wl_nil (thenQ_n (?_)))))))
  refine cw_seq (?_)
  refine cw_seq (?_)
  refine cw_region (by kernel_rfl) (wl_s (o_move (xs_v) rfl (wl_s (o_move (ys_v) rfl (wl_s (o_callK (vs := [xs_v, ys_v]) enter_43 (c_refPoints (O := [] ++ O) xs_v xs ys_v ys w h_xs h_ys s0.lt) rfl s0 fun v245 w246 s247 m248 k249 r250 => (?_)))))))
  obtain rfl := r250
  have h_xs := h_xs.mv m248
  have h_ys := h_ys.mv m248
  refine wl_s (o_not (refPoints xs ys) rfl (wl_nil (thenQ_n (?_))))
  refine cw_cond (!(refPoints xs ys)) rfl rfl (fun hc251 => ?_) (fun hc251 => ?_)
  · have hp252 : (refPoints xs ys) = false := by first | simpa using hc251 | (have e := hc251; simp at e; omega)
    refine cw_seq (?_)
    refine cw_region (by kernel_rfl) (wl_s (o_assign (vB (0 : UInt8)) rfl (wl_s (o_assign (vI (1 : Int)) rfl (wl_nil (thenQ_n (?_)))))))
    refine cw_ret (thenQ_r (end_r rfl (res2 rfl rfl rfl rfl) (?_)))
    have e : (refThrough xs ys at_) = ((0 : UInt8), (1 : Int)) := by simp [refThrough, *]
    exact ⟨_, rfl, s247.keep, by rw [e]; exact rfl⟩
  · have hp253 : (refPoints xs ys) = true := by first | simpa using hc251 | (have e := hc251; simp at e; omega)
    have hxy := refPoints_len (by simpa using hc251)
    refine cw_skip (thenQ_n (?_))
    refine cw_seq (?_)
    refine cw_region (by kernel_rfl) (wl_s (o_assign (vB (0 : UInt8)) rfl (wl_nil (thenQ_n (?_)))))
    refine cw_seq (?_)
    refine cw_seq (?_)
    refine cw_region (by kernel_rfl) (wl_s (o_assign (vI (0 : Int)) rfl (wl_nil (thenQ_n (?_)))))
    refine cw_block (?_)
    refine cw_loop (fun mI FI wI => ∃ (i : Nat) (B : List Nat), i ≤ xs.length ∧ mI = xs.length - i ∧ (∃ F1, FI = upds F1 [(0, xs_v), (1, ys_v), (2, vB at_), (8, vB (refThY xs ys at_ i)), (9, vI ((i : Nat) : Int)), (57, undef)]) ∧ St w O wI B ∧ RdL Enc.u8 wI (B ++ O) (xs_v) (xs) ∧ RdL Enc.u8 wI (B ++ O) (ys_v) (ys)) (xs.length - (0)) ?_ ?_
    · exact ⟨(0), [], (by first | omega | (simp; done) | (simp; omega) | simp_all), rfl, ⟨_, upds_self _ ⟨rfl, rfl, rfl, (congrArg vB (by first | rfl | (rfl))), (by first | rfl | exact congrArg (Value.int _) (by first | omega | (simp))), rfl, trivial⟩⟩, s247, h_xs, h_ys⟩
    · intro ml0 F wl0 hI
      clear h_xs h_ys
      obtain ⟨i, Bl0, hr0_0, hm0, ⟨Fl0, rfl⟩, sl0, h_xs, h_ys⟩ := hI
      refine cw_seq (?_)
      refine cw_seq (?_)
      refine cw_region (by kernel_rfl) (wl_s (o_move (vI ((i : Nat) : Int)) rfl (wl_s (o_move (xs_v) rfl (wl_s (o_lenR Try.underlying28 rfl h_xs (wl_s (o_lss .i64 ((i : Nat) : Int) (xs.length : Int) rfl rfl (wl_nil (thenQ_n (?_)))))))))))
      refine cw_cond (decide (((i : Nat) : Int) < (xs.length : Int))) rfl rfl (fun hc254 => ?_) (fun hc254 => ?_)
      · have hp255 : ((i : Nat) : Int) < (xs.length : Int) := by first | simpa using hc254 | (have e := hc254; simp at e; omega)
        refine cw_skip (thenQ_n (?_))
        refine cw_seq (?_)
        refine cw_block (?_)
        refine cw_seq (?_)
        refine cw_region (by kernel_rfl) (wl_s (o_move (ys_v) rfl (wl_s (o_move (vI ((i : Nat) : Int)) rfl (wl_s (o_idx Try.underlying28 s_5 .i64 ((i : Nat) : Int) i rfl rfl rfl h_ys (by omega) fun a256 hp257 => (wl_s (o_loadB Try.underlying5 rfl rfl hp257 (wl_s (o_assign (vB (ys[i]!)) rfl (wl_nil (thenQ_n (?_)))))))))))))
        refine cw_seq (?_)
        refine cw_seq (?_)
        refine cw_region (by kernel_rfl) (wl_s (o_assign (vI (0 : Int)) rfl (wl_nil (thenQ_n (?_)))))
        refine cw_block (?_)
        refine cw_loop (fun mI FI wI => ∃ (k : Nat) (B : List Nat), k ≤ xs.length ∧ mI = xs.length - k ∧ (∃ F1, FI = upds F1 [(0, xs_v), (1, ys_v), (2, vB at_), (8, vB (refThY xs ys at_ i)), (9, vI ((i : Nat) : Int)), (10, vB (refThN xs at_ i ys[i]! k)), (11, vI ((k : Nat) : Int)), (57, undef)]) ∧ St w O wI B ∧ RdL Enc.u8 wI (B ++ O) (xs_v) (xs) ∧ RdL Enc.u8 wI (B ++ O) (ys_v) (ys)) (xs.length - (0)) ?_ ?_
        · exact ⟨(0), Bl0, (by first | omega | (simp; done) | (simp; omega) | simp_all), rfl, ⟨_, upds_self _ ⟨rfl, rfl, rfl, rfl, rfl, (congrArg vB (by first | rfl | (rfl))), (by first | rfl | exact congrArg (Value.int _) (by first | omega | (simp))), rfl, trivial⟩⟩, sl0, h_xs, h_ys⟩
        · intro ml1 F wl1 hI
          clear h_xs h_ys
          obtain ⟨k, Bl1, hr1_0, hm1, ⟨Fl1, rfl⟩, sl1, h_xs, h_ys⟩ := hI
          refine cw_seq (?_)
          refine cw_seq (?_)
          refine cw_region (by kernel_rfl) (wl_s (o_move (vI ((k : Nat) : Int)) rfl (wl_s (o_move (xs_v) rfl (wl_s (o_lenR Try.underlying28 rfl h_xs (wl_s (o_lss .i64 ((k : Nat) : Int) (xs.length : Int) rfl rfl (wl_nil (thenQ_n (?_)))))))))))
          refine cw_cond (decide (((k : Nat) : Int) < (xs.length : Int))) rfl rfl (fun hc258 => ?_) (fun hc258 => ?_)
          · have hp259 : ((k : Nat) : Int) < (xs.length : Int) := by first | simpa using hc258 | (have e := hc258; simp at e; omega)
            refine cw_skip (thenQ_n (?_))
            refine cw_seq (?_)
            refine cw_block (?_)
            refine cw_seq (?_)
            refine cw_region (by kernel_rfl) (wl_s (o_move (vI ((k : Nat) : Int)) rfl (wl_s (o_move (vI ((i : Nat) : Int)) rfl (wl_s (o_neq .i64 ((k : Nat) : Int) ((i : Nat) : Int) rfl rfl (wl_nil (thenQ_n (?_)))))))))
            refine cw_cond (((k : Nat) : Int) != ((i : Nat) : Int)) rfl rfl (fun hc260 => ?_) (fun hc260 => ?_)
            · have hp261 : ((k : Nat) : Int) ≠ ((i : Nat) : Int) := by first | simpa using hc260 | (have e := hc260; simp at e; omega)
              refine cw_draw' 17 _ _ [fun v _ => v = vB (refThN xs at_ i ys[i]! k), fun v _ => v = vB at_, fun v w => RdL Enc.u8 w (Bl1 ++ O) v (xs), fun v _ => v = vI ((k : Nat) : Int), fun v w => ∃ a, v = .pointer (some a) ∧ PT Enc.u8 w (Bl1 ++ O) (.pointer (some a)) (xs[k]!), fun v _ => v = vB (xs[k]!), fun v _ => v = vB (at_ ^^^ (xs[k]!)), fun v w => RdL Enc.u8 w (Bl1 ++ O) v (xs), fun v _ => v = vI ((i : Nat) : Int), fun v w => ∃ a, v = .pointer (some a) ∧ PT Enc.u8 w (Bl1 ++ O) (.pointer (some a)) (xs[i]!), fun v _ => v = vB (xs[i]!), fun v w => RdL Enc.u8 w (Bl1 ++ O) v (xs), fun v _ => v = vI ((k : Nat) : Int), fun v w => ∃ a, v = .pointer (some a) ∧ PT Enc.u8 w (Bl1 ++ O) (.pointer (some a)) (xs[k]!), fun v _ => v = vB (xs[k]!), fun v _ => v = vB ((xs[i]!) ^^^ (xs[k]!)), fun v _ => v = vB (refOver (at_ ^^^ (xs[k]!)) ((xs[i]!) ^^^ (xs[k]!)))] (by kernel_rfl) (by kernel_rfl) (by kernel_rfl) (by kernel_rfl) rfl rfl ⟨fun _ _ _ h _ => h, fun _ _ _ h _ => h, fun _ _ _ h k => h.mv (Mv.of_keep k), fun _ _ _ h _ => h, fun _ _ _ ⟨a, e, h⟩ k => ⟨a, e, h.mv (Mv.of_keep k)⟩, fun _ _ _ h _ => h, fun _ _ _ h _ => h, fun _ _ _ h k => h.mv (Mv.of_keep k), fun _ _ _ h _ => h, fun _ _ _ ⟨a, e, h⟩ k => ⟨a, e, h.mv (Mv.of_keep k)⟩, fun _ _ _ h _ => h, fun _ _ _ h k => h.mv (Mv.of_keep k), fun _ _ _ h _ => h, fun _ _ _ ⟨a, e, h⟩ k => ⟨a, e, h.mv (Mv.of_keep k)⟩, fun _ _ _ h _ => h, fun _ _ _ h _ => h, fun _ _ _ h _ => h, trivial⟩ ⟨?_, ?_, ?_, ?_, ?_, ?_, ?_, ?_, ?_, ?_, ?_, ?_, ?_, ?_, ?_, ?_, ?_, trivial⟩ ?_
              · intro F1 w1 k1 hf hd
                have k0 := (Keep.drew [] wl1).trans k1
                have s1 := sl1.call k0
                have m1 : Mv Bl1 wl1 Bl1 w1 := Mv.of_keep k0
                obtain ⟨F2, rfl⟩ := lit_of (F := F1) [(10, vB (refThN xs at_ i ys[i]! k))] ⟨hf 10 (by kernel_rfl), trivial⟩
                exact sp_plain rfl ((o_move (vB (refThN xs at_ i ys[i]! k)) rfl (⟨(Keep.refl _ _), rfl⟩)))
              · intro F1 w1 k1 hf hd
                have k0 := (Keep.drew [] wl1).trans k1
                have s1 := sl1.call k0
                have m1 : Mv Bl1 wl1 Bl1 w1 := Mv.of_keep k0
                obtain ⟨F2, rfl⟩ := lit_of (F := F1) [(2, vB at_)] ⟨hf 2 (by kernel_rfl), trivial⟩
                exact sp_plain rfl ((o_move (vB at_) rfl (⟨(Keep.refl _ _), rfl⟩)))
              · intro F1 w1 k1 hf hd
                have k0 := (Keep.drew [] wl1).trans k1
                have s1 := sl1.call k0
                have m1 : Mv Bl1 wl1 Bl1 w1 := Mv.of_keep k0
                have h_xs := h_xs.mv m1
                obtain ⟨F2, rfl⟩ := lit_of (F := F1) [(0, xs_v)] ⟨hf 0 (by kernel_rfl), trivial⟩
                exact sp_plain rfl ((o_move (xs_v) rfl (⟨(Keep.refl _ _), h_xs⟩)))
              · intro F1 w1 k1 hf hd
                have k0 := (Keep.drew [] wl1).trans k1
                have s1 := sl1.call k0
                have m1 : Mv Bl1 wl1 Bl1 w1 := Mv.of_keep k0
                obtain ⟨F2, rfl⟩ := lit_of (F := F1) [(11, vI ((k : Nat) : Int))] ⟨hf 11 (by kernel_rfl), trivial⟩
                exact sp_plain rfl ((o_move (vI ((k : Nat) : Int)) rfl (⟨(Keep.refl _ _), rfl⟩)))
              · intro F1 w1 k1 hf hd
                have k0 := (Keep.drew [] wl1).trans k1
                have s1 := sl1.call k0
                have m1 : Mv Bl1 wl1 Bl1 w1 := Mv.of_keep k0
                obtain ⟨v262, e264, hl263⟩ : ∃ v, F1 37 = v ∧ RdL Enc.u8 w1 (Bl1 ++ O) v (xs) := ⟨_, rfl, hd 2 37 (by kernel_rfl)⟩
                have := hl263.len_le
                obtain ⟨F2, rfl⟩ := lit_of (F := F1) [(37, v262), (38, vI ((k : Nat) : Int))] ⟨e264, hd 3 38 (by kernel_rfl), trivial⟩
                exact sp_plain rfl ((o_idx Try.underlying28 s_5 .i64 ((k : Nat) : Int) k rfl rfl rfl hl263 (by omega) fun a265 hp266 => (⟨(Keep.refl _ _), ⟨a265, rfl, hp266⟩⟩)))
              · intro F1 w1 k1 hf hd
                have k0 := (Keep.drew [] wl1).trans k1
                have s1 := sl1.call k0
                have m1 : Mv Bl1 wl1 Bl1 w1 := Mv.of_keep k0
                obtain ⟨a267, e269, hp268⟩ : ∃ a, F1 39 = .pointer (some a) ∧ PT Enc.u8 w1 (Bl1 ++ O) (.pointer (some a)) (xs[k]!) := hd 4 39 (by kernel_rfl)
                obtain ⟨F2, rfl⟩ := lit_of (F := F1) [(39, Value.pointer (some a267))] ⟨e269, trivial⟩
                exact sp_plain rfl ((o_loadB Try.underlying5 rfl rfl hp268 (⟨(Keep.refl _ _), rfl⟩)))
              · intro F1 w1 k1 hf hd
                have k0 := (Keep.drew [] wl1).trans k1
                have s1 := sl1.call k0
                have m1 : Mv Bl1 wl1 Bl1 w1 := Mv.of_keep k0
                obtain ⟨F2, rfl⟩ := lit_of (F := F1) [(36, vB at_), (40, vB (xs[k]!))] ⟨hd 1 36 (by kernel_rfl), hd 5 40 (by kernel_rfl), trivial⟩
                exact sp_plain rfl ((o_xor8 at_ (xs[k]!) rfl rfl (⟨(Keep.refl _ _), rfl⟩)))
              · intro F1 w1 k1 hf hd
                have k0 := (Keep.drew [] wl1).trans k1
                have s1 := sl1.call k0
                have m1 : Mv Bl1 wl1 Bl1 w1 := Mv.of_keep k0
                have h_xs := h_xs.mv m1
                obtain ⟨F2, rfl⟩ := lit_of (F := F1) [(0, xs_v)] ⟨hf 0 (by kernel_rfl), trivial⟩
                exact sp_plain rfl ((o_move (xs_v) rfl (⟨(Keep.refl _ _), h_xs⟩)))
              · intro F1 w1 k1 hf hd
                have k0 := (Keep.drew [] wl1).trans k1
                have s1 := sl1.call k0
                have m1 : Mv Bl1 wl1 Bl1 w1 := Mv.of_keep k0
                obtain ⟨F2, rfl⟩ := lit_of (F := F1) [(9, vI ((i : Nat) : Int))] ⟨hf 9 (by kernel_rfl), trivial⟩
                exact sp_plain rfl ((o_move (vI ((i : Nat) : Int)) rfl (⟨(Keep.refl _ _), rfl⟩)))
              · intro F1 w1 k1 hf hd
                have k0 := (Keep.drew [] wl1).trans k1
                have s1 := sl1.call k0
                have m1 : Mv Bl1 wl1 Bl1 w1 := Mv.of_keep k0
                obtain ⟨v270, e272, hl271⟩ : ∃ v, F1 42 = v ∧ RdL Enc.u8 w1 (Bl1 ++ O) v (xs) := ⟨_, rfl, hd 7 42 (by kernel_rfl)⟩
                have := hl271.len_le
                obtain ⟨F2, rfl⟩ := lit_of (F := F1) [(42, v270), (43, vI ((i : Nat) : Int))] ⟨e272, hd 8 43 (by kernel_rfl), trivial⟩
                exact sp_plain rfl ((o_idx Try.underlying28 s_5 .i64 ((i : Nat) : Int) i rfl rfl rfl hl271 (by omega) fun a273 hp274 => (⟨(Keep.refl _ _), ⟨a273, rfl, hp274⟩⟩)))
              · intro F1 w1 k1 hf hd
                have k0 := (Keep.drew [] wl1).trans k1
                have s1 := sl1.call k0
                have m1 : Mv Bl1 wl1 Bl1 w1 := Mv.of_keep k0
                obtain ⟨a275, e277, hp276⟩ : ∃ a, F1 44 = .pointer (some a) ∧ PT Enc.u8 w1 (Bl1 ++ O) (.pointer (some a)) (xs[i]!) := hd 9 44 (by kernel_rfl)
                obtain ⟨F2, rfl⟩ := lit_of (F := F1) [(44, Value.pointer (some a275))] ⟨e277, trivial⟩
                exact sp_plain rfl ((o_loadB Try.underlying5 rfl rfl hp276 (⟨(Keep.refl _ _), rfl⟩)))
              · intro F1 w1 k1 hf hd
                have k0 := (Keep.drew [] wl1).trans k1
                have s1 := sl1.call k0
                have m1 : Mv Bl1 wl1 Bl1 w1 := Mv.of_keep k0
                have h_xs := h_xs.mv m1
                obtain ⟨F2, rfl⟩ := lit_of (F := F1) [(0, xs_v)] ⟨hf 0 (by kernel_rfl), trivial⟩
                exact sp_plain rfl ((o_move (xs_v) rfl (⟨(Keep.refl _ _), h_xs⟩)))
              · intro F1 w1 k1 hf hd
                have k0 := (Keep.drew [] wl1).trans k1
                have s1 := sl1.call k0
                have m1 : Mv Bl1 wl1 Bl1 w1 := Mv.of_keep k0
                obtain ⟨F2, rfl⟩ := lit_of (F := F1) [(11, vI ((k : Nat) : Int))] ⟨hf 11 (by kernel_rfl), trivial⟩
                exact sp_plain rfl ((o_move (vI ((k : Nat) : Int)) rfl (⟨(Keep.refl _ _), rfl⟩)))
              · intro F1 w1 k1 hf hd
                have k0 := (Keep.drew [] wl1).trans k1
                have s1 := sl1.call k0
                have m1 : Mv Bl1 wl1 Bl1 w1 := Mv.of_keep k0
                obtain ⟨v278, e280, hl279⟩ : ∃ v, F1 46 = v ∧ RdL Enc.u8 w1 (Bl1 ++ O) v (xs) := ⟨_, rfl, hd 11 46 (by kernel_rfl)⟩
                have := hl279.len_le
                obtain ⟨F2, rfl⟩ := lit_of (F := F1) [(46, v278), (47, vI ((k : Nat) : Int))] ⟨e280, hd 12 47 (by kernel_rfl), trivial⟩
                exact sp_plain rfl ((o_idx Try.underlying28 s_5 .i64 ((k : Nat) : Int) k rfl rfl rfl hl279 (by omega) fun a281 hp282 => (⟨(Keep.refl _ _), ⟨a281, rfl, hp282⟩⟩)))
              · intro F1 w1 k1 hf hd
                have k0 := (Keep.drew [] wl1).trans k1
                have s1 := sl1.call k0
                have m1 : Mv Bl1 wl1 Bl1 w1 := Mv.of_keep k0
                obtain ⟨a283, e285, hp284⟩ : ∃ a, F1 48 = .pointer (some a) ∧ PT Enc.u8 w1 (Bl1 ++ O) (.pointer (some a)) (xs[k]!) := hd 13 48 (by kernel_rfl)
                obtain ⟨F2, rfl⟩ := lit_of (F := F1) [(48, Value.pointer (some a283))] ⟨e285, trivial⟩
                exact sp_plain rfl ((o_loadB Try.underlying5 rfl rfl hp284 (⟨(Keep.refl _ _), rfl⟩)))
              · intro F1 w1 k1 hf hd
                have k0 := (Keep.drew [] wl1).trans k1
                have s1 := sl1.call k0
                have m1 : Mv Bl1 wl1 Bl1 w1 := Mv.of_keep k0
                obtain ⟨F2, rfl⟩ := lit_of (F := F1) [(45, vB (xs[i]!)), (49, vB (xs[k]!))] ⟨hd 10 45 (by kernel_rfl), hd 14 49 (by kernel_rfl), trivial⟩
                exact sp_plain rfl ((o_xor8 (xs[i]!) (xs[k]!) rfl rfl (⟨(Keep.refl _ _), rfl⟩)))
              · intro F1 w1 k1 hf hd
                have k0 := (Keep.drew [] wl1).trans k1
                have s1 := sl1.call k0
                have m1 : Mv Bl1 wl1 Bl1 w1 := Mv.of_keep k0
                obtain ⟨F2, rfl⟩ := lit_of (F := F1) [(41, vB (at_ ^^^ (xs[k]!))), (50, vB ((xs[i]!) ^^^ (xs[k]!)))] ⟨hd 6 41 (by kernel_rfl), hd 15 50 (by kernel_rfl), trivial⟩
                refine sp_plain rfl ((o_callK (vs := [vB (at_ ^^^ (xs[k]!)), vB ((xs[i]!) ^^^ (xs[k]!))]) enter_44 (c_refOver (O := Bl1 ++ O) (at_ ^^^ (xs[k]!)) ((xs[i]!) ^^^ (xs[k]!)) w1 s1.lt) rfl s1 fun v286 w287 s288 m289 k290 r291 => (?_)))
                obtain rfl := r291
                exact ⟨k290, rfl⟩
              intro F293 w294 k292 hT295 hF296
              have s297 := sl1.call k292
              have m298 : Mv Bl1 wl1 Bl1 w294 := Mv.of_keep k292
              have h_xs := h_xs.mv m298
              have h_ys := h_ys.mv m298
              obtain ⟨v300, e302, hl301⟩ : ∃ v, F293 37 = v ∧ RdL Enc.u8 w294 (Bl1 ++ O) v (xs) := ⟨_, rfl, hT295 2 37 (by kernel_rfl) (by decide)⟩
              have := hl301.len_le
              obtain ⟨a303, e305, hp304⟩ : ∃ a, F293 39 = .pointer (some a) ∧ PT Enc.u8 w294 (Bl1 ++ O) (.pointer (some a)) (xs[k]!) := hT295 4 39 (by kernel_rfl) (by decide)
              obtain ⟨v306, e308, hl307⟩ : ∃ v, F293 42 = v ∧ RdL Enc.u8 w294 (Bl1 ++ O) v (xs) := ⟨_, rfl, hT295 7 42 (by kernel_rfl) (by decide)⟩
              have := hl307.len_le
              obtain ⟨a309, e311, hp310⟩ : ∃ a, F293 44 = .pointer (some a) ∧ PT Enc.u8 w294 (Bl1 ++ O) (.pointer (some a)) (xs[i]!) := hT295 9 44 (by kernel_rfl) (by decide)
              obtain ⟨v312, e314, hl313⟩ : ∃ v, F293 46 = v ∧ RdL Enc.u8 w294 (Bl1 ++ O) v (xs) := ⟨_, rfl, hT295 11 46 (by kernel_rfl) (by decide)⟩
              have := hl313.len_le
              obtain ⟨a315, e317, hp316⟩ : ∃ a, F293 48 = .pointer (some a) ∧ PT Enc.u8 w294 (Bl1 ++ O) (.pointer (some a)) (xs[k]!) := hT295 13 48 (by kernel_rfl) (by decide)
              obtain ⟨F2, rfl⟩ := lit_of (F := F293) [(0, xs_v), (1, ys_v), (2, vB at_), (8, vB (refThY xs ys at_ i)), (9, vI ((i : Nat) : Int)), (10, vB (refThN xs at_ i ys[i]! k)), (11, vI ((k : Nat) : Int)), (26, vI ((k : Nat) : Int)), (27, xs_v), (28, vI (xs.length : Int)), (29, Value.bool (decide (((k : Nat) : Int) < (xs.length : Int)))), (32, vI ((k : Nat) : Int)), (33, vI ((i : Nat) : Int)), (34, Value.bool (((k : Nat) : Int) != ((i : Nat) : Int))), (57, undef), (35, vB (refThN xs at_ i ys[i]! k)), (36, vB at_), (37, v300), (38, vI ((k : Nat) : Int)), (39, Value.pointer (some a303)), (40, vB (xs[k]!)), (41, vB (at_ ^^^ (xs[k]!))), (42, v306), (43, vI ((i : Nat) : Int)), (44, Value.pointer (some a309)), (45, vB (xs[i]!)), (46, v312), (47, vI ((k : Nat) : Int)), (48, Value.pointer (some a315)), (49, vB (xs[k]!)), (50, vB ((xs[i]!) ^^^ (xs[k]!))), (51, vB (refOver (at_ ^^^ (xs[k]!)) ((xs[i]!) ^^^ (xs[k]!))))] ⟨hF296 0 (by kernel_rfl), hF296 1 (by kernel_rfl), hF296 2 (by kernel_rfl), hF296 8 (by kernel_rfl), hF296 9 (by kernel_rfl), hF296 10 (by kernel_rfl), hF296 11 (by kernel_rfl), hF296 26 (by kernel_rfl), hF296 27 (by kernel_rfl), hF296 28 (by kernel_rfl), hF296 29 (by kernel_rfl), hF296 32 (by kernel_rfl), hF296 33 (by kernel_rfl), hF296 34 (by kernel_rfl), hF296 57 (by kernel_rfl), hT295 0 35 (by kernel_rfl) (by decide), hT295 1 36 (by kernel_rfl) (by decide), e302, hT295 3 38 (by kernel_rfl) (by decide), e305, hT295 5 40 (by kernel_rfl) (by decide), hT295 6 41 (by kernel_rfl) (by decide), e308, hT295 8 43 (by kernel_rfl) (by decide), e311, hT295 10 45 (by kernel_rfl) (by decide), e314, hT295 12 47 (by kernel_rfl) (by decide), e317, hT295 14 49 (by kernel_rfl) (by decide), hT295 15 50 (by kernel_rfl) (by decide), hT295 16 51 (by kernel_rfl) (by decide), trivial⟩
              clear hT295 hF296
              refine wl_s (o_callK (vs := [vB (refThN xs at_ i ys[i]! k), vB (refOver (at_ ^^^ (xs[k]!)) ((xs[i]!) ^^^ (xs[k]!)))]) enter_21 (c_refMul (O := Bl1 ++ O) (refThN xs at_ i ys[i]! k) (refOver (at_ ^^^ (xs[k]!)) ((xs[i]!) ^^^ (xs[k]!))) w294 s297.lt) rfl s297 fun v318 w319 s320 m321 k322 r323 => (?_))
              obtain rfl := r323
              have h_xs := h_xs.mv m321
              have h_ys := h_ys.mv m321
              have hl301 := hl301.mv m321
              have hp304 := hp304.mv m321
              have hl307 := hl307.mv m321
              have hp310 := hp310.mv m321
              have hl313 := hl313.mv m321
              have hp316 := hp316.mv m321
              refine wl_s (o_assign (vB (refMul (refThN xs at_ i ys[i]! k) (refOver (at_ ^^^ (xs[k]!)) ((xs[i]!) ^^^ (xs[k]!))))) rfl (wl_nil (blockQ_n (thenQ_n (?_)))))
              refine cw_region (by kernel_rfl) (wl_s (o_move (vI ((k : Nat) : Int)) rfl (wl_s (o_add .i64 ((k : Nat) : Int) (1 : Int) (((k + 1 : Nat) : Int)) rfl rfl (w64 (by omega) (by omega)) (wl_s (o_assign (vI ((k + 1 : Nat) : Int)) rfl (wl_nil (thenQ_n (?_)))))))))
              exact ⟨_, (by omega), (k + 1), Bl1, (by first | omega | (simp; done) | (simp; omega) | simp_all), rfl, ⟨_, upds_self _ ⟨rfl, rfl, rfl, rfl, rfl, (congrArg vB (by first | exact (refThN_yes (by assumption)).symm | exact (refThN_no (by assumption)).symm)), (by first | rfl | exact congrArg (Value.int _) (by first | omega | (simp))), rfl, trivial⟩⟩, s320, h_xs, h_ys⟩
            · have hp324 : ((k : Nat) : Int) = ((i : Nat) : Int) := by first | simpa using hc260 | (have e := hc260; simp at e; omega)
              refine cw_skip (blockQ_n (thenQ_n (?_)))
              refine cw_region (by kernel_rfl) (wl_s (o_move (vI ((k : Nat) : Int)) rfl (wl_s (o_add .i64 ((k : Nat) : Int) (1 : Int) (((k + 1 : Nat) : Int)) rfl rfl (w64 (by omega) (by omega)) (wl_s (o_assign (vI ((k + 1 : Nat) : Int)) rfl (wl_nil (thenQ_n (?_)))))))))
              exact ⟨_, (by omega), (k + 1), Bl1, (by first | omega | (simp; done) | (simp; omega) | simp_all), rfl, ⟨_, upds_self _ ⟨rfl, rfl, rfl, rfl, rfl, (congrArg vB (by first | exact (refThN_yes (by assumption)).symm | exact (refThN_no (by assumption)).symm)), (by first | rfl | exact congrArg (Value.int _) (by first | omega | (simp))), rfl, trivial⟩⟩, sl1, h_xs, h_ys⟩
          · have hp325 : (xs.length : Int) ≤ ((k : Nat) : Int) := by first | simpa using hc258 | (have e := hc258; simp at e; omega)
            obtain rfl : k = xs.length := by omega
            refine cw_exit (thenQ_x (thenQ_x (blockQ_x (thenQ_n (?_)))))
            refine cw_region (by kernel_rfl) (wl_s (o_move (vB (refThY xs ys at_ i)) rfl (wl_s (o_move (vB (refThN xs at_ i ys[i]! xs.length)) rfl (wl_s (o_xor8 (refThY xs ys at_ i) (refThN xs at_ i ys[i]! xs.length) rfl rfl (wl_s (o_assign (vB ((refThY xs ys at_ i) ^^^ (refThN xs at_ i ys[i]! xs.length))) rfl (wl_nil (blockQ_n (thenQ_n (?_))))))))))))
            refine cw_region (by kernel_rfl) (wl_s (o_move (vI ((i : Nat) : Int)) rfl (wl_s (o_add .i64 ((i : Nat) : Int) (1 : Int) (((i + 1 : Nat) : Int)) rfl rfl (w64 (by omega) (by omega)) (wl_s (o_assign (vI ((i + 1 : Nat) : Int)) rfl (wl_nil (thenQ_n (?_)))))))))
            exact ⟨_, (by omega), (i + 1), Bl1, (by first | omega | (simp; done) | (simp; omega) | simp_all), rfl, ⟨_, upds_self _ ⟨rfl, rfl, rfl, (congrArg vB (by first | rfl | (rfl))), (by first | rfl | exact congrArg (Value.int _) (by first | omega | (simp))), rfl, trivial⟩⟩, sl1, h_xs, h_ys⟩
      · have hp326 : (xs.length : Int) ≤ ((i : Nat) : Int) := by first | simpa using hc254 | (have e := hc254; simp at e; omega)
        obtain rfl : i = xs.length := by omega
        refine cw_exit (thenQ_x (thenQ_x (blockQ_x (thenQ_n (?_)))))
        refine cw_seq (?_)
        refine cw_region (by kernel_rfl) (wl_s (o_move (vB (refThY xs ys at_ xs.length)) rfl (wl_s (o_assign (vB (refThY xs ys at_ xs.length)) rfl (wl_s (o_assign (vI (0 : Int)) rfl (wl_nil (thenQ_n (?_)))))))))
        refine cw_ret (end_r rfl (res2 rfl rfl rfl rfl) (?_))
        have e : (refThrough xs ys at_) = (refThY xs ys at_ xs.length, (0 : Int)) := by simp [refThrough, *]
        exact ⟨_, rfl, sl0.keep, by rw [e]; exact rfl⟩
set_option maxHeartbeats 4000000 in
set_option maxRecDepth 100000 in
theorem c_times {O : List Nat} (l_v : Value) (l : List UInt8) (a : UInt8) (b : UInt8) (w : World) (h_l : RdL Enc.u8 w O l_v l) (hpre0 : l.length < 1000000) (hO : ∀ b ∈ O, b < w.heap.size) : CallsK Try.prog 47 [l_v, vB a, vB b] w (fun v w' => ∃ (x0 : Value), v = x0 ∧ RdL Enc.u8 w' (O) x0 (times l a b)) :=  by
  have lim_l := h_l.len_le
  have h_l : RdL Enc.u8 w ([] ++ O) l_v l := h_l
  have s0 : St w O w [] := St.start hO
  refine callsK_of 50 Try.func47 rfl rfl (of_decide_eq_true rfl) (fun F0 => ?_)
  refine cw_seq (?_)
  refine cw_region (by kernel_rfl) (wl_s (o_assign (Value.slice none 0 0) rfl (wl_nil (thenQ_n (?_)))))
  refine cw_seq (?_)
  refine cw_region (by kernel_rfl) (wl_s (o_move (l_v) rfl (wl_s (o_lenR Try.underlying28 rfl h_l (wl_s (o_add .i64 (l.length : Int) (1 : Int) (((l.length + 1 : Nat) : Int)) rfl rfl (w64 (by omega) (by omega)) (wl_s (o_make (E := Enc.u8) Try.underlying28 i_5 [vB (0 : UInt8)] rfl rfl (by decide) (0 : UInt8) (fun _ _ => rfl) .i64 .i64 ((l.length + 1 : Nat) : Int) ((l.length + 1 : Nat) : Int) (l.length + 1) (l.length + 1) rfl rfl rfl rfl (by omega) (by omega) (by simp only [maxLen]; omega) s0 fun v331 b333 w327 e334 hb335 s328 m329 k330 hl332 => (?_)))))))))
  have hB336 : ∀ b, v331.ownBlock = some b → b ∈ (b333 :: []) := fun b hb => by rw [hb335] at hb; cases hb; simp
  clear e334 hb335
  have h_l := h_l.mv m329
  refine wl_s (o_assign (v331) rfl (wl_nil (thenQ_n (?_))))
  refine cw_seq (?_)
  refine cw_seq (?_)
  refine cw_region (by kernel_rfl) (wl_s (o_assign (vI (0 : Int)) rfl (wl_nil (thenQ_n (?_)))))
  refine cw_block (?_)
  refine cw_loop (fun mI FI wI => ∃ (k : Nat) (vo0_7 : Value) (B : List Nat), k ≤ l.length ∧ mI = l.length - k ∧ (∃ F1, FI = upds F1 [(0, l_v), (1, vB a), (2, vB b), (7, vo0_7), (8, vI ((k : Nat) : Int)), (50, undef)]) ∧ St w O wI B ∧ Own Enc.u8 5 w.heap.size (B ++ O) wI vo0_7 (tmS l a b k) ∧ (∀ b, vo0_7.ownBlock = some b → b ∈ B) ∧ RdL Enc.u8 wI (B ++ O) (l_v) (l)) (l.length - (0)) ?_ ?_
  · exact ⟨(0), v331, (b333 :: []), (by first | omega | (simp; done) | (simp; omega) | simp_all), rfl, ⟨_, upds_self _ ⟨rfl, rfl, rfl, rfl, (by first | rfl | exact congrArg (Value.int _) (by first | omega | (simp))), rfl, trivial⟩⟩, s328, (by rw [show tmS l a b (0) = List.replicate (l.length + 1) (0 : UInt8) from rfl]; exact hl332), hB336, h_l⟩
  · intro ml0 F wl0 hI
    clear h_l
    obtain ⟨k, vo0_7, Bl0, hr0_0, hm0, ⟨Fl0, rfl⟩, sl0, ho0_7, hB0_7, h_l⟩ := hI
    refine cw_seq (?_)
    refine cw_seq (?_)
    refine cw_region (by kernel_rfl) (wl_s (o_move (vI ((k : Nat) : Int)) rfl (wl_s (o_move (l_v) rfl (wl_s (o_lenR Try.underlying28 rfl h_l (wl_s (o_lss .i64 ((k : Nat) : Int) (l.length : Int) rfl rfl (wl_nil (thenQ_n (?_)))))))))))
    refine cw_cond (decide (((k : Nat) : Int) < (l.length : Int))) rfl rfl (fun hc337 => ?_) (fun hc337 => ?_)
    · have hp338 : ((k : Nat) : Int) < (l.length : Int) := by first | simpa using hc337 | (have e := hc337; simp at e; omega)
      refine cw_skip (thenQ_n (?_))
      refine cw_seq (?_)
      refine cw_block (?_)
      refine cw_seq (?_)
      refine cw_draw' 13 _ _ [fun v _ => v = vo0_7, fun v _ => v = vI ((k : Nat) : Int), fun v _ => v = vo0_7, fun v _ => v = vI ((k : Nat) : Int), fun v w => ∃ b, v = .pointer (some ⟨b, k * 1, none⟩) ∧ vo0_7.ownBlock = some b, fun v _ => v = vB ((tmS l a b k)[k]!), fun v w => RdL Enc.u8 w (Bl0 ++ O) v (l), fun v _ => v = vI ((k : Nat) : Int), fun v w => ∃ a, v = .pointer (some a) ∧ PT Enc.u8 w (Bl0 ++ O) (.pointer (some a)) (l[k]!), fun v _ => v = vB (l[k]!), fun v _ => v = vB a, fun v _ => v = vB (refMul (l[k]!) a), fun v _ => v = vB (((tmS l a b k)[k]!) ^^^ (refMul (l[k]!) a))] (by kernel_rfl) (by kernel_rfl) (by kernel_rfl) (by kernel_rfl) rfl rfl ⟨fun _ _ _ h _ => h, fun _ _ _ h _ => h, fun _ _ _ h _ => h, fun _ _ _ h _ => h, fun _ _ _ h _ => h, fun _ _ _ h _ => h, fun _ _ _ h k => h.mv (Mv.of_keep k), fun _ _ _ h _ => h, fun _ _ _ ⟨a, e, h⟩ k => ⟨a, e, h.mv (Mv.of_keep k)⟩, fun _ _ _ h _ => h, fun _ _ _ h _ => h, fun _ _ _ h _ => h, fun _ _ _ h _ => h, trivial⟩ ⟨?_, ?_, ?_, ?_, ?_, ?_, ?_, ?_, ?_, ?_, ?_, ?_, ?_, trivial⟩ ?_
      · intro F1 w1 k1 hf hd
        have k0 := (Keep.drew [] wl0).trans k1
        have s1 := sl0.call k0
        have m1 : Mv Bl0 wl0 Bl0 w1 := Mv.of_keep k0
        have ho0_7 := ho0_7.mv m1 k0 (by simp)
        obtain ⟨F2, rfl⟩ := lit_of (F := F1) [(7, vo0_7)] ⟨hf 7 (by kernel_rfl), trivial⟩
        exact sp_plain rfl ((o_move (vo0_7) rfl (⟨(Keep.refl _ _), rfl⟩)))
      · intro F1 w1 k1 hf hd
        have k0 := (Keep.drew [] wl0).trans k1
        have s1 := sl0.call k0
        have m1 : Mv Bl0 wl0 Bl0 w1 := Mv.of_keep k0
        obtain ⟨F2, rfl⟩ := lit_of (F := F1) [(8, vI ((k : Nat) : Int))] ⟨hf 8 (by kernel_rfl), trivial⟩
        exact sp_plain rfl ((o_move (vI ((k : Nat) : Int)) rfl (⟨(Keep.refl _ _), rfl⟩)))
      · intro F1 w1 k1 hf hd
        have k0 := (Keep.drew [] wl0).trans k1
        have s1 := sl0.call k0
        have m1 : Mv Bl0 wl0 Bl0 w1 := Mv.of_keep k0
        have ho0_7 := ho0_7.mv m1 k0 (by simp)
        obtain ⟨F2, rfl⟩ := lit_of (F := F1) [(7, vo0_7)] ⟨hf 7 (by kernel_rfl), trivial⟩
        exact sp_plain rfl ((o_move (vo0_7) rfl (⟨(Keep.refl _ _), rfl⟩)))
      · intro F1 w1 k1 hf hd
        have k0 := (Keep.drew [] wl0).trans k1
        have s1 := sl0.call k0
        have m1 : Mv Bl0 wl0 Bl0 w1 := Mv.of_keep k0
        obtain ⟨F2, rfl⟩ := lit_of (F := F1) [(8, vI ((k : Nat) : Int))] ⟨hf 8 (by kernel_rfl), trivial⟩
        exact sp_plain rfl ((o_move (vI ((k : Nat) : Int)) rfl (⟨(Keep.refl _ _), rfl⟩)))
      · intro F1 w1 k1 hf hd
        have k0 := (Keep.drew [] wl0).trans k1
        have s1 := sl0.call k0
        have m1 : Mv Bl0 wl0 Bl0 w1 := Mv.of_keep k0
        have ho0_7 := ho0_7.mv m1 k0 (by simp)
        obtain ⟨F2, rfl⟩ := lit_of (F := F1) [(21, vo0_7), (22, vI ((k : Nat) : Int))] ⟨hd 2 21 (by kernel_rfl), hd 3 22 (by kernel_rfl), trivial⟩
        exact sp_plain rfl ((o_indexO Try.underlying28 s_5 .i64 ((k : Nat) : Int) k rfl rfl rfl ho0_7 (by first | omega | (simp only [List.length_set, List.length_append, List.length_cons, List.length_nil, List.length_replicate, tmS_len]; omega)) fun b339 hb340 => (⟨(Keep.refl _ _), ⟨_, rfl, hb340⟩⟩)))
      · intro F1 w1 k1 hf hd
        have k0 := (Keep.drew [] wl0).trans k1
        have s1 := sl0.call k0
        have m1 : Mv Bl0 wl0 Bl0 w1 := Mv.of_keep k0
        have ho0_7 := ho0_7.mv m1 k0 (by simp)
        obtain ⟨b341, e343, hb342⟩ : ∃ b, F1 23 = .pointer (some ⟨b, k * 1, none⟩) ∧ vo0_7.ownBlock = some b := hd 4 23 (by kernel_rfl)
        obtain ⟨F2, rfl⟩ := lit_of (F := F1) [(23, Value.pointer (some ⟨b341, k * 1, none⟩))] ⟨e343, trivial⟩
        exact sp_plain rfl ((o_loadO8 Try.underlying5 rfl rfl ho0_7 hb342 (by first | omega | (simp only [List.length_set, List.length_append, List.length_cons, List.length_nil, List.length_replicate, tmS_len]; omega)) (⟨(Keep.refl _ _), rfl⟩)))
      · intro F1 w1 k1 hf hd
        have k0 := (Keep.drew [] wl0).trans k1
        have s1 := sl0.call k0
        have m1 : Mv Bl0 wl0 Bl0 w1 := Mv.of_keep k0
        have h_l := h_l.mv m1
        obtain ⟨F2, rfl⟩ := lit_of (F := F1) [(0, l_v)] ⟨hf 0 (by kernel_rfl), trivial⟩
        exact sp_plain rfl ((o_move (l_v) rfl (⟨(Keep.refl _ _), h_l⟩)))
      · intro F1 w1 k1 hf hd
        have k0 := (Keep.drew [] wl0).trans k1
        have s1 := sl0.call k0
        have m1 : Mv Bl0 wl0 Bl0 w1 := Mv.of_keep k0
        obtain ⟨F2, rfl⟩ := lit_of (F := F1) [(8, vI ((k : Nat) : Int))] ⟨hf 8 (by kernel_rfl), trivial⟩
        exact sp_plain rfl ((o_move (vI ((k : Nat) : Int)) rfl (⟨(Keep.refl _ _), rfl⟩)))
      · intro F1 w1 k1 hf hd
        have k0 := (Keep.drew [] wl0).trans k1
        have s1 := sl0.call k0
        have m1 : Mv Bl0 wl0 Bl0 w1 := Mv.of_keep k0
        obtain ⟨v344, e346, hl345⟩ : ∃ v, F1 25 = v ∧ RdL Enc.u8 w1 (Bl0 ++ O) v (l) := ⟨_, rfl, hd 6 25 (by kernel_rfl)⟩
        have := hl345.len_le
        obtain ⟨F2, rfl⟩ := lit_of (F := F1) [(25, v344), (26, vI ((k : Nat) : Int))] ⟨e346, hd 7 26 (by kernel_rfl), trivial⟩
        exact sp_plain rfl ((o_idx Try.underlying28 s_5 .i64 ((k : Nat) : Int) k rfl rfl rfl hl345 (by omega) fun a347 hp348 => (⟨(Keep.refl _ _), ⟨a347, rfl, hp348⟩⟩)))
      · intro F1 w1 k1 hf hd
        have k0 := (Keep.drew [] wl0).trans k1
        have s1 := sl0.call k0
        have m1 : Mv Bl0 wl0 Bl0 w1 := Mv.of_keep k0
        obtain ⟨a349, e351, hp350⟩ : ∃ a, F1 27 = .pointer (some a) ∧ PT Enc.u8 w1 (Bl0 ++ O) (.pointer (some a)) (l[k]!) := hd 8 27 (by kernel_rfl)
        obtain ⟨F2, rfl⟩ := lit_of (F := F1) [(27, Value.pointer (some a349))] ⟨e351, trivial⟩
        exact sp_plain rfl ((o_loadB Try.underlying5 rfl rfl hp350 (⟨(Keep.refl _ _), rfl⟩)))
      · intro F1 w1 k1 hf hd
        have k0 := (Keep.drew [] wl0).trans k1
        have s1 := sl0.call k0
        have m1 : Mv Bl0 wl0 Bl0 w1 := Mv.of_keep k0
        obtain ⟨F2, rfl⟩ := lit_of (F := F1) [(1, vB a)] ⟨hf 1 (by kernel_rfl), trivial⟩
        exact sp_plain rfl ((o_move (vB a) rfl (⟨(Keep.refl _ _), rfl⟩)))
      · intro F1 w1 k1 hf hd
        have k0 := (Keep.drew [] wl0).trans k1
        have s1 := sl0.call k0
        have m1 : Mv Bl0 wl0 Bl0 w1 := Mv.of_keep k0
        obtain ⟨F2, rfl⟩ := lit_of (F := F1) [(28, vB (l[k]!)), (29, vB a)] ⟨hd 9 28 (by kernel_rfl), hd 10 29 (by kernel_rfl), trivial⟩
        refine sp_plain rfl ((o_callK (vs := [vB (l[k]!), vB a]) enter_21 (c_refMul (O := Bl0 ++ O) (l[k]!) a w1 s1.lt) rfl s1 fun v352 w353 s354 m355 k356 r357 => (?_)))
        obtain rfl := r357
        exact ⟨k356, rfl⟩
      · intro F1 w1 k1 hf hd
        have k0 := (Keep.drew [] wl0).trans k1
        have s1 := sl0.call k0
        have m1 : Mv Bl0 wl0 Bl0 w1 := Mv.of_keep k0
        obtain ⟨F2, rfl⟩ := lit_of (F := F1) [(24, vB ((tmS l a b k)[k]!)), (30, vB (refMul (l[k]!) a))] ⟨hd 5 24 (by kernel_rfl), hd 11 30 (by kernel_rfl), trivial⟩
        exact sp_plain rfl ((o_xor8 ((tmS l a b k)[k]!) (refMul (l[k]!) a) rfl rfl (⟨(Keep.refl _ _), rfl⟩)))
      intro F359 w360 k358 hT361 hF362
      have s363 := sl0.call k358
      have m364 : Mv Bl0 wl0 Bl0 w360 := Mv.of_keep k358
      have h_l := h_l.mv m364
      have ho0_7 := ho0_7.mv m364 k358 (by simp)
      obtain ⟨b366, e368, hb367⟩ : ∃ b, F359 23 = .pointer (some ⟨b, k * 1, none⟩) ∧ vo0_7.ownBlock = some b := hT361 4 23 (by kernel_rfl) (by decide)
      obtain ⟨v369, e371, hl370⟩ : ∃ v, F359 25 = v ∧ RdL Enc.u8 w360 (Bl0 ++ O) v (l) := ⟨_, rfl, hT361 6 25 (by kernel_rfl) (by decide)⟩
      have := hl370.len_le
      obtain ⟨a372, e374, hp373⟩ : ∃ a, F359 27 = .pointer (some a) ∧ PT Enc.u8 w360 (Bl0 ++ O) (.pointer (some a)) (l[k]!) := hT361 8 27 (by kernel_rfl) (by decide)
      obtain ⟨F2, rfl⟩ := lit_of (F := F359) [(0, l_v), (1, vB a), (2, vB b), (7, vo0_7), (8, vI ((k : Nat) : Int)), (13, vI ((k : Nat) : Int)), (14, l_v), (15, vI (l.length : Int)), (16, Value.bool (decide (((k : Nat) : Int) < (l.length : Int)))), (50, undef), (19, vo0_7), (20, vI ((k : Nat) : Int)), (21, vo0_7), (22, vI ((k : Nat) : Int)), (23, Value.pointer (some ⟨b366, k * 1, none⟩)), (24, vB ((tmS l a b k)[k]!)), (25, v369), (26, vI ((k : Nat) : Int)), (27, Value.pointer (some a372)), (28, vB (l[k]!)), (29, vB a), (30, vB (refMul (l[k]!) a)), (31, vB (((tmS l a b k)[k]!) ^^^ (refMul (l[k]!) a)))] ⟨hF362 0 (by kernel_rfl), hF362 1 (by kernel_rfl), hF362 2 (by kernel_rfl), hF362 7 (by kernel_rfl), hF362 8 (by kernel_rfl), hF362 13 (by kernel_rfl), hF362 14 (by kernel_rfl), hF362 15 (by kernel_rfl), hF362 16 (by kernel_rfl), hF362 50 (by kernel_rfl), hT361 0 19 (by kernel_rfl) (by decide), hT361 1 20 (by kernel_rfl) (by decide), hT361 2 21 (by kernel_rfl) (by decide), hT361 3 22 (by kernel_rfl) (by decide), e368, hT361 5 24 (by kernel_rfl) (by decide), e371, hT361 7 26 (by kernel_rfl) (by decide), e374, hT361 9 28 (by kernel_rfl) (by decide), hT361 10 29 (by kernel_rfl) (by decide), hT361 11 30 (by kernel_rfl) (by decide), hT361 12 31 (by kernel_rfl) (by decide), trivial⟩
      clear hT361 hF362
      refine wl_s (o_indexO Try.underlying28 s_5 .i64 ((k : Nat) : Int) k rfl rfl rfl ho0_7 (by first | omega | (simp only [List.length_set, List.length_append, List.length_cons, List.length_nil, List.length_replicate, tmS_len]; omega)) fun b375 hb376 => (wl_n (o_storeO (((tmS l a b k)[k]!) ^^^ (refMul (l[k]!) a)) s_5 rfl rfl rfl ho0_7 hb376 (hB0_7 _ hb376) (by first | omega | (simp only [List.length_set, List.length_append, List.length_cons, List.length_nil, List.length_replicate, tmS_len]; omega)) rfl s363 fun w377 s378 m379 k380 bx381 => (?_))))
      have h_l := h_l.mv m379
      have hl370 := hl370.mv m379
      have hp373 := hp373.mv m379
      refine wl_nil (thenQ_n (?_))
      refine cw_draw' 15 _ _ [fun v _ => v = vo0_7, fun v _ => v = vI ((k : Nat) : Int), fun v _ => v = vI ((k + 1 : Nat) : Int), fun v _ => v = vo0_7, fun v _ => v = vI ((k : Nat) : Int), fun v _ => v = vI ((k + 1 : Nat) : Int), fun v w => ∃ b, v = .pointer (some ⟨b, (k + 1) * 1, none⟩) ∧ vo0_7.ownBlock = some b, fun v _ => v = vB (((tmS l a b k).set k (((tmS l a b k)[k]!) ^^^ (refMul (l[k]!) a)))[k + 1]!), fun v w => RdL Enc.u8 w (Bl0 ++ O) v (l), fun v _ => v = vI ((k : Nat) : Int), fun v w => ∃ a, v = .pointer (some a) ∧ PT Enc.u8 w (Bl0 ++ O) (.pointer (some a)) (l[k]!), fun v _ => v = vB (l[k]!), fun v _ => v = vB b, fun v _ => v = vB (refMul (l[k]!) b), fun v _ => v = vB ((((tmS l a b k).set k (((tmS l a b k)[k]!) ^^^ (refMul (l[k]!) a)))[k + 1]!) ^^^ (refMul (l[k]!) b))] (by kernel_rfl) (by kernel_rfl) (by kernel_rfl) (by kernel_rfl) rfl rfl ⟨fun _ _ _ h _ => h, fun _ _ _ h _ => h, fun _ _ _ h _ => h, fun _ _ _ h _ => h, fun _ _ _ h _ => h, fun _ _ _ h _ => h, fun _ _ _ h _ => h, fun _ _ _ h _ => h, fun _ _ _ h k => h.mv (Mv.of_keep k), fun _ _ _ h _ => h, fun _ _ _ ⟨a, e, h⟩ k => ⟨a, e, h.mv (Mv.of_keep k)⟩, fun _ _ _ h _ => h, fun _ _ _ h _ => h, fun _ _ _ h _ => h, fun _ _ _ h _ => h, trivial⟩ ⟨?_, ?_, ?_, ?_, ?_, ?_, ?_, ?_, ?_, ?_, ?_, ?_, ?_, ?_, ?_, trivial⟩ ?_
      · intro F1 w1 k1 hf hd
        have k0 := (Keep.drew [] w377).trans k1
        have s1 := s378.call k0
        have m1 : Mv Bl0 w377 Bl0 w1 := Mv.of_keep k0
        have bx381 := bx381.mv m1 k0 (by simp)
        obtain ⟨F2, rfl⟩ := lit_of (F := F1) [(7, vo0_7)] ⟨hf 7 (by kernel_rfl), trivial⟩
        exact sp_plain rfl ((o_move (vo0_7) rfl (⟨(Keep.refl _ _), rfl⟩)))
      · intro F1 w1 k1 hf hd
        have k0 := (Keep.drew [] w377).trans k1
        have s1 := s378.call k0
        have m1 : Mv Bl0 w377 Bl0 w1 := Mv.of_keep k0
        obtain ⟨F2, rfl⟩ := lit_of (F := F1) [(8, vI ((k : Nat) : Int))] ⟨hf 8 (by kernel_rfl), trivial⟩
        exact sp_plain rfl ((o_move (vI ((k : Nat) : Int)) rfl (⟨(Keep.refl _ _), rfl⟩)))
      · intro F1 w1 k1 hf hd
        have k0 := (Keep.drew [] w377).trans k1
        have s1 := s378.call k0
        have m1 : Mv Bl0 w377 Bl0 w1 := Mv.of_keep k0
        obtain ⟨F2, rfl⟩ := lit_of (F := F1) [(34, vI ((k : Nat) : Int))] ⟨hd 1 34 (by kernel_rfl), trivial⟩
        exact sp_plain rfl ((o_add .i64 ((k : Nat) : Int) (1 : Int) (((k + 1 : Nat) : Int)) rfl rfl (w64 (by omega) (by omega)) (⟨(Keep.refl _ _), rfl⟩)))
      · intro F1 w1 k1 hf hd
        have k0 := (Keep.drew [] w377).trans k1
        have s1 := s378.call k0
        have m1 : Mv Bl0 w377 Bl0 w1 := Mv.of_keep k0
        have bx381 := bx381.mv m1 k0 (by simp)
        obtain ⟨F2, rfl⟩ := lit_of (F := F1) [(7, vo0_7)] ⟨hf 7 (by kernel_rfl), trivial⟩
        exact sp_plain rfl ((o_move (vo0_7) rfl (⟨(Keep.refl _ _), rfl⟩)))
      · intro F1 w1 k1 hf hd
        have k0 := (Keep.drew [] w377).trans k1
        have s1 := s378.call k0
        have m1 : Mv Bl0 w377 Bl0 w1 := Mv.of_keep k0
        obtain ⟨F2, rfl⟩ := lit_of (F := F1) [(8, vI ((k : Nat) : Int))] ⟨hf 8 (by kernel_rfl), trivial⟩
        exact sp_plain rfl ((o_move (vI ((k : Nat) : Int)) rfl (⟨(Keep.refl _ _), rfl⟩)))
      · intro F1 w1 k1 hf hd
        have k0 := (Keep.drew [] w377).trans k1
        have s1 := s378.call k0
        have m1 : Mv Bl0 w377 Bl0 w1 := Mv.of_keep k0
        obtain ⟨F2, rfl⟩ := lit_of (F := F1) [(37, vI ((k : Nat) : Int))] ⟨hd 4 37 (by kernel_rfl), trivial⟩
        exact sp_plain rfl ((o_add .i64 ((k : Nat) : Int) (1 : Int) (((k + 1 : Nat) : Int)) rfl rfl (w64 (by omega) (by omega)) (⟨(Keep.refl _ _), rfl⟩)))
      · intro F1 w1 k1 hf hd
        have k0 := (Keep.drew [] w377).trans k1
        have s1 := s378.call k0
        have m1 : Mv Bl0 w377 Bl0 w1 := Mv.of_keep k0
        have bx381 := bx381.mv m1 k0 (by simp)
        obtain ⟨F2, rfl⟩ := lit_of (F := F1) [(36, vo0_7), (38, vI ((k + 1 : Nat) : Int))] ⟨hd 3 36 (by kernel_rfl), hd 5 38 (by kernel_rfl), trivial⟩
        exact sp_plain rfl ((o_indexO Try.underlying28 s_5 .i64 ((k + 1 : Nat) : Int) (k + 1) rfl rfl rfl bx381 (by first | omega | (simp only [List.length_set, List.length_append, List.length_cons, List.length_nil, List.length_replicate, tmS_len]; omega)) fun b382 hb383 => (⟨(Keep.refl _ _), ⟨_, rfl, hb383⟩⟩)))
      · intro F1 w1 k1 hf hd
        have k0 := (Keep.drew [] w377).trans k1
        have s1 := s378.call k0
        have m1 : Mv Bl0 w377 Bl0 w1 := Mv.of_keep k0
        have bx381 := bx381.mv m1 k0 (by simp)
        obtain ⟨b384, e386, hb385⟩ : ∃ b, F1 39 = .pointer (some ⟨b, (k + 1) * 1, none⟩) ∧ vo0_7.ownBlock = some b := hd 6 39 (by kernel_rfl)
        obtain ⟨F2, rfl⟩ := lit_of (F := F1) [(39, Value.pointer (some ⟨b384, (k + 1) * 1, none⟩))] ⟨e386, trivial⟩
        exact sp_plain rfl ((o_loadO8 Try.underlying5 rfl rfl bx381 hb385 (by first | omega | (simp only [List.length_set, List.length_append, List.length_cons, List.length_nil, List.length_replicate, tmS_len]; omega)) (⟨(Keep.refl _ _), rfl⟩)))
      · intro F1 w1 k1 hf hd
        have k0 := (Keep.drew [] w377).trans k1
        have s1 := s378.call k0
        have m1 : Mv Bl0 w377 Bl0 w1 := Mv.of_keep k0
        have h_l := h_l.mv m1
        obtain ⟨F2, rfl⟩ := lit_of (F := F1) [(0, l_v)] ⟨hf 0 (by kernel_rfl), trivial⟩
        exact sp_plain rfl ((o_move (l_v) rfl (⟨(Keep.refl _ _), h_l⟩)))
      · intro F1 w1 k1 hf hd
        have k0 := (Keep.drew [] w377).trans k1
        have s1 := s378.call k0
        have m1 : Mv Bl0 w377 Bl0 w1 := Mv.of_keep k0
        obtain ⟨F2, rfl⟩ := lit_of (F := F1) [(8, vI ((k : Nat) : Int))] ⟨hf 8 (by kernel_rfl), trivial⟩
        exact sp_plain rfl ((o_move (vI ((k : Nat) : Int)) rfl (⟨(Keep.refl _ _), rfl⟩)))
      · intro F1 w1 k1 hf hd
        have k0 := (Keep.drew [] w377).trans k1
        have s1 := s378.call k0
        have m1 : Mv Bl0 w377 Bl0 w1 := Mv.of_keep k0
        obtain ⟨v387, e389, hl388⟩ : ∃ v, F1 41 = v ∧ RdL Enc.u8 w1 (Bl0 ++ O) v (l) := ⟨_, rfl, hd 8 41 (by kernel_rfl)⟩
        have := hl388.len_le
        obtain ⟨F2, rfl⟩ := lit_of (F := F1) [(41, v387), (42, vI ((k : Nat) : Int))] ⟨e389, hd 9 42 (by kernel_rfl), trivial⟩
        exact sp_plain rfl ((o_idx Try.underlying28 s_5 .i64 ((k : Nat) : Int) k rfl rfl rfl hl388 (by omega) fun a390 hp391 => (⟨(Keep.refl _ _), ⟨a390, rfl, hp391⟩⟩)))
      · intro F1 w1 k1 hf hd
        have k0 := (Keep.drew [] w377).trans k1
        have s1 := s378.call k0
        have m1 : Mv Bl0 w377 Bl0 w1 := Mv.of_keep k0
        obtain ⟨a392, e394, hp393⟩ : ∃ a, F1 43 = .pointer (some a) ∧ PT Enc.u8 w1 (Bl0 ++ O) (.pointer (some a)) (l[k]!) := hd 10 43 (by kernel_rfl)
        obtain ⟨F2, rfl⟩ := lit_of (F := F1) [(43, Value.pointer (some a392))] ⟨e394, trivial⟩
        exact sp_plain rfl ((o_loadB Try.underlying5 rfl rfl hp393 (⟨(Keep.refl _ _), rfl⟩)))
      · intro F1 w1 k1 hf hd
        have k0 := (Keep.drew [] w377).trans k1
        have s1 := s378.call k0
        have m1 : Mv Bl0 w377 Bl0 w1 := Mv.of_keep k0
        obtain ⟨F2, rfl⟩ := lit_of (F := F1) [(2, vB b)] ⟨hf 2 (by kernel_rfl), trivial⟩
        exact sp_plain rfl ((o_move (vB b) rfl (⟨(Keep.refl _ _), rfl⟩)))
      · intro F1 w1 k1 hf hd
        have k0 := (Keep.drew [] w377).trans k1
        have s1 := s378.call k0
        have m1 : Mv Bl0 w377 Bl0 w1 := Mv.of_keep k0
        obtain ⟨F2, rfl⟩ := lit_of (F := F1) [(44, vB (l[k]!)), (45, vB b)] ⟨hd 11 44 (by kernel_rfl), hd 12 45 (by kernel_rfl), trivial⟩
        refine sp_plain rfl ((o_callK (vs := [vB (l[k]!), vB b]) enter_21 (c_refMul (O := Bl0 ++ O) (l[k]!) b w1 s1.lt) rfl s1 fun v395 w396 s397 m398 k399 r400 => (?_)))
        obtain rfl := r400
        exact ⟨k399, rfl⟩
      · intro F1 w1 k1 hf hd
        have k0 := (Keep.drew [] w377).trans k1
        have s1 := s378.call k0
        have m1 : Mv Bl0 w377 Bl0 w1 := Mv.of_keep k0
        obtain ⟨F2, rfl⟩ := lit_of (F := F1) [(40, vB (((tmS l a b k).set k (((tmS l a b k)[k]!) ^^^ (refMul (l[k]!) a)))[k + 1]!)), (46, vB (refMul (l[k]!) b))] ⟨hd 7 40 (by kernel_rfl), hd 13 46 (by kernel_rfl), trivial⟩
        exact sp_plain rfl ((o_xor8 (((tmS l a b k).set k (((tmS l a b k)[k]!) ^^^ (refMul (l[k]!) a)))[k + 1]!) (refMul (l[k]!) b) rfl rfl (⟨(Keep.refl _ _), rfl⟩)))
      intro F402 w403 k401 hT404 hF405
      have s406 := s378.call k401
      have m407 : Mv Bl0 w377 Bl0 w403 := Mv.of_keep k401
      have h_l := h_l.mv m407
      have bx381 := bx381.mv m407 k401 (by simp)
      have hl370 := hl370.mv m407
      have hp373 := hp373.mv m407
      obtain ⟨b409, e411, hb410⟩ : ∃ b, F402 39 = .pointer (some ⟨b, (k + 1) * 1, none⟩) ∧ vo0_7.ownBlock = some b := hT404 6 39 (by kernel_rfl) (by decide)
      obtain ⟨v412, e414, hl413⟩ : ∃ v, F402 41 = v ∧ RdL Enc.u8 w403 (Bl0 ++ O) v (l) := ⟨_, rfl, hT404 8 41 (by kernel_rfl) (by decide)⟩
      have := hl413.len_le
      obtain ⟨a415, e417, hp416⟩ : ∃ a, F402 43 = .pointer (some a) ∧ PT Enc.u8 w403 (Bl0 ++ O) (.pointer (some a)) (l[k]!) := hT404 10 43 (by kernel_rfl) (by decide)
      obtain ⟨F2, rfl⟩ := lit_of (F := F402) [(0, l_v), (1, vB a), (2, vB b), (7, vo0_7), (8, vI ((k : Nat) : Int)), (13, vI ((k : Nat) : Int)), (14, l_v), (15, vI (l.length : Int)), (16, Value.bool (decide (((k : Nat) : Int) < (l.length : Int)))), (19, vo0_7), (20, vI ((k : Nat) : Int)), (21, vo0_7), (22, vI ((k : Nat) : Int)), (24, vB ((tmS l a b k)[k]!)), (25, v369), (26, vI ((k : Nat) : Int)), (27, Value.pointer (some a372)), (28, vB (l[k]!)), (29, vB a), (30, vB (refMul (l[k]!) a)), (31, vB (((tmS l a b k)[k]!) ^^^ (refMul (l[k]!) a))), (50, undef), (33, vo0_7), (34, vI ((k : Nat) : Int)), (35, vI ((k + 1 : Nat) : Int)), (36, vo0_7), (37, vI ((k : Nat) : Int)), (38, vI ((k + 1 : Nat) : Int)), (39, Value.pointer (some ⟨b409, (k + 1) * 1, none⟩)), (40, vB (((tmS l a b k).set k (((tmS l a b k)[k]!) ^^^ (refMul (l[k]!) a)))[k + 1]!)), (41, v412), (42, vI ((k : Nat) : Int)), (43, Value.pointer (some a415)), (44, vB (l[k]!)), (45, vB b), (46, vB (refMul (l[k]!) b)), (47, vB ((((tmS l a b k).set k (((tmS l a b k)[k]!) ^^^ (refMul (l[k]!) a)))[k + 1]!) ^^^ (refMul (l[k]!) b)))] ⟨hF405 0 (by kernel_rfl), hF405 1 (by kernel_rfl), hF405 2 (by kernel_rfl), hF405 7 (by kernel_rfl), hF405 8 (by kernel_rfl), hF405 13 (by kernel_rfl), hF405 14 (by kernel_rfl), hF405 15 (by kernel_rfl), hF405 16 (by kernel_rfl), hF405 19 (by kernel_rfl), hF405 20 (by kernel_rfl), hF405 21 (by kernel_rfl), hF405 22 (by kernel_rfl), hF405 24 (by kernel_rfl), hF405 25 (by kernel_rfl), hF405 26 (by kernel_rfl), hF405 27 (by kernel_rfl), hF405 28 (by kernel_rfl), hF405 29 (by kernel_rfl), hF405 30 (by kernel_rfl), hF405 31 (by kernel_rfl), hF405 50 (by kernel_rfl), hT404 0 33 (by kernel_rfl) (by decide), hT404 1 34 (by kernel_rfl) (by decide), hT404 2 35 (by kernel_rfl) (by decide), hT404 3 36 (by kernel_rfl) (by decide), hT404 4 37 (by kernel_rfl) (by decide), hT404 5 38 (by kernel_rfl) (by decide), e411, hT404 7 40 (by kernel_rfl) (by decide), e414, hT404 9 42 (by kernel_rfl) (by decide), e417, hT404 11 44 (by kernel_rfl) (by decide), hT404 12 45 (by kernel_rfl) (by decide), hT404 13 46 (by kernel_rfl) (by decide), hT404 14 47 (by kernel_rfl) (by decide), trivial⟩
      clear hT404 hF405
      refine wl_s (o_indexO Try.underlying28 s_5 .i64 ((k + 1 : Nat) : Int) (k + 1) rfl rfl rfl bx381 (by first | omega | (simp only [List.length_set, List.length_append, List.length_cons, List.length_nil, List.length_replicate, tmS_len]; omega)) fun b418 hb419 => (wl_n (o_storeO ((((tmS l a b k).set k (((tmS l a b k)[k]!) ^^^ (refMul (l[k]!) a)))[k + 1]!) ^^^ (refMul (l[k]!) b)) s_5 rfl rfl rfl bx381 hb419 (hB0_7 _ hb419) (by first | omega | (simp only [List.length_set, List.length_append, List.length_cons, List.length_nil, List.length_replicate, tmS_len]; omega)) rfl s406 fun w420 s421 m422 k423 bx424 => (?_))))
      have h_l := h_l.mv m422
      have hl370 := hl370.mv m422
      have hp373 := hp373.mv m422
      have hl413 := hl413.mv m422
      have hp416 := hp416.mv m422
      refine wl_nil (blockQ_n (thenQ_n (?_)))
      refine cw_region (by kernel_rfl) (wl_s (o_move (vI ((k : Nat) : Int)) rfl (wl_s (o_add .i64 ((k : Nat) : Int) (1 : Int) (((k + 1 : Nat) : Int)) rfl rfl (w64 (by omega) (by omega)) (wl_s (o_assign (vI ((k + 1 : Nat) : Int)) rfl (wl_nil (thenQ_n (?_)))))))))
      exact ⟨_, (by omega), (k + 1), vo0_7, Bl0, (by first | omega | (simp; done) | (simp; omega) | simp_all), rfl, ⟨_, upds_self _ ⟨rfl, rfl, rfl, rfl, (by first | rfl | exact congrArg (Value.int _) (by first | omega | (simp))), rfl, trivial⟩⟩, s421, (by rw [show tmS l a b (k + 1) = ((tmS l a b k).set k (((tmS l a b k)[k]!) ^^^ (refMul (l[k]!) a))).set (k + 1) ((((tmS l a b k).set k (((tmS l a b k)[k]!) ^^^ (refMul (l[k]!) a)))[k + 1]!) ^^^ (refMul (l[k]!) b)) from rfl]; exact bx424), hB0_7, h_l⟩
    · have hp425 : (l.length : Int) ≤ ((k : Nat) : Int) := by first | simpa using hc337 | (have e := hc337; simp at e; omega)
      obtain rfl : k = l.length := by omega
      refine cw_exit (thenQ_x (thenQ_x (blockQ_x (thenQ_n (?_)))))
      refine cw_seq (?_)
      refine cw_region (by kernel_rfl) (wl_s (o_move (vo0_7) rfl (wl_s (o_assign (vo0_7) rfl (wl_nil (thenQ_n (?_)))))))
      refine cw_ret (end_r rfl (res1 rfl rfl rfl) (?_))
      have e : (times l a b) = (tmS l a b l.length) := rfl
      exact ⟨_, rfl, sl0.keep, by rw [e]; exact ⟨vo0_7, rfl, ho0_7.pub sl0⟩⟩
set_option maxHeartbeats 4000000 in
set_option maxRecDepth 100000 in
theorem c_refCoeff {O : List Nat} (xs_v : Value) (xs : List UInt8) (ys_v : Value) (ys : List UInt8) (w : World) (h_xs : RdL Enc.u8 w O xs_v xs) (h_ys : RdL Enc.u8 w O ys_v ys) (hpre0 : xs.length < 1000000) (hO : ∀ b ∈ O, b < w.heap.size) : CallsK Try.prog 25 [xs_v, ys_v] w (fun v w' => ∃ (x0 : Value), v = .tuple #[x0, vI ((refCoeff xs ys).2)] ∧ RdL Enc.u8 w' (O) x0 ((refCoeff xs ys).1)) :=  by
  have lim_xs := h_xs.len_le
  have h_xs : RdL Enc.u8 w ([] ++ O) xs_v xs := h_xs
  have lim_ys := h_ys.len_le
  have h_ys : RdL Enc.u8 w ([] ++ O) ys_v ys := h_ys
  have s0 : St w O w [] := St.start hO
  refine callsK_of 77 Try.func25 rfl rfl (of_decide_eq_true rfl) (fun F0 => ?_)
  refine cw_seq (?_)
  refine cw_region (by kernel_rfl) (wl_s (o_assign (Value.slice none 0 0) rfl (wl_s (o_assign (vI (0 : Int)) rfl (wl_nil (thenQ_n (?_)))))))
  refine cw_seq (?_)
  refine cw_seq (?_)
  refine cw_region (by kernel_rfl) (wl_s (o_move (xs_v) rfl (wl_s (o_move (ys_v) rfl (wl_s (o_callK (vs := [xs_v, ys_v]) enter_43 (c_refPoints (O := [] ++ O) xs_v xs ys_v ys w h_xs h_ys s0.lt) rfl s0 fun v426 w427 s428 m429 k430 r431 => (?_)))))))
  obtain rfl := r431
  have h_xs := h_xs.mv m429
  have h_ys := h_ys.mv m429
  refine wl_s (o_not (refPoints xs ys) rfl (wl_nil (thenQ_n (?_))))
  refine cw_cond (!(refPoints xs ys)) rfl rfl (fun hc432 => ?_) (fun hc432 => ?_)
  · have hp433 : (refPoints xs ys) = false := by first | simpa using hc432 | (have e := hc432; simp at e; omega)
    refine cw_seq (?_)
    refine cw_region (by kernel_rfl) (wl_s (o_assign (Value.slice none 0 0) rfl (wl_s (o_assign (vI (1 : Int)) rfl (wl_nil (thenQ_n (?_)))))))
    refine cw_ret (thenQ_r (end_r rfl (res2 rfl rfl rfl rfl) (?_)))
    have e : (refCoeff xs ys) = ([], (1 : Int)) := by simp [refCoeff, *]
    exact ⟨_, rfl, s428.keep, by rw [e]; exact ⟨.slice none 0 0, rfl, RdL.nil _ _ _⟩⟩
  · have hp434 : (refPoints xs ys) = true := by first | simpa using hc432 | (have e := hc432; simp at e; omega)
    have hxy := refPoints_len (by simpa using hc432)
    refine cw_skip (thenQ_n (?_))
    refine cw_seq (?_)
    refine cw_region (by kernel_rfl) (wl_s (o_move (xs_v) rfl (wl_s (o_lenR Try.underlying28 rfl h_xs (wl_s (o_make (E := Enc.u8) Try.underlying28 i_5 [vB (0 : UInt8)] rfl rfl (by decide) (0 : UInt8) (fun _ _ => rfl) .i64 .i64 (xs.length : Int) (xs.length : Int) xs.length xs.length rfl rfl rfl rfl (by omega) (by omega) (by simp only [maxLen]; omega) s428 fun v439 b441 w435 e442 hb443 s436 m437 k438 hl440 => (?_)))))))
    have hB444 : ∀ b, v439.ownBlock = some b → b ∈ (b441 :: []) := fun b hb => by rw [hb443] at hb; cases hb; simp
    clear e442 hb443
    have h_xs := h_xs.mv m437
    have h_ys := h_ys.mv m437
    refine wl_s (o_assign (v439) rfl (wl_nil (thenQ_n (?_))))
    refine cw_seq (?_)
    refine cw_seq (?_)
    refine cw_region (by kernel_rfl) (wl_s (o_assign (vI (0 : Int)) rfl (wl_nil (thenQ_n (?_)))))
    refine cw_block (?_)
    refine cw_loop (fun mI FI wI => ∃ (i : Nat) (vo0_6 : Value) (B : List Nat), i ≤ xs.length ∧ mI = xs.length - i ∧ (∃ F1, FI = upds F1 [(0, xs_v), (1, ys_v), (6, vo0_6), (7, vI ((i : Nat) : Int)), (77, undef)]) ∧ St w O wI B ∧ Own Enc.u8 5 w.heap.size (B ++ O) wI vo0_6 (refCoS xs ys i) ∧ (∀ b, vo0_6.ownBlock = some b → b ∈ B) ∧ RdL Enc.u8 wI (B ++ O) (xs_v) (xs) ∧ RdL Enc.u8 wI (B ++ O) (ys_v) (ys)) (xs.length - (0)) ?_ ?_
    · exact ⟨(0), v439, (b441 :: []), (by first | omega | (simp; done) | (simp; omega) | simp_all), rfl, ⟨_, upds_self _ ⟨rfl, rfl, rfl, (by first | rfl | exact congrArg (Value.int _) (by first | omega | (simp))), rfl, trivial⟩⟩, s436, (by rw [show refCoS xs ys (0) = List.replicate xs.length (0 : UInt8) from rfl]; exact hl440), hB444, h_xs, h_ys⟩
    · intro ml0 F wl0 hI
      clear h_xs h_ys
      obtain ⟨i, vo0_6, Bl0, hr0_0, hm0, ⟨Fl0, rfl⟩, sl0, ho0_6, hB0_6, h_xs, h_ys⟩ := hI
      refine cw_seq (?_)
      refine cw_seq (?_)
      refine cw_region (by kernel_rfl) (wl_s (o_move (vI ((i : Nat) : Int)) rfl (wl_s (o_move (xs_v) rfl (wl_s (o_lenR Try.underlying28 rfl h_xs (wl_s (o_lss .i64 ((i : Nat) : Int) (xs.length : Int) rfl rfl (wl_nil (thenQ_n (?_)))))))))))
      refine cw_cond (decide (((i : Nat) : Int) < (xs.length : Int))) rfl rfl (fun hc445 => ?_) (fun hc445 => ?_)
      · have hp446 : ((i : Nat) : Int) < (xs.length : Int) := by first | simpa using hc445 | (have e := hc445; simp at e; omega)
        refine cw_skip (thenQ_n (?_))
        refine cw_seq (?_)
        refine cw_block (?_)
        refine cw_seq (?_)
        refine cw_region (by kernel_rfl) (wl_s (o_move (ys_v) rfl (wl_s (o_move (vI ((i : Nat) : Int)) rfl (wl_s (o_idx Try.underlying28 s_5 .i64 ((i : Nat) : Int) i rfl rfl rfl h_ys (by omega) fun a447 hp448 => (wl_s (o_loadB Try.underlying5 rfl rfl hp448 (wl_s (o_lit (E := Enc.u8) (xs := [.tmp 28]) Try.underlying28 s_5 z_5 (by decide) [vB (ys[i]!)] [[vB (ys[i]!)]] [ys[i]!] rfl rfl rfl (Parts.cons rfl rfl (Parts.nil _ _ _)) (of_decide_eq_true rfl) sl0 fun v453 w449 s450 m451 k452 hl454 => (?_)))))))))))
        have h_xs := h_xs.mv m451
        have h_ys := h_ys.mv m451
        have ho0_6 := ho0_6.mv m451 k452 (by simp)
        have hp448 := hp448.mv m451
        have := hl454.len_le
        refine wl_s (o_assign (v453) rfl (wl_nil (thenQ_n (?_))))
        refine cw_seq (?_)
        refine cw_seq (?_)
        refine cw_region (by kernel_rfl) (wl_s (o_assign (vI (0 : Int)) rfl (wl_nil (thenQ_n (?_)))))
        refine cw_block (?_)
        refine cw_loop (fun mI FI wI => ∃ (k : Nat) (vr1_8 : Value) (B : List Nat), k ≤ xs.length ∧ mI = xs.length - k ∧ (∃ F1, FI = upds F1 [(0, xs_v), (1, ys_v), (6, vo0_6), (7, vI ((i : Nat) : Int)), (8, vr1_8), (9, vI ((k : Nat) : Int)), (77, undef)]) ∧ St w O wI B ∧ RdL Enc.u8 wI (B ++ O) vr1_8 (refOne xs ys i k) ∧ RdL Enc.u8 wI (B ++ O) (xs_v) (xs) ∧ RdL Enc.u8 wI (B ++ O) (ys_v) (ys) ∧ Own Enc.u8 5 w.heap.size (B ++ O) wI vo0_6 (refCoS xs ys i) ∧ (∀ b, vo0_6.ownBlock = some b → b ∈ B)) (xs.length - (0)) ?_ ?_
        · exact ⟨(0), v453, Bl0, (by first | omega | (simp; done) | (simp; omega) | simp_all), rfl, ⟨_, upds_self _ ⟨rfl, rfl, rfl, rfl, rfl, (by first | rfl | exact congrArg (Value.int _) (by first | omega | (simp))), rfl, trivial⟩⟩, s450, (by rw [show refOne xs ys i (0) = [ys[i]!] from rfl]; exact hl454), h_xs, h_ys, ho0_6, hB0_6⟩
        · intro ml1 F wl1 hI
          clear h_xs h_ys ho0_6 hB0_6
          obtain ⟨k, vr1_8, Bl1, hr1_0, hm1, ⟨Fl1, rfl⟩, sl1, hrd1_8, h_xs, h_ys, ho0_6, hB0_6⟩ := hI
          have := hrd1_8.len_le
          refine cw_seq (?_)
          refine cw_seq (?_)
          refine cw_region (by kernel_rfl) (wl_s (o_move (vI ((k : Nat) : Int)) rfl (wl_s (o_move (xs_v) rfl (wl_s (o_lenR Try.underlying28 rfl h_xs (wl_s (o_lss .i64 ((k : Nat) : Int) (xs.length : Int) rfl rfl (wl_nil (thenQ_n (?_)))))))))))
          refine cw_cond (decide (((k : Nat) : Int) < (xs.length : Int))) rfl rfl (fun hc455 => ?_) (fun hc455 => ?_)
          · have hp456 : ((k : Nat) : Int) < (xs.length : Int) := by first | simpa using hc455 | (have e := hc455; simp at e; omega)
            refine cw_skip (thenQ_n (?_))
            refine cw_seq (?_)
            refine cw_block (?_)
            refine cw_seq (?_)
            refine cw_region (by kernel_rfl) (wl_s (o_move (vI ((k : Nat) : Int)) rfl (wl_s (o_move (vI ((i : Nat) : Int)) rfl (wl_s (o_neq .i64 ((k : Nat) : Int) ((i : Nat) : Int) rfl rfl (wl_nil (thenQ_n (?_)))))))))
            refine cw_cond (((k : Nat) : Int) != ((i : Nat) : Int)) rfl rfl (fun hc457 => ?_) (fun hc457 => ?_)
            · have hp458 : ((k : Nat) : Int) ≠ ((i : Nat) : Int) := by first | simpa using hc457 | (have e := hc457; simp at e; omega)
              refine cw_seq (?_)
              refine cw_draw' 8 _ _ [fun v w => RdL Enc.u8 w (Bl1 ++ O) v (xs), fun v _ => v = vI ((i : Nat) : Int), fun v w => ∃ a, v = .pointer (some a) ∧ PT Enc.u8 w (Bl1 ++ O) (.pointer (some a)) (xs[i]!), fun v _ => v = vB (xs[i]!), fun v w => RdL Enc.u8 w (Bl1 ++ O) v (xs), fun v _ => v = vI ((k : Nat) : Int), fun v w => ∃ a, v = .pointer (some a) ∧ PT Enc.u8 w (Bl1 ++ O) (.pointer (some a)) (xs[k]!), fun v _ => v = vB (xs[k]!)] (by kernel_rfl) (by kernel_rfl) (by kernel_rfl) (by kernel_rfl) rfl rfl ⟨fun _ _ _ h k => h.mv (Mv.of_keep k), fun _ _ _ h _ => h, fun _ _ _ ⟨a, e, h⟩ k => ⟨a, e, h.mv (Mv.of_keep k)⟩, fun _ _ _ h _ => h, fun _ _ _ h k => h.mv (Mv.of_keep k), fun _ _ _ h _ => h, fun _ _ _ ⟨a, e, h⟩ k => ⟨a, e, h.mv (Mv.of_keep k)⟩, fun _ _ _ h _ => h, trivial⟩ ⟨?_, ?_, ?_, ?_, ?_, ?_, ?_, ?_, trivial⟩ ?_
              · intro F1 w1 k1 hf hd
                have k0 := (Keep.drew [] wl1).trans k1
                have s1 := sl1.call k0
                have m1 : Mv Bl1 wl1 Bl1 w1 := Mv.of_keep k0
                have h_xs := h_xs.mv m1
                obtain ⟨F2, rfl⟩ := lit_of (F := F1) [(0, xs_v)] ⟨hf 0 (by kernel_rfl), trivial⟩
                exact sp_plain rfl ((o_move (xs_v) rfl (⟨(Keep.refl _ _), h_xs⟩)))
              · intro F1 w1 k1 hf hd
                have k0 := (Keep.drew [] wl1).trans k1
                have s1 := sl1.call k0
                have m1 : Mv Bl1 wl1 Bl1 w1 := Mv.of_keep k0
                obtain ⟨F2, rfl⟩ := lit_of (F := F1) [(7, vI ((i : Nat) : Int))] ⟨hf 7 (by kernel_rfl), trivial⟩
                exact sp_plain rfl ((o_move (vI ((i : Nat) : Int)) rfl (⟨(Keep.refl _ _), rfl⟩)))
              · intro F1 w1 k1 hf hd
                have k0 := (Keep.drew [] wl1).trans k1
                have s1 := sl1.call k0
                have m1 : Mv Bl1 wl1 Bl1 w1 := Mv.of_keep k0
                obtain ⟨v459, e461, hl460⟩ : ∃ v, F1 39 = v ∧ RdL Enc.u8 w1 (Bl1 ++ O) v (xs) := ⟨_, rfl, hd 0 39 (by kernel_rfl)⟩
                have := hl460.len_le
                obtain ⟨F2, rfl⟩ := lit_of (F := F1) [(39, v459), (40, vI ((i : Nat) : Int))] ⟨e461, hd 1 40 (by kernel_rfl), trivial⟩
                exact sp_plain rfl ((o_idx Try.underlying28 s_5 .i64 ((i : Nat) : Int) i rfl rfl rfl hl460 (by omega) fun a462 hp463 => (⟨(Keep.refl _ _), ⟨a462, rfl, hp463⟩⟩)))
              · intro F1 w1 k1 hf hd
                have k0 := (Keep.drew [] wl1).trans k1
                have s1 := sl1.call k0
                have m1 : Mv Bl1 wl1 Bl1 w1 := Mv.of_keep k0
                obtain ⟨a464, e466, hp465⟩ : ∃ a, F1 41 = .pointer (some a) ∧ PT Enc.u8 w1 (Bl1 ++ O) (.pointer (some a)) (xs[i]!) := hd 2 41 (by kernel_rfl)
                obtain ⟨F2, rfl⟩ := lit_of (F := F1) [(41, Value.pointer (some a464))] ⟨e466, trivial⟩
                exact sp_plain rfl ((o_loadB Try.underlying5 rfl rfl hp465 (⟨(Keep.refl _ _), rfl⟩)))
              · intro F1 w1 k1 hf hd
                have k0 := (Keep.drew [] wl1).trans k1
                have s1 := sl1.call k0
                have m1 : Mv Bl1 wl1 Bl1 w1 := Mv.of_keep k0
                have h_xs := h_xs.mv m1
                obtain ⟨F2, rfl⟩ := lit_of (F := F1) [(0, xs_v)] ⟨hf 0 (by kernel_rfl), trivial⟩
                exact sp_plain rfl ((o_move (xs_v) rfl (⟨(Keep.refl _ _), h_xs⟩)))
              · intro F1 w1 k1 hf hd
                have k0 := (Keep.drew [] wl1).trans k1
                have s1 := sl1.call k0
                have m1 : Mv Bl1 wl1 Bl1 w1 := Mv.of_keep k0
                obtain ⟨F2, rfl⟩ := lit_of (F := F1) [(9, vI ((k : Nat) : Int))] ⟨hf 9 (by kernel_rfl), trivial⟩
                exact sp_plain rfl ((o_move (vI ((k : Nat) : Int)) rfl (⟨(Keep.refl _ _), rfl⟩)))
              · intro F1 w1 k1 hf hd
                have k0 := (Keep.drew [] wl1).trans k1
                have s1 := sl1.call k0
                have m1 : Mv Bl1 wl1 Bl1 w1 := Mv.of_keep k0
                obtain ⟨v467, e469, hl468⟩ : ∃ v, F1 43 = v ∧ RdL Enc.u8 w1 (Bl1 ++ O) v (xs) := ⟨_, rfl, hd 4 43 (by kernel_rfl)⟩
                have := hl468.len_le
                obtain ⟨F2, rfl⟩ := lit_of (F := F1) [(43, v467), (44, vI ((k : Nat) : Int))] ⟨e469, hd 5 44 (by kernel_rfl), trivial⟩
                exact sp_plain rfl ((o_idx Try.underlying28 s_5 .i64 ((k : Nat) : Int) k rfl rfl rfl hl468 (by omega) fun a470 hp471 => (⟨(Keep.refl _ _), ⟨a470, rfl, hp471⟩⟩)))
              · intro F1 w1 k1 hf hd
                have k0 := (Keep.drew [] wl1).trans k1
                have s1 := sl1.call k0
                have m1 : Mv Bl1 wl1 Bl1 w1 := Mv.of_keep k0
                obtain ⟨a472, e474, hp473⟩ : ∃ a, F1 45 = .pointer (some a) ∧ PT Enc.u8 w1 (Bl1 ++ O) (.pointer (some a)) (xs[k]!) := hd 6 45 (by kernel_rfl)
                obtain ⟨F2, rfl⟩ := lit_of (F := F1) [(45, Value.pointer (some a472))] ⟨e474, trivial⟩
                exact sp_plain rfl ((o_loadB Try.underlying5 rfl rfl hp473 (⟨(Keep.refl _ _), rfl⟩)))
              intro F476 w477 k475 hT478 hF479
              have s480 := sl1.call k475
              have m481 : Mv Bl1 wl1 Bl1 w477 := Mv.of_keep k475
              have h_xs := h_xs.mv m481
              have h_ys := h_ys.mv m481
              have ho0_6 := ho0_6.mv m481 k475 (by simp)
              have hrd1_8 := hrd1_8.mv m481
              obtain ⟨v483, e485, hl484⟩ : ∃ v, F476 39 = v ∧ RdL Enc.u8 w477 (Bl1 ++ O) v (xs) := ⟨_, rfl, hT478 0 39 (by kernel_rfl) (by decide)⟩
              have := hl484.len_le
              obtain ⟨a486, e488, hp487⟩ : ∃ a, F476 41 = .pointer (some a) ∧ PT Enc.u8 w477 (Bl1 ++ O) (.pointer (some a)) (xs[i]!) := hT478 2 41 (by kernel_rfl) (by decide)
              obtain ⟨v489, e491, hl490⟩ : ∃ v, F476 43 = v ∧ RdL Enc.u8 w477 (Bl1 ++ O) v (xs) := ⟨_, rfl, hT478 4 43 (by kernel_rfl) (by decide)⟩
              have := hl490.len_le
              obtain ⟨a492, e494, hp493⟩ : ∃ a, F476 45 = .pointer (some a) ∧ PT Enc.u8 w477 (Bl1 ++ O) (.pointer (some a)) (xs[k]!) := hT478 6 45 (by kernel_rfl) (by decide)
              obtain ⟨F2, rfl⟩ := lit_of (F := F476) [(0, xs_v), (1, ys_v), (6, vo0_6), (7, vI ((i : Nat) : Int)), (8, vr1_8), (9, vI ((k : Nat) : Int)), (30, vI ((k : Nat) : Int)), (31, xs_v), (32, vI (xs.length : Int)), (33, Value.bool (decide (((k : Nat) : Int) < (xs.length : Int)))), (36, vI ((k : Nat) : Int)), (37, vI ((i : Nat) : Int)), (38, Value.bool (((k : Nat) : Int) != ((i : Nat) : Int))), (77, undef), (39, v483), (40, vI ((i : Nat) : Int)), (41, Value.pointer (some a486)), (42, vB (xs[i]!)), (43, v489), (44, vI ((k : Nat) : Int)), (45, Value.pointer (some a492)), (46, vB (xs[k]!))] ⟨hF479 0 (by kernel_rfl), hF479 1 (by kernel_rfl), hF479 6 (by kernel_rfl), hF479 7 (by kernel_rfl), hF479 8 (by kernel_rfl), hF479 9 (by kernel_rfl), hF479 30 (by kernel_rfl), hF479 31 (by kernel_rfl), hF479 32 (by kernel_rfl), hF479 33 (by kernel_rfl), hF479 36 (by kernel_rfl), hF479 37 (by kernel_rfl), hF479 38 (by kernel_rfl), hF479 77 (by kernel_rfl), e485, hT478 1 40 (by kernel_rfl) (by decide), e488, hT478 3 42 (by kernel_rfl) (by decide), e491, hT478 5 44 (by kernel_rfl) (by decide), e494, hT478 7 46 (by kernel_rfl) (by decide), trivial⟩
              clear hT478 hF479
              refine wl_s (o_xor8 (xs[i]!) (xs[k]!) rfl rfl (wl_s (o_callK (vs := [vB (1 : UInt8), vB ((xs[i]!) ^^^ (xs[k]!))]) enter_44 (c_refOver (O := Bl1 ++ O) (1 : UInt8) ((xs[i]!) ^^^ (xs[k]!)) w477 s480.lt) rfl s480 fun v495 w496 s497 m498 k499 r500 => (?_))))
              obtain rfl := r500
              have h_xs := h_xs.mv m498
              have h_ys := h_ys.mv m498
              have ho0_6 := ho0_6.mv m498 k499 (by simp)
              have hrd1_8 := hrd1_8.mv m498
              have hl484 := hl484.mv m498
              have hp487 := hp487.mv m498
              have hl490 := hl490.mv m498
              have hp493 := hp493.mv m498
              refine wl_s (o_assign (vB (refOver (1 : UInt8) ((xs[i]!) ^^^ (xs[k]!)))) rfl (wl_nil (thenQ_n (?_))))
              refine cw_region (by kernel_rfl) (wl_s (o_move (vr1_8) rfl (wl_s (o_move (vB (refOver (1 : UInt8) ((xs[i]!) ^^^ (xs[k]!)))) rfl (wl_s (o_move (xs_v) rfl (wl_s (o_move (vI ((k : Nat) : Int)) rfl (wl_s (o_idx Try.underlying28 s_5 .i64 ((k : Nat) : Int) k rfl rfl rfl h_xs (by omega) fun a501 hp502 => (wl_s (o_loadB Try.underlying5 rfl rfl hp502 (wl_s (o_callK (vs := [vB (refOver (1 : UInt8) ((xs[i]!) ^^^ (xs[k]!))), vB (xs[k]!)]) enter_21 (c_refMul (O := Bl1 ++ O) (refOver (1 : UInt8) ((xs[i]!) ^^^ (xs[k]!))) (xs[k]!) w496 s497.lt) rfl s497 fun v503 w504 s505 m506 k507 r508 => (?_)))))))))))))))
              obtain rfl := r508
              have h_xs := h_xs.mv m506
              have h_ys := h_ys.mv m506
              have ho0_6 := ho0_6.mv m506 k507 (by simp)
              have hrd1_8 := hrd1_8.mv m506
              have hl484 := hl484.mv m506
              have hp487 := hp487.mv m506
              have hl490 := hl490.mv m506
              have hp493 := hp493.mv m506
              have hp502 := hp502.mv m506
              refine wl_s (o_move (vB (refOver (1 : UInt8) ((xs[i]!) ^^^ (xs[k]!)))) rfl (wl_s (o_callK (vs := [vr1_8, vB (refMul (refOver (1 : UInt8) ((xs[i]!) ^^^ (xs[k]!))) (xs[k]!)), vB (refOver (1 : UInt8) ((xs[i]!) ^^^ (xs[k]!)))]) enter_47 (c_times (O := Bl1 ++ O) vr1_8 (refOne xs ys i k) (refMul (refOver (1 : UInt8) ((xs[i]!) ^^^ (xs[k]!))) (xs[k]!)) (refOver (1 : UInt8) ((xs[i]!) ^^^ (xs[k]!))) w504 hrd1_8 (by rw [refOne_len]; split <;> omega) s505.lt) rfl s505 fun v509 w510 s511 m512 k513 r514 => (?_))))
              obtain ⟨_, rfl, hl515⟩ := r514
              have := hl515.len_le
              have h_xs := h_xs.mv m512
              have h_ys := h_ys.mv m512
              have ho0_6 := ho0_6.mv m512 k513 (by simp)
              have hrd1_8 := hrd1_8.mv m512
              have hl484 := hl484.mv m512
              have hp487 := hp487.mv m512
              have hl490 := hl490.mv m512
              have hp493 := hp493.mv m512
              have hp502 := hp502.mv m512
              refine wl_s (o_assign (v509) rfl (wl_nil (blockQ_n (thenQ_n (?_)))))
              refine cw_region (by kernel_rfl) (wl_s (o_move (vI ((k : Nat) : Int)) rfl (wl_s (o_add .i64 ((k : Nat) : Int) (1 : Int) (((k + 1 : Nat) : Int)) rfl rfl (w64 (by omega) (by omega)) (wl_s (o_assign (vI ((k + 1 : Nat) : Int)) rfl (wl_nil (thenQ_n (?_)))))))))
              exact ⟨_, (by omega), (k + 1), v509, Bl1, (by first | omega | (simp; done) | (simp; omega) | simp_all), rfl, ⟨_, upds_self _ ⟨rfl, rfl, rfl, rfl, rfl, (by first | rfl | exact congrArg (Value.int _) (by first | omega | (simp))), rfl, trivial⟩⟩, s511, (by rw [show refOne xs ys i (k + 1) = times (refOne xs ys i k) (refMul (refOver (1 : UInt8) ((xs[i]!) ^^^ (xs[k]!))) (xs[k]!)) (refOver (1 : UInt8) ((xs[i]!) ^^^ (xs[k]!))) from by first | exact refOne_yes (by assumption) | exact refOne_no (by assumption)]; exact hl515), h_xs, h_ys, ho0_6, hB0_6⟩
            · have hp516 : ((k : Nat) : Int) = ((i : Nat) : Int) := by first | simpa using hc457 | (have e := hc457; simp at e; omega)
              refine cw_skip (blockQ_n (thenQ_n (?_)))
              refine cw_region (by kernel_rfl) (wl_s (o_move (vI ((k : Nat) : Int)) rfl (wl_s (o_add .i64 ((k : Nat) : Int) (1 : Int) (((k + 1 : Nat) : Int)) rfl rfl (w64 (by omega) (by omega)) (wl_s (o_assign (vI ((k + 1 : Nat) : Int)) rfl (wl_nil (thenQ_n (?_)))))))))
              exact ⟨_, (by omega), (k + 1), vr1_8, Bl1, (by first | omega | (simp; done) | (simp; omega) | simp_all), rfl, ⟨_, upds_self _ ⟨rfl, rfl, rfl, rfl, rfl, (by first | rfl | exact congrArg (Value.int _) (by first | omega | (simp))), rfl, trivial⟩⟩, sl1, (by rw [show refOne xs ys i (k + 1) = refOne xs ys i k from by first | exact refOne_yes (by assumption) | exact refOne_no (by assumption)]; exact hrd1_8), h_xs, h_ys, ho0_6, hB0_6⟩
          · have hp517 : (xs.length : Int) ≤ ((k : Nat) : Int) := by first | simpa using hc455 | (have e := hc455; simp at e; omega)
            obtain rfl : k = xs.length := by omega
            refine cw_exit (thenQ_x (thenQ_x (blockQ_x (thenQ_n (?_)))))
            refine cw_seq (?_)
            refine cw_region (by kernel_rfl) (wl_s (o_assign (vI (0 : Int)) rfl (wl_nil (thenQ_n (?_)))))
            refine cw_block (?_)
            have hone : (refOne xs ys i xs.length).length = xs.length := by rw [refOne_len]; simp; omega
            refine cw_loop (fun mI FI wI => ∃ (j : Nat) (vo2_6 : Value) (B : List Nat), j ≤ (refOne xs ys i xs.length).length ∧ mI = (refOne xs ys i xs.length).length - j ∧ (∃ F1, FI = upds F1 [(0, xs_v), (1, ys_v), (6, vo2_6), (7, vI ((i : Nat) : Int)), (8, vr1_8), (11, vI ((j : Nat) : Int)), (77, undef)]) ∧ St w O wI B ∧ Own Enc.u8 5 w.heap.size (B ++ O) wI vo2_6 (addS (refCoS xs ys i) (refOne xs ys i xs.length) j) ∧ (∀ b, vo2_6.ownBlock = some b → b ∈ B) ∧ RdL Enc.u8 wI (B ++ O) (xs_v) (xs) ∧ RdL Enc.u8 wI (B ++ O) (ys_v) (ys) ∧ RdL Enc.u8 wI (B ++ O) (vr1_8) (refOne xs ys i xs.length)) ((refOne xs ys i xs.length).length - (0)) ?_ ?_
            · exact ⟨(0), vo0_6, Bl1, (by first | omega | (simp; done) | (simp; omega) | simp_all), rfl, ⟨_, upds_self _ ⟨rfl, rfl, rfl, rfl, rfl, (by first | rfl | exact congrArg (Value.int _) (by first | omega | (simp))), rfl, trivial⟩⟩, sl1, (by rw [show addS (refCoS xs ys i) (refOne xs ys i xs.length) (0) = refCoS xs ys i from rfl]; exact ho0_6), hB0_6, h_xs, h_ys, hrd1_8⟩
            · intro ml2 F wl2 hI
              clear h_xs h_ys hrd1_8
              obtain ⟨j, vo2_6, Bl2, hr2_0, hm2, ⟨Fl2, rfl⟩, sl2, ho2_6, hB2_6, h_xs, h_ys, hrd1_8⟩ := hI
              refine cw_seq (?_)
              refine cw_seq (?_)
              refine cw_region (by kernel_rfl) (wl_s (o_move (vI ((j : Nat) : Int)) rfl (wl_s (o_move (vr1_8) rfl (wl_s (o_lenR Try.underlying28 rfl hrd1_8 (wl_s (o_lss .i64 ((j : Nat) : Int) ((refOne xs ys i xs.length).length : Int) rfl rfl (wl_nil (thenQ_n (?_)))))))))))
              refine cw_cond (decide (((j : Nat) : Int) < ((refOne xs ys i xs.length).length : Int))) rfl rfl (fun hc518 => ?_) (fun hc518 => ?_)
              · have hp519 : ((j : Nat) : Int) < ((refOne xs ys i xs.length).length : Int) := by first | simpa using hc518 | (have e := hc518; simp at e; omega)
                refine cw_skip (thenQ_n (?_))
                refine cw_seq (?_)
                refine cw_block (?_)
                refine cw_draw' 11 _ _ [fun v _ => v = vo2_6, fun v _ => v = vI ((j : Nat) : Int), fun v _ => v = vo2_6, fun v _ => v = vI ((j : Nat) : Int), fun v w => ∃ b, v = .pointer (some ⟨b, j * 1, none⟩) ∧ vo2_6.ownBlock = some b, fun v _ => v = vB ((addS (refCoS xs ys i) (refOne xs ys i xs.length) j)[j]!), fun v w => RdL Enc.u8 w (Bl2 ++ O) v (refOne xs ys i xs.length), fun v _ => v = vI ((j : Nat) : Int), fun v w => ∃ a, v = .pointer (some a) ∧ PT Enc.u8 w (Bl2 ++ O) (.pointer (some a)) ((refOne xs ys i xs.length)[j]!), fun v _ => v = vB ((refOne xs ys i xs.length)[j]!), fun v _ => v = vB (((addS (refCoS xs ys i) (refOne xs ys i xs.length) j)[j]!) ^^^ ((refOne xs ys i xs.length)[j]!))] (by kernel_rfl) (by kernel_rfl) (by kernel_rfl) (by kernel_rfl) rfl rfl ⟨fun _ _ _ h _ => h, fun _ _ _ h _ => h, fun _ _ _ h _ => h, fun _ _ _ h _ => h, fun _ _ _ h _ => h, fun _ _ _ h _ => h, fun _ _ _ h k => h.mv (Mv.of_keep k), fun _ _ _ h _ => h, fun _ _ _ ⟨a, e, h⟩ k => ⟨a, e, h.mv (Mv.of_keep k)⟩, fun _ _ _ h _ => h, fun _ _ _ h _ => h, trivial⟩ ⟨?_, ?_, ?_, ?_, ?_, ?_, ?_, ?_, ?_, ?_, ?_, trivial⟩ ?_
                · intro F1 w1 k1 hf hd
                  have k0 := (Keep.drew [] wl2).trans k1
                  have s1 := sl2.call k0
                  have m1 : Mv Bl2 wl2 Bl2 w1 := Mv.of_keep k0
                  have ho2_6 := ho2_6.mv m1 k0 (by simp)
                  obtain ⟨F2, rfl⟩ := lit_of (F := F1) [(6, vo2_6)] ⟨hf 6 (by kernel_rfl), trivial⟩
                  exact sp_plain rfl ((o_move (vo2_6) rfl (⟨(Keep.refl _ _), rfl⟩)))
                · intro F1 w1 k1 hf hd
                  have k0 := (Keep.drew [] wl2).trans k1
                  have s1 := sl2.call k0
                  have m1 : Mv Bl2 wl2 Bl2 w1 := Mv.of_keep k0
                  obtain ⟨F2, rfl⟩ := lit_of (F := F1) [(11, vI ((j : Nat) : Int))] ⟨hf 11 (by kernel_rfl), trivial⟩
                  exact sp_plain rfl ((o_move (vI ((j : Nat) : Int)) rfl (⟨(Keep.refl _ _), rfl⟩)))
                · intro F1 w1 k1 hf hd
                  have k0 := (Keep.drew [] wl2).trans k1
                  have s1 := sl2.call k0
                  have m1 : Mv Bl2 wl2 Bl2 w1 := Mv.of_keep k0
                  have ho2_6 := ho2_6.mv m1 k0 (by simp)
                  obtain ⟨F2, rfl⟩ := lit_of (F := F1) [(6, vo2_6)] ⟨hf 6 (by kernel_rfl), trivial⟩
                  exact sp_plain rfl ((o_move (vo2_6) rfl (⟨(Keep.refl _ _), rfl⟩)))
                · intro F1 w1 k1 hf hd
                  have k0 := (Keep.drew [] wl2).trans k1
                  have s1 := sl2.call k0
                  have m1 : Mv Bl2 wl2 Bl2 w1 := Mv.of_keep k0
                  obtain ⟨F2, rfl⟩ := lit_of (F := F1) [(11, vI ((j : Nat) : Int))] ⟨hf 11 (by kernel_rfl), trivial⟩
                  exact sp_plain rfl ((o_move (vI ((j : Nat) : Int)) rfl (⟨(Keep.refl _ _), rfl⟩)))
                · intro F1 w1 k1 hf hd
                  have k0 := (Keep.drew [] wl2).trans k1
                  have s1 := sl2.call k0
                  have m1 : Mv Bl2 wl2 Bl2 w1 := Mv.of_keep k0
                  have ho2_6 := ho2_6.mv m1 k0 (by simp)
                  obtain ⟨F2, rfl⟩ := lit_of (F := F1) [(66, vo2_6), (67, vI ((j : Nat) : Int))] ⟨hd 2 66 (by kernel_rfl), hd 3 67 (by kernel_rfl), trivial⟩
                  exact sp_plain rfl ((o_indexO Try.underlying28 s_5 .i64 ((j : Nat) : Int) j rfl rfl rfl ho2_6 (by first | omega | (simp only [List.length_set, List.length_append, List.length_cons, List.length_nil, List.length_replicate, addS_len, refCoS_len]; omega)) fun b520 hb521 => (⟨(Keep.refl _ _), ⟨_, rfl, hb521⟩⟩)))
                · intro F1 w1 k1 hf hd
                  have k0 := (Keep.drew [] wl2).trans k1
                  have s1 := sl2.call k0
                  have m1 : Mv Bl2 wl2 Bl2 w1 := Mv.of_keep k0
                  have ho2_6 := ho2_6.mv m1 k0 (by simp)
                  obtain ⟨b522, e524, hb523⟩ : ∃ b, F1 68 = .pointer (some ⟨b, j * 1, none⟩) ∧ vo2_6.ownBlock = some b := hd 4 68 (by kernel_rfl)
                  obtain ⟨F2, rfl⟩ := lit_of (F := F1) [(68, Value.pointer (some ⟨b522, j * 1, none⟩))] ⟨e524, trivial⟩
                  exact sp_plain rfl ((o_loadO8 Try.underlying5 rfl rfl ho2_6 hb523 (by first | omega | (simp only [List.length_set, List.length_append, List.length_cons, List.length_nil, List.length_replicate, addS_len, refCoS_len]; omega)) (⟨(Keep.refl _ _), rfl⟩)))
                · intro F1 w1 k1 hf hd
                  have k0 := (Keep.drew [] wl2).trans k1
                  have s1 := sl2.call k0
                  have m1 : Mv Bl2 wl2 Bl2 w1 := Mv.of_keep k0
                  have hrd1_8 := hrd1_8.mv m1
                  obtain ⟨F2, rfl⟩ := lit_of (F := F1) [(8, vr1_8)] ⟨hf 8 (by kernel_rfl), trivial⟩
                  exact sp_plain rfl ((o_move (vr1_8) rfl (⟨(Keep.refl _ _), hrd1_8⟩)))
                · intro F1 w1 k1 hf hd
                  have k0 := (Keep.drew [] wl2).trans k1
                  have s1 := sl2.call k0
                  have m1 : Mv Bl2 wl2 Bl2 w1 := Mv.of_keep k0
                  obtain ⟨F2, rfl⟩ := lit_of (F := F1) [(11, vI ((j : Nat) : Int))] ⟨hf 11 (by kernel_rfl), trivial⟩
                  exact sp_plain rfl ((o_move (vI ((j : Nat) : Int)) rfl (⟨(Keep.refl _ _), rfl⟩)))
                · intro F1 w1 k1 hf hd
                  have k0 := (Keep.drew [] wl2).trans k1
                  have s1 := sl2.call k0
                  have m1 : Mv Bl2 wl2 Bl2 w1 := Mv.of_keep k0
                  obtain ⟨v525, e527, hl526⟩ : ∃ v, F1 70 = v ∧ RdL Enc.u8 w1 (Bl2 ++ O) v (refOne xs ys i xs.length) := ⟨_, rfl, hd 6 70 (by kernel_rfl)⟩
                  have := hl526.len_le
                  obtain ⟨F2, rfl⟩ := lit_of (F := F1) [(70, v525), (71, vI ((j : Nat) : Int))] ⟨e527, hd 7 71 (by kernel_rfl), trivial⟩
                  exact sp_plain rfl ((o_idx Try.underlying28 s_5 .i64 ((j : Nat) : Int) j rfl rfl rfl hl526 (by omega) fun a528 hp529 => (⟨(Keep.refl _ _), ⟨a528, rfl, hp529⟩⟩)))
                · intro F1 w1 k1 hf hd
                  have k0 := (Keep.drew [] wl2).trans k1
                  have s1 := sl2.call k0
                  have m1 : Mv Bl2 wl2 Bl2 w1 := Mv.of_keep k0
                  obtain ⟨a530, e532, hp531⟩ : ∃ a, F1 72 = .pointer (some a) ∧ PT Enc.u8 w1 (Bl2 ++ O) (.pointer (some a)) ((refOne xs ys i xs.length)[j]!) := hd 8 72 (by kernel_rfl)
                  obtain ⟨F2, rfl⟩ := lit_of (F := F1) [(72, Value.pointer (some a530))] ⟨e532, trivial⟩
                  exact sp_plain rfl ((o_loadB Try.underlying5 rfl rfl hp531 (⟨(Keep.refl _ _), rfl⟩)))
                · intro F1 w1 k1 hf hd
                  have k0 := (Keep.drew [] wl2).trans k1
                  have s1 := sl2.call k0
                  have m1 : Mv Bl2 wl2 Bl2 w1 := Mv.of_keep k0
                  obtain ⟨F2, rfl⟩ := lit_of (F := F1) [(69, vB ((addS (refCoS xs ys i) (refOne xs ys i xs.length) j)[j]!)), (73, vB ((refOne xs ys i xs.length)[j]!))] ⟨hd 5 69 (by kernel_rfl), hd 9 73 (by kernel_rfl), trivial⟩
                  exact sp_plain rfl ((o_xor8 ((addS (refCoS xs ys i) (refOne xs ys i xs.length) j)[j]!) ((refOne xs ys i xs.length)[j]!) rfl rfl (⟨(Keep.refl _ _), rfl⟩)))
                intro F534 w535 k533 hT536 hF537
                have s538 := sl2.call k533
                have m539 : Mv Bl2 wl2 Bl2 w535 := Mv.of_keep k533
                have h_xs := h_xs.mv m539
                have h_ys := h_ys.mv m539
                have ho2_6 := ho2_6.mv m539 k533 (by simp)
                have hrd1_8 := hrd1_8.mv m539
                obtain ⟨b541, e543, hb542⟩ : ∃ b, F534 68 = .pointer (some ⟨b, j * 1, none⟩) ∧ vo2_6.ownBlock = some b := hT536 4 68 (by kernel_rfl) (by decide)
                obtain ⟨v544, e546, hl545⟩ : ∃ v, F534 70 = v ∧ RdL Enc.u8 w535 (Bl2 ++ O) v (refOne xs ys i xs.length) := ⟨_, rfl, hT536 6 70 (by kernel_rfl) (by decide)⟩
                have := hl545.len_le
                obtain ⟨a547, e549, hp548⟩ : ∃ a, F534 72 = .pointer (some a) ∧ PT Enc.u8 w535 (Bl2 ++ O) (.pointer (some a)) ((refOne xs ys i xs.length)[j]!) := hT536 8 72 (by kernel_rfl) (by decide)
                obtain ⟨F2, rfl⟩ := lit_of (F := F534) [(0, xs_v), (1, ys_v), (6, vo2_6), (7, vI ((i : Nat) : Int)), (8, vr1_8), (11, vI ((j : Nat) : Int)), (58, vI ((j : Nat) : Int)), (59, vr1_8), (60, vI ((refOne xs ys i xs.length).length : Int)), (61, Value.bool (decide (((j : Nat) : Int) < ((refOne xs ys i xs.length).length : Int)))), (77, undef), (64, vo2_6), (65, vI ((j : Nat) : Int)), (66, vo2_6), (67, vI ((j : Nat) : Int)), (68, Value.pointer (some ⟨b541, j * 1, none⟩)), (69, vB ((addS (refCoS xs ys i) (refOne xs ys i xs.length) j)[j]!)), (70, v544), (71, vI ((j : Nat) : Int)), (72, Value.pointer (some a547)), (73, vB ((refOne xs ys i xs.length)[j]!)), (74, vB (((addS (refCoS xs ys i) (refOne xs ys i xs.length) j)[j]!) ^^^ ((refOne xs ys i xs.length)[j]!)))] ⟨hF537 0 (by kernel_rfl), hF537 1 (by kernel_rfl), hF537 6 (by kernel_rfl), hF537 7 (by kernel_rfl), hF537 8 (by kernel_rfl), hF537 11 (by kernel_rfl), hF537 58 (by kernel_rfl), hF537 59 (by kernel_rfl), hF537 60 (by kernel_rfl), hF537 61 (by kernel_rfl), hF537 77 (by kernel_rfl), hT536 0 64 (by kernel_rfl) (by decide), hT536 1 65 (by kernel_rfl) (by decide), hT536 2 66 (by kernel_rfl) (by decide), hT536 3 67 (by kernel_rfl) (by decide), e543, hT536 5 69 (by kernel_rfl) (by decide), e546, hT536 7 71 (by kernel_rfl) (by decide), e549, hT536 9 73 (by kernel_rfl) (by decide), hT536 10 74 (by kernel_rfl) (by decide), trivial⟩
                clear hT536 hF537
                refine wl_s (o_indexO Try.underlying28 s_5 .i64 ((j : Nat) : Int) j rfl rfl rfl ho2_6 (by first | omega | (simp only [List.length_set, List.length_append, List.length_cons, List.length_nil, List.length_replicate, addS_len, refCoS_len]; omega)) fun b550 hb551 => (wl_n (o_storeO (((addS (refCoS xs ys i) (refOne xs ys i xs.length) j)[j]!) ^^^ ((refOne xs ys i xs.length)[j]!)) s_5 rfl rfl rfl ho2_6 hb551 (hB2_6 _ hb551) (by first | omega | (simp only [List.length_set, List.length_append, List.length_cons, List.length_nil, List.length_replicate, addS_len, refCoS_len]; omega)) rfl s538 fun w552 s553 m554 k555 bx556 => (?_))))
                have h_xs := h_xs.mv m554
                have h_ys := h_ys.mv m554
                have hrd1_8 := hrd1_8.mv m554
                have hl545 := hl545.mv m554
                have hp548 := hp548.mv m554
                refine wl_nil (blockQ_n (thenQ_n (?_)))
                refine cw_region (by kernel_rfl) (wl_s (o_move (vI ((j : Nat) : Int)) rfl (wl_s (o_add .i64 ((j : Nat) : Int) (1 : Int) (((j + 1 : Nat) : Int)) rfl rfl (w64 (by omega) (by omega)) (wl_s (o_assign (vI ((j + 1 : Nat) : Int)) rfl (wl_nil (thenQ_n (?_)))))))))
                exact ⟨_, (by omega), (j + 1), vo2_6, Bl2, (by first | omega | (simp; done) | (simp; omega) | simp_all), rfl, ⟨_, upds_self _ ⟨rfl, rfl, rfl, rfl, rfl, (by first | rfl | exact congrArg (Value.int _) (by first | omega | (simp))), rfl, trivial⟩⟩, s553, (by rw [show addS (refCoS xs ys i) (refOne xs ys i xs.length) (j + 1) = (addS (refCoS xs ys i) (refOne xs ys i xs.length) j).set j (((addS (refCoS xs ys i) (refOne xs ys i xs.length) j)[j]!) ^^^ ((refOne xs ys i xs.length)[j]!)) from rfl]; exact bx556), hB2_6, h_xs, h_ys, hrd1_8⟩
              · have hp557 : ((refOne xs ys i xs.length).length : Int) ≤ ((j : Nat) : Int) := by first | simpa using hc518 | (have e := hc518; simp at e; omega)
                obtain rfl : j = (refOne xs ys i xs.length).length := by omega
                refine cw_exit (thenQ_x (thenQ_x (blockQ_x (blockQ_n (thenQ_n (?_))))))
                refine cw_region (by kernel_rfl) (wl_s (o_move (vI ((i : Nat) : Int)) rfl (wl_s (o_add .i64 ((i : Nat) : Int) (1 : Int) (((i + 1 : Nat) : Int)) rfl rfl (w64 (by omega) (by omega)) (wl_s (o_assign (vI ((i + 1 : Nat) : Int)) rfl (wl_nil (thenQ_n (?_)))))))))
                exact ⟨_, (by omega), (i + 1), vo2_6, Bl2, (by first | omega | (simp; done) | (simp; omega) | simp_all), rfl, ⟨_, upds_self _ ⟨rfl, rfl, rfl, (by first | rfl | exact congrArg (Value.int _) (by first | omega | (simp))), rfl, trivial⟩⟩, sl2, (by rw [show refCoS xs ys (i + 1) = addS (refCoS xs ys i) (refOne xs ys i xs.length) ((refOne xs ys i xs.length).length) from rfl]; exact ho2_6), hB2_6, h_xs, h_ys⟩
      · have hp558 : (xs.length : Int) ≤ ((i : Nat) : Int) := by first | simpa using hc445 | (have e := hc445; simp at e; omega)
        obtain rfl : i = xs.length := by omega
        refine cw_exit (thenQ_x (thenQ_x (blockQ_x (thenQ_n (?_)))))
        refine cw_seq (?_)
        refine cw_region (by kernel_rfl) (wl_s (o_move (vo0_6) rfl (wl_s (o_assign (vo0_6) rfl (wl_s (o_assign (vI (0 : Int)) rfl (wl_nil (thenQ_n (?_)))))))))
        refine cw_ret (end_r rfl (res2 rfl rfl rfl rfl) (?_))
        have e : (refCoeff xs ys) = (refCoS xs ys xs.length, (0 : Int)) := by simp [refCoeff, *]
        exact ⟨_, rfl, sl0.keep, by rw [e]; exact ⟨vo0_6, rfl, ho0_6.pub sl0⟩⟩
set_option maxHeartbeats 4000000 in
set_option maxRecDepth 100000 in
theorem c_wrong {O : List Nat} (xs_v : Value) (xs : List UInt8) (ys_v : Value) (ys : List UInt8) (w : World) (h_xs : RdL Enc.u8 w O xs_v xs) (h_ys : RdL Enc.u8 w O ys_v ys) (hO : ∀ b ∈ O, b < w.heap.size) : CallsK Try.prog 45 [xs_v, ys_v] w (fun v _ => v = .bool (wrongM xs ys)) :=  by
  have lim_xs := h_xs.len_le
  have h_xs : RdL Enc.u8 w ([] ++ O) xs_v xs := h_xs
  have lim_ys := h_ys.len_le
  have h_ys : RdL Enc.u8 w ([] ++ O) ys_v ys := h_ys
  have s0 : St w O w [] := St.start hO
  refine callsK_of 26 Try.func45 rfl rfl (of_decide_eq_true rfl) (fun F0 => ?_)
  refine cw_seq (?_)
  refine cw_region (by kernel_rfl) (wl_s (o_assign (Value.bool false) rfl (wl_nil (thenQ_n (?_)))))
  refine cw_seq (?_)
  refine cw_region (by kernel_rfl) (wl_s (o_makeMap s0 fun b559 w560 e565 s561 m562 k563 bx564 => (?_)))
  clear e565
  have h_xs := h_xs.mv m562
  have h_ys := h_ys.mv m562
  refine wl_s (o_alloc [.map none] z_77 rfl s561 fun b566 w567 e572 s568 m569 k570 bx571 => (?_))
  have ne573 : b559 ≠ b566 := by have := bx564.lt; omega
  clear e572
  have h_xs := h_xs.mv m569
  have h_ys := h_ys.mv m569
  have bx564 := bx564.keep k570 (by simp)
  refine wl_n (o_store1 (Value.map (some b559)) rfl rfl rfl s_77 (by first | assumption | simp) bx571 (of_decide_eq_true rfl) s568 fun w574 s575 m576 k577 bx578 => (?_))
  have h_xs := h_xs.mv m576
  have h_ys := h_ys.mv m576
  have bx564 := bx564.keep k577 (by simp only [List.mem_singleton]; first | omega | exact ne573)
  refine wl_nil (thenQ_n (?_))
  refine cw_seq (?_)
  refine cw_region (by kernel_rfl) (wl_s (o_makeFunc (first := []) (captured := [.tmp 5]) [] [Value.pointer (some ⟨b566, 0, none⟩)] rfl rfl (wl_s (o_assign (Value.func (.func 65) #[] #[Value.pointer (some ⟨b566, 0, none⟩)]) rfl (wl_nil (thenQ_n (?_)))))))
  refine cw_seq (?_)
  refine cw_seq (?_)
  refine cw_region (by kernel_rfl) (wl_s (o_move (xs_v) rfl (wl_s (o_lenR Try.underlying28 rfl h_xs (wl_s (o_move (ys_v) rfl (wl_s (o_lenR Try.underlying28 rfl h_ys (wl_s (o_neq .i64 (xs.length : Int) (ys.length : Int) rfl rfl (wl_nil (thenQ_n (?_)))))))))))))
  refine cw_cond ((xs.length : Int) != (ys.length : Int)) rfl rfl (fun hc579 => ?_) (fun hc579 => ?_)
  · have hp580 : (xs.length : Int) ≠ (ys.length : Int) := by first | simpa using hc579 | (have e := hc579; simp at e; omega)
    refine cw_seq (?_)
    refine cw_region (by kernel_rfl) (wl_s (o_assign (Value.bool true) rfl (wl_nil (thenQ_n (?_)))))
    refine cw_ret (thenQ_r (end_r rfl (res1 rfl rfl rfl) (?_)))
    have e : (wrongM xs ys) = true := by simp [wrongM, *]
    exact ⟨_, rfl, s575.keep, by rw [e]; exact rfl⟩
  · have hp581 : (xs.length : Int) = (ys.length : Int) := by first | simpa using hc579 | (have e := hc579; simp at e; omega)
    refine cw_skip (thenQ_n (?_))
    refine cw_seq (?_)
    refine cw_seq (?_)
    refine cw_region (by kernel_rfl) (wl_s (o_move (xs_v) rfl (wl_s (o_lenR Try.underlying28 rfl h_xs (wl_s (o_move (vI (0 : Int)) rfl (wl_nil (thenQ_n (?_)))))))))
    refine cw_block (?_)
    refine cw_loop (fun mI FI wI => ∃ (k : Nat) (B : List Nat), k ≤ xs.length ∧ twice xs xs.length = scan (fun k => if (xs.take k).contains xs[k]! then some true else none) false k (xs.length - k) ∧ mI = xs.length - k ∧ (∃ F1, FI = upds F1 [(6, Value.func (.func 65) #[] #[Value.pointer (some ⟨b566, 0, none⟩)]), (16, xs_v), (17, vI (xs.length : Int)), (18, vI ((k : Nat) : Int)), (26, undef)]) ∧ St w O wI B ∧ RdL Enc.u8 wI (B ++ O) (xs_v) (xs) ∧ MapB wI b559 (xs.take k) ∧ b559 ∈ B ∧ Box wI b566 77 [Value.map (some b559)] ∧ b566 ∈ B) (xs.length - (0)) ?_ ?_
    · exact ⟨(0), (b566 :: (b559 :: [])), (by first | omega | (simp; done) | (simp; omega) | simp_all), rfl, rfl, ⟨_, upds_self _ ⟨rfl, rfl, rfl, (by first | rfl | exact congrArg (Value.int _) (by first | omega | (simp))), rfl, trivial⟩⟩, s575, h_xs, (by rw [show xs.take (0) = [] from rfl]; exact bx564), (by simp), bx578, (by simp)⟩
    · intro ml0 F wl0 hI
      clear h_xs bx578
      obtain ⟨k, Bl0, hr0_0, hr0_1, hm0, ⟨Fl0, rfl⟩, sl0, h_xs, hbx_b559, hin_b559, bx578, hin_b566⟩ := hI
      refine cw_seq (?_)
      refine cw_region (by kernel_rfl) (wl_s (o_lss .i64 ((k : Nat) : Int) (xs.length : Int) rfl rfl (wl_nil (thenQ_n (?_)))))
      refine cw_seq (?_)
      refine cw_cond (decide (((k : Nat) : Int) < (xs.length : Int))) rfl rfl (fun hc582 => ?_) (fun hc582 => ?_)
      · have hp583 : ((k : Nat) : Int) < (xs.length : Int) := by first | simpa using hc582 | (have e := hc582; simp at e; omega)
        refine cw_skip (thenQ_n (?_))
        refine cw_seq (?_)
        refine cw_block (?_)
        refine cw_seq (?_)
        refine cw_region (by kernel_rfl) (wl_s (o_idx Try.underlying28 s_5 .i64 ((k : Nat) : Int) k rfl rfl rfl h_xs (by omega) fun a584 hp585 => (wl_s (o_loadB Try.underlying5 rfl rfl hp585 (wl_s (o_assign (vB (xs[k]!)) rfl (wl_nil (thenQ_n (?_)))))))))
        refine cw_seq (?_)
        refine cw_region (by kernel_rfl) (wl_s (o_move (Value.func (.func 65) #[] #[Value.pointer (some ⟨b566, 0, none⟩)]) rfl (wl_s (o_move (vB (xs[k]!)) rfl (wl_s (o_callv [] [Value.pointer (some ⟨b566, 0, none⟩)] [vB (xs[k]!)] _ enter_65 rfl rfl (calls_of_cw 9 Try.func65 rfl rfl (of_decide_eq_true rfl) (fun F586 => ?_)) (fun _ _ h => h)))))))
        refine cw_seq (?_)
        refine cw_region (by kernel_rfl) (wl_s (o_assign (Value.bool false) rfl (wl_nil (thenQ_n (?_)))))
        refine cw_seq (?_)
        refine cw_seq (?_)
        refine cw_region (by kernel_rfl) (wl_s (o_loadBx Try.underlying77 rfl (Value.map (some b559)) rfl bx578 rfl (wl_s (o_move (vB (xs[k]!)) rfl (wl_s (o_lookupB Try.underlying77 Try.underlying5 z_4 rfl rfl hbx_b559 (wl_nil (thenQ_n (?_)))))))))
        refine cw_cond ((xs.take k).contains (xs[k]!)) rfl rfl (fun hc587 => ?_) (fun hc587 => ?_)
        · have hp588 : ((xs.take k).contains (xs[k]!)) = true := by first | simpa using hc587 | (have e := hc587; simp at e; omega)
          refine cw_seq (?_)
          refine cw_region (by kernel_rfl) (wl_s (o_assign (Value.bool true) rfl (wl_nil (thenQ_n (?_)))))
          refine cw_ret (thenQ_r (end_r rfl (res1 rfl rfl rfl) (Exists.intro _ (And.intro rfl (?_)))))
          refine wl_nil (thenQ_n (?_))
          refine cw_cond true rfl rfl (fun _ => ?_) (fun h => by cases h)
          refine cw_seq (?_)
          refine cw_region (by kernel_rfl) (wl_s (o_assign (Value.bool true) rfl (wl_nil (thenQ_n (?_)))))
          refine cw_ret (blockQ_r (thenQ_r (thenQ_r (blockQ_r (thenQ_r (end_r rfl (res1 rfl rfl rfl) (?_)))))))
          have e : (wrongM xs ys) = true := by simp only [wrongM]; rw [if_neg (by simpa using by assumption), hr0_1]; exact scan_some (by omega) (by simp_all)
          exact ⟨_, rfl, sl0.keep, by rw [e]; exact rfl⟩
        · have hp589 : ((xs.take k).contains (xs[k]!)) = false := by first | simpa using hc587 | (have e := hc587; simp at e; omega)
          refine cw_skip (thenQ_n (?_))
          refine cw_seq (?_)
          refine cw_region (by kernel_rfl) (wl_s (o_loadBx Try.underlying77 rfl (Value.map (some b559)) rfl bx578 rfl (wl_s (o_move (vB (xs[k]!)) rfl (wl_n (o_updateB Try.underlying77 Try.underlying5 rfl rfl rfl (by first | assumption | simp_all) hbx_b559 (by first | assumption | simp) sl0 fun w590 s591 m592 k593 bx594 => (?_)))))))
          have h_xs := h_xs.mv m592
          have hp585 := hp585.mv m592
          have bx578 := bx578.keep k593 (by simp only [List.mem_singleton]; exact (Ne.symm ne573))
          refine wl_nil (thenQ_n (?_))
          refine cw_seq (?_)
          refine cw_region (by kernel_rfl) (wl_s (o_assign (Value.bool false) rfl (wl_nil (thenQ_n (?_)))))
          refine cw_ret (end_r rfl (res1 rfl rfl rfl) (Exists.intro _ (And.intro rfl (?_))))
          refine wl_nil (thenQ_n (?_))
          refine cw_cond false rfl rfl (fun h => by cases h) (fun _ => ?_)
          refine cw_skip (blockQ_n (thenQ_n (?_)))
          refine cw_region (by kernel_rfl) (wl_s (o_add .i64 ((k : Nat) : Int) (1 : Int) (((k + 1 : Nat) : Int)) rfl rfl (w64 (by omega) (by omega)) (wl_s (o_move (vI ((k + 1 : Nat) : Int)) rfl (wl_nil (thenQ_n (?_)))))))
          exact ⟨_, (by omega), (k + 1), Bl0, (by first | omega | (simp; done) | (simp; omega) | simp_all), (hr0_1.trans (scan_none (by omega) (by simp_all))), rfl, ⟨_, upds_self _ ⟨rfl, rfl, rfl, (by first | rfl | exact congrArg (Value.int _) (by first | omega | (simp))), rfl, trivial⟩⟩, s591, h_xs, (by rw [show xs.take (k + 1) = (xs.take k) ++ [xs[k]!] from take_snoc (by omega)]; exact bx594), (by first | assumption | (apply_assumption; assumption) | simp_all), bx578, (by first | assumption | (apply_assumption; assumption) | simp_all)⟩
      · have hp595 : (xs.length : Int) ≤ ((k : Nat) : Int) := by first | simpa using hc582 | (have e := hc582; simp at e; omega)
        refine cw_exit (thenQ_x (thenQ_x (blockQ_x (thenQ_n (?_)))))
        refine cw_seq (?_)
        refine cw_region (by kernel_rfl) (wl_s (o_assign (Value.bool false) rfl (wl_nil (thenQ_n (?_)))))
        refine cw_ret (end_r rfl (res1 rfl rfl rfl) (?_))
        have e : (wrongM xs ys) = false := by simp only [wrongM]; rw [if_neg (by simpa using by assumption), hr0_1]; exact scan_end (by omega)
        exact ⟨_, rfl, sl0.keep, by rw [e]; exact rfl⟩
set_option maxHeartbeats 4000000 in
set_option maxRecDepth 100000 in
theorem c_zeros {O : List Nat} (xs_v : Value) (xs : List UInt8) (w : World) (h_xs : RdL Enc.u8 w O xs_v xs) (hpre0 : xs.length < 1000000) (hO : ∀ b ∈ O, b < w.heap.size) : CallsK Try.prog 46 [xs_v] w (fun v w' => ∃ (x0 : Value), v = x0 ∧ RdL Enc.u8 w' (O) x0 (zeros xs)) :=  by
  have lim_xs := h_xs.len_le
  have h_xs : RdL Enc.u8 w ([] ++ O) xs_v xs := h_xs
  have s0 : St w O w [] := St.start hO
  refine callsK_of 53 Try.func46 rfl rfl (of_decide_eq_true rfl) (fun F0 => ?_)
  refine cw_seq (?_)
  refine cw_region (by kernel_rfl) (wl_s (o_assign (Value.slice none 0 0) rfl (wl_nil (thenQ_n (?_)))))
  refine cw_seq (?_)
  refine cw_region (by kernel_rfl) (wl_s (o_move (xs_v) rfl (wl_s (o_lenR Try.underlying28 rfl h_xs (wl_s (o_add .i64 (xs.length : Int) (1 : Int) (((xs.length + 1 : Nat) : Int)) rfl rfl (w64 (by omega) (by omega)) (wl_s (o_make (E := Enc.u8) Try.underlying28 i_5 [vB (0 : UInt8)] rfl rfl (by decide) (0 : UInt8) (fun _ _ => rfl) .i64 .i64 (1 : Int) ((xs.length + 1 : Nat) : Int) 1 (xs.length + 1) rfl rfl rfl rfl (by omega) (by omega) (by simp only [maxLen]; omega) s0 fun v600 b602 w596 e603 hb604 s597 m598 k599 hl601 => (?_)))))))))
  have hB605 : ∀ b, v600.ownBlock = some b → b ∈ (b602 :: []) := fun b hb => by rw [hb604] at hb; cases hb; simp
  clear e603 hb604
  have h_xs := h_xs.mv m598
  refine wl_s (o_assign (v600) rfl (wl_nil (thenQ_n (?_))))
  refine cw_seq (?_)
  refine cw_region (by kernel_rfl) (wl_s (o_move (v600) rfl (wl_s (o_indexO Try.underlying28 s_5 .i64 (0 : Int) 0 rfl rfl rfl hl601 (by first | omega | (simp only [List.length_set, List.length_append, List.length_cons, List.length_nil, List.length_replicate, zrS_len, zrO_len]; omega)) fun b606 hb607 => (wl_n (o_storeO (1 : UInt8) s_5 rfl rfl rfl hl601 hb607 (hB605 _ hb607) (by first | omega | (simp only [List.length_set, List.length_append, List.length_cons, List.length_nil, List.length_replicate, zrS_len, zrO_len]; omega)) rfl s597 fun w608 s609 m610 k611 bx612 => (?_)))))))
  have h_xs := h_xs.mv m610
  refine wl_nil (thenQ_n (?_))
  refine cw_seq (?_)
  refine cw_seq (?_)
  refine cw_region (by kernel_rfl) (wl_s (o_move (xs_v) rfl (wl_s (o_lenR Try.underlying28 rfl h_xs (wl_s (o_move (vI (0 : Int)) rfl (wl_nil (thenQ_n (?_)))))))))
  refine cw_block (?_)
  refine cw_loop (fun mI FI wI => ∃ (i : Nat) (vo0_3 : Value) (B : List Nat), i ≤ xs.length ∧ mI = xs.length - i ∧ (∃ F1, FI = upds F1 [(3, vo0_3), (13, xs_v), (14, vI (xs.length : Int)), (15, vI ((i : Nat) : Int)), (53, undef)]) ∧ St w O wI B ∧ Own Enc.u8 5 w.heap.size (B ++ O) wI vo0_3 (zrO xs i) ∧ (∀ b, vo0_3.ownBlock = some b → b ∈ B) ∧ RdL Enc.u8 wI (B ++ O) (xs_v) (xs)) (xs.length - (0)) ?_ ?_
  · exact ⟨(0), v600, (b602 :: []), (by first | omega | (simp; done) | (simp; omega) | simp_all), rfl, ⟨_, upds_self _ ⟨rfl, rfl, rfl, (by first | rfl | exact congrArg (Value.int _) (by first | omega | (simp))), rfl, trivial⟩⟩, s609, (by rw [show zrO xs (0) = (List.replicate 1 (0 : UInt8)).set 0 (1 : UInt8) from rfl]; exact bx612), hB605, h_xs⟩
  · intro ml0 F wl0 hI
    clear h_xs
    obtain ⟨i, vo0_3, Bl0, hr0_0, hm0, ⟨Fl0, rfl⟩, sl0, ho0_3, hB0_3, h_xs⟩ := hI
    refine cw_seq (?_)
    refine cw_region (by kernel_rfl) (wl_s (o_lss .i64 ((i : Nat) : Int) (xs.length : Int) rfl rfl (wl_nil (thenQ_n (?_)))))
    refine cw_seq (?_)
    refine cw_cond (decide (((i : Nat) : Int) < (xs.length : Int))) rfl rfl (fun hc613 => ?_) (fun hc613 => ?_)
    · have hp614 : ((i : Nat) : Int) < (xs.length : Int) := by first | simpa using hc613 | (have e := hc613; simp at e; omega)
      refine cw_skip (thenQ_n (?_))
      refine cw_seq (?_)
      refine cw_block (?_)
      refine cw_seq (?_)
      refine cw_region (by kernel_rfl) (wl_s (o_idx Try.underlying28 s_5 .i64 ((i : Nat) : Int) i rfl rfl rfl h_xs (by omega) fun a615 hp616 => (wl_s (o_loadB Try.underlying5 rfl rfl hp616 (wl_s (o_assign (vB (xs[i]!)) rfl (wl_nil (thenQ_n (?_)))))))))
      refine cw_seq (?_)
      refine cw_region (by kernel_rfl) (wl_s (o_move (vo0_3) rfl (wl_s (o_lit (E := Enc.u8) (xs := [.const (vB (0 : UInt8))]) Try.underlying28 s_5 z_5 (by decide) [vB (0 : UInt8)] [[vB (0 : UInt8)]] [(0 : UInt8)] rfl rfl rfl (Parts.cons rfl rfl (Parts.nil _ _ _)) (of_decide_eq_true rfl) sl0 fun v621 w617 s618 m619 k620 hl622 => (?_)))))
      have ho0_3 := ho0_3.mv m619 k620 (by simp)
      have h_xs := h_xs.mv m619
      have hp616 := hp616.mv m619
      have := hl622.len_le
      refine wl_s (o_append (E := Enc.u8) (l := zrO xs i) (m := [(0 : UInt8)]) Try.underlying28 i_5 rfl (by decide) rfl rfl ho0_3 hl622 (fun _ hb => .inl hb) hB0_3 (by simp [zrO_len]; omega) (by simp [zrO_len, maxLen]; omega) s618 fun v627 w623 B629 hB630 at631 sub632 s624 m625 k626 ho628 => (?_))
      have h_xs := h_xs.mv m625
      have hp616 := hp616.mv m625
      have hl622 := hl622.mv m625
      refine wl_s (o_assign (v627) rfl (wl_nil (thenQ_n (?_))))
      refine cw_seq (?_)
      refine cw_region (by kernel_rfl) (wl_s (o_move (v627) rfl (wl_s (o_lenO Try.underlying28 rfl ho628 (wl_s (o_sub .i64 (((zrO xs i) ++ ([(0 : UInt8)])).length : Int) (1 : Int) (((i + 1 : Nat) : Int)) rfl rfl (w64 (by omega) (by simp [zrO_len])) (wl_s (o_assign (vI ((i + 1 : Nat) : Int)) rfl (wl_nil (thenQ_n (?_)))))))))))
      refine cw_block (?_)
      have hzl : (zrO xs i ++ [0]).length = i + 2 := by simp [zrO_len]
      refine cw_loop (fun mI FI wI => ∃ (k : Nat) (vo1_3 : Value) (B : List Nat), k ≤ i + 2 ∧ mI = k ∧ (∃ F1, FI = upds F1 [(3, vo1_3), (5, vB (xs[i]!)), (6, vI ((k : Int) - 1)), (13, xs_v), (14, vI (xs.length : Int)), (15, vI ((i : Nat) : Int)), (53, undef)]) ∧ St w O wI B ∧ Own Enc.u8 5 w.heap.size (B ++ O) wI vo1_3 (zrS (zrO xs i ++ [0]) xs[i]! (i + 2 - k)) ∧ (∀ b, vo1_3.ownBlock = some b → b ∈ B) ∧ RdL Enc.u8 wI (B ++ O) (xs_v) (xs)) ((i + 2)) ?_ ?_
      · exact ⟨(i + 2), v627, B629, (by first | omega | (simp; done) | (simp; omega) | simp_all), rfl, ⟨_, upds_self _ ⟨rfl, rfl, (by first | rfl | exact congrArg (Value.int _) (by first | omega | (omega))), rfl, rfl, rfl, rfl, trivial⟩⟩, s624, (by rw [show zrS (zrO xs i ++ [0]) xs[i]! (i + 2 - (i + 2)) = (zrO xs i) ++ ([(0 : UInt8)]) from by rw [Nat.sub_self]; rfl]; exact ho628), hB630, h_xs⟩
      · intro ml1 F wl1 hI
        clear h_xs
        obtain ⟨k, vo1_3, Bl1, hr1_0, hm1, ⟨Fl1, rfl⟩, sl1, ho1_3, hB1_3, h_xs⟩ := hI
        refine cw_seq (?_)
        refine cw_seq (?_)
        refine cw_region (by kernel_rfl) (wl_s (o_move (vI ((k : Int) - 1)) rfl (wl_s (o_geq .i64 ((k : Int) - 1) (0 : Int) rfl rfl (wl_nil (thenQ_n (?_)))))))
        refine cw_cond (decide ((0 : Int) ≤ (k : Int) - 1)) rfl rfl (fun hc633 => ?_) (fun hc633 => ?_)
        · have hp634 : (0 : Int) ≤ (k : Int) - 1 := by first | simpa using hc633 | (have e := hc633; simp at e; omega)
          obtain ⟨q, rfl⟩ : ∃ q, k = q + 1 := ⟨k - 1, by omega⟩
          rw [show ((q + 1 : Nat) : Int) - 1 = ((q : Nat) : Int) from by omega]
          refine cw_skip (thenQ_n (?_))
          refine cw_seq (?_)
          refine cw_block (?_)
          refine cw_seq (?_)
          refine cw_region (by kernel_rfl) (wl_s (o_move (vo1_3) rfl (wl_s (o_move (vI ((q : Nat) : Int)) rfl (wl_s (o_move (vo1_3) rfl (wl_s (o_move (vI ((q : Nat) : Int)) rfl (wl_s (o_indexO Try.underlying28 s_5 .i64 ((q : Nat) : Int) q rfl rfl rfl ho1_3 (by first | omega | (simp only [List.length_set, List.length_append, List.length_cons, List.length_nil, List.length_replicate, zrS_len, zrO_len]; omega)) fun b635 hb636 => (wl_s (o_loadO8 Try.underlying5 rfl rfl ho1_3 hb636 (by first | omega | (simp only [List.length_set, List.length_append, List.length_cons, List.length_nil, List.length_replicate, zrS_len, zrO_len]; omega)) (wl_s (o_move (vB (xs[i]!)) rfl (wl_s (o_callK (vs := [vB ((zrS (zrO xs i ++ [0]) xs[i]! (i + 2 - (q + 1)))[q]!), vB (xs[i]!)]) enter_20 (c_mul (O := Bl1 ++ O) ((zrS (zrO xs i ++ [0]) xs[i]! (i + 2 - (q + 1)))[q]!) (xs[i]!) wl1 sl1.lt) rfl sl1 fun v637 w638 s639 m640 k641 r642 => (?_)))))))))))))))))
          obtain rfl := r642
          have ho1_3 := ho1_3.mv m640 k641 (by simp)
          have h_xs := h_xs.mv m640
          refine wl_s (o_indexO Try.underlying28 s_5 .i64 ((q : Nat) : Int) q rfl rfl rfl ho1_3 (by first | omega | (simp only [List.length_set, List.length_append, List.length_cons, List.length_nil, List.length_replicate, zrS_len, zrO_len]; omega)) fun b643 hb644 => (wl_n (o_storeO (gmul ((zrS (zrO xs i ++ [0]) xs[i]! (i + 2 - (q + 1)))[q]!) (xs[i]!)) s_5 rfl rfl rfl ho1_3 hb644 (hB1_3 _ hb644) (by first | omega | (simp only [List.length_set, List.length_append, List.length_cons, List.length_nil, List.length_replicate, zrS_len, zrO_len]; omega)) rfl s639 fun w645 s646 m647 k648 bx649 => (?_))))
          have h_xs := h_xs.mv m647
          refine wl_nil (thenQ_n (?_))
          refine cw_seq (?_)
          refine cw_region (by kernel_rfl) (wl_s (o_move (vI ((q : Nat) : Int)) rfl (wl_s (o_gtr .i64 ((q : Nat) : Int) (0 : Int) rfl rfl (wl_nil (thenQ_n (?_)))))))
          refine cw_cond (decide ((0 : Int) < ((q : Nat) : Int))) rfl rfl (fun hc650 => ?_) (fun hc650 => ?_)
          · have hp651 : (0 : Int) < ((q : Nat) : Int) := by first | simpa using hc650 | (have e := hc650; simp at e; omega)
            refine cw_draw' 9 _ _ [fun v _ => v = vo1_3, fun v _ => v = vI ((q : Nat) : Int), fun v w => ∃ b, v = .pointer (some ⟨b, q * 1, none⟩) ∧ vo1_3.ownBlock = some b, fun v _ => v = vB (((zrS (zrO xs i ++ [0]) xs[i]! (i + 2 - (q + 1))).set q (gmul ((zrS (zrO xs i ++ [0]) xs[i]! (i + 2 - (q + 1)))[q]!) (xs[i]!)))[q]!), fun v _ => v = vo1_3, fun v _ => v = vI ((q : Nat) : Int), fun v _ => v = vI ((q - 1 : Nat) : Int), fun v w => ∃ b, v = .pointer (some ⟨b, (q - 1) * 1, none⟩) ∧ vo1_3.ownBlock = some b, fun v _ => v = vB (((zrS (zrO xs i ++ [0]) xs[i]! (i + 2 - (q + 1))).set q (gmul ((zrS (zrO xs i ++ [0]) xs[i]! (i + 2 - (q + 1)))[q]!) (xs[i]!)))[q - 1]!)] (by kernel_rfl) (by kernel_rfl) (by kernel_rfl) (by kernel_rfl) rfl rfl ⟨fun _ _ _ h _ => h, fun _ _ _ h _ => h, fun _ _ _ h _ => h, fun _ _ _ h _ => h, fun _ _ _ h _ => h, fun _ _ _ h _ => h, fun _ _ _ h _ => h, fun _ _ _ h _ => h, fun _ _ _ h _ => h, trivial⟩ ⟨?_, ?_, ?_, ?_, ?_, ?_, ?_, ?_, ?_, trivial⟩ ?_
            · intro F1 w1 k1 hf hd
              have k0 := (Keep.drew [] w645).trans k1
              have s1 := s646.call k0
              have m1 : Mv Bl1 w645 Bl1 w1 := Mv.of_keep k0
              have bx649 := bx649.mv m1 k0 (by simp)
              obtain ⟨F2, rfl⟩ := lit_of (F := F1) [(3, vo1_3)] ⟨hf 3 (by kernel_rfl), trivial⟩
              exact sp_plain rfl ((o_move (vo1_3) rfl (⟨(Keep.refl _ _), rfl⟩)))
            · intro F1 w1 k1 hf hd
              have k0 := (Keep.drew [] w645).trans k1
              have s1 := s646.call k0
              have m1 : Mv Bl1 w645 Bl1 w1 := Mv.of_keep k0
              obtain ⟨F2, rfl⟩ := lit_of (F := F1) [(6, vI ((q : Nat) : Int))] ⟨hf 6 (by kernel_rfl), trivial⟩
              exact sp_plain rfl ((o_move (vI ((q : Nat) : Int)) rfl (⟨(Keep.refl _ _), rfl⟩)))
            · intro F1 w1 k1 hf hd
              have k0 := (Keep.drew [] w645).trans k1
              have s1 := s646.call k0
              have m1 : Mv Bl1 w645 Bl1 w1 := Mv.of_keep k0
              have bx649 := bx649.mv m1 k0 (by simp)
              obtain ⟨F2, rfl⟩ := lit_of (F := F1) [(40, vo1_3), (41, vI ((q : Nat) : Int))] ⟨hd 0 40 (by kernel_rfl), hd 1 41 (by kernel_rfl), trivial⟩
              exact sp_plain rfl ((o_indexO Try.underlying28 s_5 .i64 ((q : Nat) : Int) q rfl rfl rfl bx649 (by first | omega | (simp only [List.length_set, List.length_append, List.length_cons, List.length_nil, List.length_replicate, zrS_len, zrO_len]; omega)) fun b652 hb653 => (⟨(Keep.refl _ _), ⟨_, rfl, hb653⟩⟩)))
            · intro F1 w1 k1 hf hd
              have k0 := (Keep.drew [] w645).trans k1
              have s1 := s646.call k0
              have m1 : Mv Bl1 w645 Bl1 w1 := Mv.of_keep k0
              have bx649 := bx649.mv m1 k0 (by simp)
              obtain ⟨b654, e656, hb655⟩ : ∃ b, F1 42 = .pointer (some ⟨b, q * 1, none⟩) ∧ vo1_3.ownBlock = some b := hd 2 42 (by kernel_rfl)
              obtain ⟨F2, rfl⟩ := lit_of (F := F1) [(42, Value.pointer (some ⟨b654, q * 1, none⟩))] ⟨e656, trivial⟩
              exact sp_plain rfl ((o_loadO8 Try.underlying5 rfl rfl bx649 hb655 (by first | omega | (simp only [List.length_set, List.length_append, List.length_cons, List.length_nil, List.length_replicate, zrS_len, zrO_len]; omega)) (⟨(Keep.refl _ _), rfl⟩)))
            · intro F1 w1 k1 hf hd
              have k0 := (Keep.drew [] w645).trans k1
              have s1 := s646.call k0
              have m1 : Mv Bl1 w645 Bl1 w1 := Mv.of_keep k0
              have bx649 := bx649.mv m1 k0 (by simp)
              obtain ⟨F2, rfl⟩ := lit_of (F := F1) [(3, vo1_3)] ⟨hf 3 (by kernel_rfl), trivial⟩
              exact sp_plain rfl ((o_move (vo1_3) rfl (⟨(Keep.refl _ _), rfl⟩)))
            · intro F1 w1 k1 hf hd
              have k0 := (Keep.drew [] w645).trans k1
              have s1 := s646.call k0
              have m1 : Mv Bl1 w645 Bl1 w1 := Mv.of_keep k0
              obtain ⟨F2, rfl⟩ := lit_of (F := F1) [(6, vI ((q : Nat) : Int))] ⟨hf 6 (by kernel_rfl), trivial⟩
              exact sp_plain rfl ((o_move (vI ((q : Nat) : Int)) rfl (⟨(Keep.refl _ _), rfl⟩)))
            · intro F1 w1 k1 hf hd
              have k0 := (Keep.drew [] w645).trans k1
              have s1 := s646.call k0
              have m1 : Mv Bl1 w645 Bl1 w1 := Mv.of_keep k0
              obtain ⟨F2, rfl⟩ := lit_of (F := F1) [(45, vI ((q : Nat) : Int))] ⟨hd 5 45 (by kernel_rfl), trivial⟩
              exact sp_plain rfl ((o_sub .i64 ((q : Nat) : Int) (1 : Int) (((q - 1 : Nat) : Int)) rfl rfl (w64 (by omega) (by omega)) (⟨(Keep.refl _ _), rfl⟩)))
            · intro F1 w1 k1 hf hd
              have k0 := (Keep.drew [] w645).trans k1
              have s1 := s646.call k0
              have m1 : Mv Bl1 w645 Bl1 w1 := Mv.of_keep k0
              have bx649 := bx649.mv m1 k0 (by simp)
              obtain ⟨F2, rfl⟩ := lit_of (F := F1) [(44, vo1_3), (46, vI ((q - 1 : Nat) : Int))] ⟨hd 4 44 (by kernel_rfl), hd 6 46 (by kernel_rfl), trivial⟩
              exact sp_plain rfl ((o_indexO Try.underlying28 s_5 .i64 ((q - 1 : Nat) : Int) (q - 1) rfl rfl rfl bx649 (by first | omega | (simp only [List.length_set, List.length_append, List.length_cons, List.length_nil, List.length_replicate, zrS_len, zrO_len]; omega)) fun b657 hb658 => (⟨(Keep.refl _ _), ⟨_, rfl, hb658⟩⟩)))
            · intro F1 w1 k1 hf hd
              have k0 := (Keep.drew [] w645).trans k1
              have s1 := s646.call k0
              have m1 : Mv Bl1 w645 Bl1 w1 := Mv.of_keep k0
              have bx649 := bx649.mv m1 k0 (by simp)
              obtain ⟨b659, e661, hb660⟩ : ∃ b, F1 47 = .pointer (some ⟨b, (q - 1) * 1, none⟩) ∧ vo1_3.ownBlock = some b := hd 7 47 (by kernel_rfl)
              obtain ⟨F2, rfl⟩ := lit_of (F := F1) [(47, Value.pointer (some ⟨b659, (q - 1) * 1, none⟩))] ⟨e661, trivial⟩
              exact sp_plain rfl ((o_loadO8 Try.underlying5 rfl rfl bx649 hb660 (by first | omega | (simp only [List.length_set, List.length_append, List.length_cons, List.length_nil, List.length_replicate, zrS_len, zrO_len]; omega)) (⟨(Keep.refl _ _), rfl⟩)))
            intro F663 w664 k662 hT665 hF666
            have s667 := s646.call k662
            have m668 : Mv Bl1 w645 Bl1 w664 := Mv.of_keep k662
            have bx649 := bx649.mv m668 k662 (by simp)
            have h_xs := h_xs.mv m668
            obtain ⟨b670, e672, hb671⟩ : ∃ b, F663 42 = .pointer (some ⟨b, q * 1, none⟩) ∧ vo1_3.ownBlock = some b := hT665 2 42 (by kernel_rfl) (by decide)
            obtain ⟨b673, e675, hb674⟩ : ∃ b, F663 47 = .pointer (some ⟨b, (q - 1) * 1, none⟩) ∧ vo1_3.ownBlock = some b := hT665 7 47 (by kernel_rfl) (by decide)
            obtain ⟨F2, rfl⟩ := lit_of (F := F663) [(3, vo1_3), (5, vB (xs[i]!)), (6, vI ((q : Nat) : Int)), (13, xs_v), (14, vI (xs.length : Int)), (15, vI ((i : Nat) : Int)), (25, vI ((q : Nat) : Int)), (26, Value.bool (decide ((0 : Int) ≤ ((q : Nat) : Int)))), (29, vo1_3), (30, vI ((q : Nat) : Int)), (31, vo1_3), (32, vI ((q : Nat) : Int)), (34, vB ((zrS (zrO xs i ++ [0]) xs[i]! (i + 2 - (q + 1)))[q]!)), (35, vB (xs[i]!)), (36, vB (gmul ((zrS (zrO xs i ++ [0]) xs[i]! (i + 2 - (q + 1)))[q]!) (xs[i]!))), (38, vI ((q : Nat) : Int)), (39, Value.bool (decide ((0 : Int) < ((q : Nat) : Int)))), (53, undef), (40, vo1_3), (41, vI ((q : Nat) : Int)), (42, Value.pointer (some ⟨b670, q * 1, none⟩)), (43, vB (((zrS (zrO xs i ++ [0]) xs[i]! (i + 2 - (q + 1))).set q (gmul ((zrS (zrO xs i ++ [0]) xs[i]! (i + 2 - (q + 1)))[q]!) (xs[i]!)))[q]!)), (44, vo1_3), (45, vI ((q : Nat) : Int)), (46, vI ((q - 1 : Nat) : Int)), (47, Value.pointer (some ⟨b673, (q - 1) * 1, none⟩)), (48, vB (((zrS (zrO xs i ++ [0]) xs[i]! (i + 2 - (q + 1))).set q (gmul ((zrS (zrO xs i ++ [0]) xs[i]! (i + 2 - (q + 1)))[q]!) (xs[i]!)))[q - 1]!))] ⟨hF666 3 (by kernel_rfl), hF666 5 (by kernel_rfl), hF666 6 (by kernel_rfl), hF666 13 (by kernel_rfl), hF666 14 (by kernel_rfl), hF666 15 (by kernel_rfl), hF666 25 (by kernel_rfl), hF666 26 (by kernel_rfl), hF666 29 (by kernel_rfl), hF666 30 (by kernel_rfl), hF666 31 (by kernel_rfl), hF666 32 (by kernel_rfl), hF666 34 (by kernel_rfl), hF666 35 (by kernel_rfl), hF666 36 (by kernel_rfl), hF666 38 (by kernel_rfl), hF666 39 (by kernel_rfl), hF666 53 (by kernel_rfl), hT665 0 40 (by kernel_rfl) (by decide), hT665 1 41 (by kernel_rfl) (by decide), e672, hT665 3 43 (by kernel_rfl) (by decide), hT665 4 44 (by kernel_rfl) (by decide), hT665 5 45 (by kernel_rfl) (by decide), hT665 6 46 (by kernel_rfl) (by decide), e675, hT665 8 48 (by kernel_rfl) (by decide), trivial⟩
            clear hT665 hF666
            refine wl_s (o_xor8 (((zrS (zrO xs i ++ [0]) xs[i]! (i + 2 - (q + 1))).set q (gmul ((zrS (zrO xs i ++ [0]) xs[i]! (i + 2 - (q + 1)))[q]!) (xs[i]!)))[q]!) (((zrS (zrO xs i ++ [0]) xs[i]! (i + 2 - (q + 1))).set q (gmul ((zrS (zrO xs i ++ [0]) xs[i]! (i + 2 - (q + 1)))[q]!) (xs[i]!)))[q - 1]!) rfl rfl (wl_s (o_indexO Try.underlying28 s_5 .i64 ((q : Nat) : Int) q rfl rfl rfl bx649 (by first | omega | (simp only [List.length_set, List.length_append, List.length_cons, List.length_nil, List.length_replicate, zrS_len, zrO_len]; omega)) fun b676 hb677 => (wl_n (o_storeO ((((zrS (zrO xs i ++ [0]) xs[i]! (i + 2 - (q + 1))).set q (gmul ((zrS (zrO xs i ++ [0]) xs[i]! (i + 2 - (q + 1)))[q]!) (xs[i]!)))[q]!) ^^^ (((zrS (zrO xs i ++ [0]) xs[i]! (i + 2 - (q + 1))).set q (gmul ((zrS (zrO xs i ++ [0]) xs[i]! (i + 2 - (q + 1)))[q]!) (xs[i]!)))[q - 1]!)) s_5 rfl rfl rfl bx649 hb677 (hB1_3 _ hb677) (by first | omega | (simp only [List.length_set, List.length_append, List.length_cons, List.length_nil, List.length_replicate, zrS_len, zrO_len]; omega)) rfl s667 fun w678 s679 m680 k681 bx682 => (?_))))))
            have h_xs := h_xs.mv m680
            refine wl_nil (blockQ_n (thenQ_n (?_)))
            refine cw_region (by kernel_rfl) (wl_s (o_move (vI ((q : Nat) : Int)) rfl (wl_s (o_sub .i64 ((q : Nat) : Int) (1 : Int) (((q : Nat) : Int) - (1 : Int)) rfl rfl (w64 (by omega) (by omega)) (wl_s (o_assign (vI (((q : Nat) : Int) - (1 : Int))) rfl (wl_nil (thenQ_n (?_)))))))))
            exact ⟨_, (by omega), (q), vo1_3, Bl1, (by first | omega | (simp; done) | (simp; omega) | simp_all), rfl, ⟨_, upds_self _ ⟨rfl, rfl, (by first | rfl | exact congrArg (Value.int _) (by first | omega | (simp))), rfl, rfl, rfl, rfl, trivial⟩⟩, s679, (by rw [show zrS (zrO xs i ++ [0]) xs[i]! (i + 2 - (q)) = ((zrS (zrO xs i ++ [0]) xs[i]! (i + 2 - (q + 1))).set q (gmul ((zrS (zrO xs i ++ [0]) xs[i]! (i + 2 - (q + 1)))[q]!) (xs[i]!))).set q ((((zrS (zrO xs i ++ [0]) xs[i]! (i + 2 - (q + 1))).set q (gmul ((zrS (zrO xs i ++ [0]) xs[i]! (i + 2 - (q + 1)))[q]!) (xs[i]!)))[q]!) ^^^ (((zrS (zrO xs i ++ [0]) xs[i]! (i + 2 - (q + 1))).set q (gmul ((zrS (zrO xs i ++ [0]) xs[i]! (i + 2 - (q + 1)))[q]!) (xs[i]!)))[q - 1]!)) from by first | exact zrS_pos hzl.symm (by omega) (by assumption) | exact zrS_zero hzl.symm (by omega) (by assumption)]; exact bx682), hB1_3, h_xs⟩
          · have hp683 : ((q : Nat) : Int) ≤ (0 : Int) := by first | simpa using hc650 | (have e := hc650; simp at e; omega)
            refine cw_skip (blockQ_n (thenQ_n (?_)))
            refine cw_region (by kernel_rfl) (wl_s (o_move (vI ((q : Nat) : Int)) rfl (wl_s (o_sub .i64 ((q : Nat) : Int) (1 : Int) (((q : Nat) : Int) - (1 : Int)) rfl rfl (w64 (by omega) (by omega)) (wl_s (o_assign (vI (((q : Nat) : Int) - (1 : Int))) rfl (wl_nil (thenQ_n (?_)))))))))
            exact ⟨_, (by omega), (q), vo1_3, Bl1, (by first | omega | (simp; done) | (simp; omega) | simp_all), rfl, ⟨_, upds_self _ ⟨rfl, rfl, (by first | rfl | exact congrArg (Value.int _) (by first | omega | (simp))), rfl, rfl, rfl, rfl, trivial⟩⟩, s646, (by rw [show zrS (zrO xs i ++ [0]) xs[i]! (i + 2 - (q)) = (zrS (zrO xs i ++ [0]) xs[i]! (i + 2 - (q + 1))).set q (gmul ((zrS (zrO xs i ++ [0]) xs[i]! (i + 2 - (q + 1)))[q]!) (xs[i]!)) from by first | exact zrS_pos hzl.symm (by omega) (by assumption) | exact zrS_zero hzl.symm (by omega) (by assumption)]; exact bx649), hB1_3, h_xs⟩
        · have hp684 : (k : Int) - 1 < (0 : Int) := by first | simpa using hc633 | (have e := hc633; simp at e; omega)
          obtain rfl : k = 0 := by omega
          refine cw_exit (thenQ_x (thenQ_x (blockQ_x (blockQ_n (thenQ_n (?_))))))
          refine cw_region (by kernel_rfl) (wl_s (o_add .i64 ((i : Nat) : Int) (1 : Int) (((i + 1 : Nat) : Int)) rfl rfl (w64 (by omega) (by omega)) (wl_s (o_move (vI ((i + 1 : Nat) : Int)) rfl (wl_nil (thenQ_n (?_)))))))
          exact ⟨_, (by omega), (i + 1), vo1_3, Bl1, (by first | omega | (simp; done) | (simp; omega) | simp_all), rfl, ⟨_, upds_self _ ⟨rfl, rfl, rfl, (by first | rfl | exact congrArg (Value.int _) (by first | omega | (simp))), rfl, trivial⟩⟩, sl1, (by rw [show zrO xs (i + 1) = zrS (zrO xs i ++ [0]) xs[i]! (i + 2 - 0) from by rw [Nat.sub_zero, zrO, hzl]]; exact ho1_3), hB1_3, h_xs⟩
    · have hp685 : (xs.length : Int) ≤ ((i : Nat) : Int) := by first | simpa using hc613 | (have e := hc613; simp at e; omega)
      obtain rfl : i = xs.length := by omega
      refine cw_exit (thenQ_x (thenQ_x (blockQ_x (thenQ_n (?_)))))
      refine cw_seq (?_)
      refine cw_region (by kernel_rfl) (wl_s (o_move (vo0_3) rfl (wl_s (o_assign (vo0_3) rfl (wl_nil (thenQ_n (?_)))))))
      refine cw_ret (end_r rfl (res1 rfl rfl rfl) (?_))
      have e : (zeros xs) = (zrO xs xs.length) := rfl
      exact ⟨_, rfl, sl0.keep, by rw [e]; exact ⟨vo0_3, rfl, ho0_3.pub sl0⟩⟩

end Go.Proofs.Yteajcgfcnbdmgaa
