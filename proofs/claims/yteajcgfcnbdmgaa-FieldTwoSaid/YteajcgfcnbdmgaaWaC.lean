/- Walks, printed by gen.py. -/
import Derived.Test.YteajcgfcnbdmgaaWaB
import Derived.Test.YteajcgfcnbdmgaaFwM
namespace Go.Proofs.Yteajcgfcnbdmgaa
open Go.Fw Go.RowKit

set_option maxHeartbeats 4000000 in
set_option maxRecDepth 100000 in
theorem c_refThrough {O : List Nat} (xs_v : Value) (xs : List UInt8) (ys_v : Value) (ys : List UInt8) (at_ : UInt8) (w : World) (h_xs : RdL Enc.u8 w O xs_v xs) (h_ys : RdL Enc.u8 w O ys_v ys) (hO : ∀ b ∈ O, b < w.heap.size) : CallsK Try.prog 23 [xs_v, ys_v, vB at_] w (fun v _ => v = .tuple #[vB ((refThrough xs ys at_).1), vI ((refThrough xs ys at_).2)]) :=  by
  have lim_xs := h_xs.len_le
  have h_xs : RdL Enc.u8 w ([] ++ O) xs_v xs := h_xs
  have lim_ys := h_ys.len_le
  have h_ys : RdL Enc.u8 w ([] ++ O) ys_v ys := h_ys
  have s0 : St w O w [] := St.start hO
  refine callsK_of 57 Try.func23 rfl rfl (of_decide_eq_true rfl) (fun F0 => ?_)
  refine cw_seq (?_)
  refine cw_region (by kernel_rfl) (wl_s (o_assign (vB (0 : UInt8)) rfl (wl_s (o_assign (vI (0 : Int)) rfl (wl_nil (thenQ_n (?_)))))))
  refine cw_seq (?_)
  refine cw_seq (?_)
  refine cw_region (by kernel_rfl) (wl_s (o_move (xs_v) rfl (wl_s (o_move (ys_v) rfl (wl_s (o_callK (vs := [xs_v, ys_v]) enter_43 (c_refPoints (O := [] ++ O) xs_v xs ys_v ys w h_xs h_ys s0.lt) rfl s0 fun v246 w247 s248 m249 k250 r251 => (?_)))))))
  obtain rfl := r251
  have h_xs := h_xs.mv m249
  have h_ys := h_ys.mv m249
  refine wl_s (o_not (refPoints xs ys) rfl (wl_nil (thenQ_n (?_))))
  refine cw_cond (!(refPoints xs ys)) rfl rfl (fun hc252 => ?_) (fun hc252 => ?_)
  · have hp253 : (refPoints xs ys) = false := by first | simpa using hc252 | (have e := hc252; simp at e; omega)
    refine cw_seq (?_)
    refine cw_region (by kernel_rfl) (wl_s (o_assign (vB (0 : UInt8)) rfl (wl_s (o_assign (vI (1 : Int)) rfl (wl_nil (thenQ_n (?_)))))))
    refine cw_ret (thenQ_r (end_r rfl (res2 rfl rfl rfl rfl) (?_)))
    have e : (refThrough xs ys at_) = ((0 : UInt8), (1 : Int)) := by simp [refThrough, *]
    exact ⟨_, rfl, s248.keep, by rw [e]; exact rfl⟩
  · have hp254 : (refPoints xs ys) = true := by first | simpa using hc252 | (have e := hc252; simp at e; omega)
    have hxy := refPoints_len (by simpa using hc252)
    refine cw_skip (thenQ_n (?_))
    refine cw_seq (?_)
    refine cw_region (by kernel_rfl) (wl_s (o_assign (vB (0 : UInt8)) rfl (wl_nil (thenQ_n (?_)))))
    refine cw_seq (?_)
    refine cw_seq (?_)
    refine cw_region (by kernel_rfl) (wl_s (o_assign (vI (0 : Int)) rfl (wl_nil (thenQ_n (?_)))))
    refine cw_block (?_)
    refine cw_loop (fun mI FI wI => ∃ (i : Nat) (B : List Nat), i ≤ xs.length ∧ mI = xs.length - i ∧ (∃ F1, FI = upds F1 [(0, xs_v), (1, ys_v), (2, vB at_), (8, vB (refThY xs ys at_ i)), (9, vI ((i : Nat) : Int)), (57, undef)]) ∧ St w O wI B ∧ RdL Enc.u8 wI (B ++ O) (xs_v) (xs) ∧ RdL Enc.u8 wI (B ++ O) (ys_v) (ys)) (xs.length - (0)) ?_ ?_
    · exact ⟨(0), [], (by first | omega | (simp; done) | (simp; omega) | simp_all), rfl, ⟨_, upds_self _ ⟨rfl, rfl, rfl, (congrArg vB (by first | rfl | (rfl))), (by first | rfl | exact congrArg (Value.int _) (by first | omega | (simp))), rfl, trivial⟩⟩, s248, h_xs, h_ys⟩
    · intro ml0 F wl0 hI
      clear h_xs h_ys
      obtain ⟨i, Bl0, hr0_0, hm0, ⟨Fl0, rfl⟩, sl0, h_xs, h_ys⟩ := hI
      refine cw_seq (?_)
      refine cw_seq (?_)
      refine cw_region (by kernel_rfl) (wl_s (o_move (vI ((i : Nat) : Int)) rfl (wl_s (o_move (xs_v) rfl (wl_s (o_lenR Try.underlying28 rfl h_xs (wl_s (o_lss .i64 ((i : Nat) : Int) (xs.length : Int) rfl rfl (wl_nil (thenQ_n (?_)))))))))))
      refine cw_cond (decide (((i : Nat) : Int) < (xs.length : Int))) rfl rfl (fun hc255 => ?_) (fun hc255 => ?_)
      · have hp256 : ((i : Nat) : Int) < (xs.length : Int) := by first | simpa using hc255 | (have e := hc255; simp at e; omega)
        refine cw_skip (thenQ_n (?_))
        refine cw_seq (?_)
        refine cw_block (?_)
        refine cw_seq (?_)
        refine cw_region (by kernel_rfl) (wl_s (o_move (ys_v) rfl (wl_s (o_move (vI ((i : Nat) : Int)) rfl (wl_s (o_idx Try.underlying28 s_5 .i64 ((i : Nat) : Int) i rfl rfl rfl h_ys (by omega) fun a257 hp258 => (wl_s (o_loadB Try.underlying5 rfl rfl hp258 (wl_s (o_assign (vB (ys[i]!)) rfl (wl_nil (thenQ_n (?_)))))))))))))
        refine cw_seq (?_)
        refine cw_seq (?_)
        refine cw_region (by kernel_rfl) (wl_s (o_assign (vI (0 : Int)) rfl (wl_nil (thenQ_n (?_)))))
        refine cw_block (?_)
        refine cw_loop (fun mI FI wI => ∃ (k : Nat) (B : List Nat), k ≤ xs.length ∧ mI = xs.length - k ∧ (∃ F1, FI = upds F1 [(0, xs_v), (1, ys_v), (2, vB at_), (8, vB (refThY xs ys at_ i)), (9, vI ((i : Nat) : Int)), (10, vB (refThN xs at_ i ys[i]! k)), (11, vI ((k : Nat) : Int)), (57, undef)]) ∧ St w O wI B ∧ RdL Enc.u8 wI (B ++ O) (xs_v) (xs) ∧ RdL Enc.u8 wI (B ++ O) (ys_v) (ys)) (xs.length - (0)) ?_ ?_
        · exact ⟨(0), Bl0, (by first | omega | (simp; done) | (simp; omega) | simp_all), rfl, ⟨_, upds_self _ ⟨rfl, rfl, rfl, rfl, rfl, (congrArg vB (by first | rfl | (rfl))), (by first | rfl | exact congrArg (Value.int _) (by first | omega | (simp))), rfl, trivial⟩⟩, sl0, h_xs, h_ys⟩
        · intro ml1 F wl1 hI
          clear h_xs h_ys
          obtain ⟨k, Bl1, hr1_0, hm1, ⟨Fl1, rfl⟩, sl1, h_xs, h_ys⟩ := hI
          refine cw_seq (?_)
          refine cw_seq (?_)
          refine cw_region (by kernel_rfl) (wl_s (o_move (vI ((k : Nat) : Int)) rfl (wl_s (o_move (xs_v) rfl (wl_s (o_lenR Try.underlying28 rfl h_xs (wl_s (o_lss .i64 ((k : Nat) : Int) (xs.length : Int) rfl rfl (wl_nil (thenQ_n (?_)))))))))))
          refine cw_cond (decide (((k : Nat) : Int) < (xs.length : Int))) rfl rfl (fun hc259 => ?_) (fun hc259 => ?_)
          · have hp260 : ((k : Nat) : Int) < (xs.length : Int) := by first | simpa using hc259 | (have e := hc259; simp at e; omega)
            refine cw_skip (thenQ_n (?_))
            refine cw_seq (?_)
            refine cw_block (?_)
            refine cw_seq (?_)
            refine cw_region (by kernel_rfl) (wl_s (o_move (vI ((k : Nat) : Int)) rfl (wl_s (o_move (vI ((i : Nat) : Int)) rfl (wl_s (o_neq .i64 ((k : Nat) : Int) ((i : Nat) : Int) rfl rfl (wl_nil (thenQ_n (?_)))))))))
            refine cw_cond (((k : Nat) : Int) != ((i : Nat) : Int)) rfl rfl (fun hc261 => ?_) (fun hc261 => ?_)
            · have hp262 : ((k : Nat) : Int) ≠ ((i : Nat) : Int) := by first | simpa using hc261 | (have e := hc261; simp at e; omega)
              refine cw_draw' 17 _ _ [fun v _ => v = vB (refThN xs at_ i ys[i]! k), fun v _ => v = vB at_, fun v w => RdL Enc.u8 w (Bl1 ++ O) v (xs), fun v _ => v = vI ((k : Nat) : Int), fun v w => ∃ a, v = .pointer (some a) ∧ PT Enc.u8 w (Bl1 ++ O) (.pointer (some a)) (xs[k]!), fun v _ => v = vB (xs[k]!), fun v _ => v = vB (at_ ^^^ (xs[k]!)), fun v w => RdL Enc.u8 w (Bl1 ++ O) v (xs), fun v _ => v = vI ((i : Nat) : Int), fun v w => ∃ a, v = .pointer (some a) ∧ PT Enc.u8 w (Bl1 ++ O) (.pointer (some a)) (xs[i]!), fun v _ => v = vB (xs[i]!), fun v w => RdL Enc.u8 w (Bl1 ++ O) v (xs), fun v _ => v = vI ((k : Nat) : Int), fun v w => ∃ a, v = .pointer (some a) ∧ PT Enc.u8 w (Bl1 ++ O) (.pointer (some a)) (xs[k]!), fun v _ => v = vB (xs[k]!), fun v _ => v = vB ((xs[i]!) ^^^ (xs[k]!)), fun v _ => v = vB (refOver (at_ ^^^ (xs[k]!)) ((xs[i]!) ^^^ (xs[k]!)))] (by kernel_rfl) (by kernel_rfl) (by kernel_rfl) (by kernel_rfl) rfl rfl ⟨fun _ _ _ h _ => h, fun _ _ _ h _ => h, fun _ _ _ h k => h.mv (Mv.of_keep k), fun _ _ _ h _ => h, fun _ _ _ ⟨a, e, h⟩ k => ⟨a, e, h.mv (Mv.of_keep k)⟩, fun _ _ _ h _ => h, fun _ _ _ h _ => h, fun _ _ _ h k => h.mv (Mv.of_keep k), fun _ _ _ h _ => h, fun _ _ _ ⟨a, e, h⟩ k => ⟨a, e, h.mv (Mv.of_keep k)⟩, fun _ _ _ h _ => h, fun _ _ _ h k => h.mv (Mv.of_keep k), fun _ _ _ h _ => h, fun _ _ _ ⟨a, e, h⟩ k => ⟨a, e, h.mv (Mv.of_keep k)⟩, fun _ _ _ h _ => h, fun _ _ _ h _ => h, fun _ _ _ h _ => h, trivial⟩ ⟨?_, ?_, ?_, ?_, ?_, ?_, ?_, ?_, ?_, ?_, ?_, ?_, ?_, ?_, ?_, ?_, ?_, trivial⟩ ?_
              · intro F1 w1 k1 hf hd
                have k0 := (Keep.drew [] wl1).trans k1
                have s1 := sl1.call k0
                have m1 : Mv Bl1 wl1 Bl1 w1 := Mv.of_keep k0
                obtain ⟨F2, rfl⟩ := lit_of (F := F1) [(10, vB (refThN xs at_ i ys[i]! k))] ⟨hf 10 (by kernel_rfl), trivial⟩
                exact sp_plain rfl ((o_move (vB (refThN xs at_ i ys[i]! k)) rfl (⟨(Keep.refl _ _), rfl⟩)))
              · intro F1 w1 k1 hf hd
                have k0 := (Keep.drew [] wl1).trans k1
                have s1 := sl1.call k0
                have m1 : Mv Bl1 wl1 Bl1 w1 := Mv.of_keep k0
                obtain ⟨F2, rfl⟩ := lit_of (F := F1) [(2, vB at_)] ⟨hf 2 (by kernel_rfl), trivial⟩
                exact sp_plain rfl ((o_move (vB at_) rfl (⟨(Keep.refl _ _), rfl⟩)))
              · intro F1 w1 k1 hf hd
                have k0 := (Keep.drew [] wl1).trans k1
                have s1 := sl1.call k0
                have m1 : Mv Bl1 wl1 Bl1 w1 := Mv.of_keep k0
                have h_xs := h_xs.mv m1
                obtain ⟨F2, rfl⟩ := lit_of (F := F1) [(0, xs_v)] ⟨hf 0 (by kernel_rfl), trivial⟩
                exact sp_plain rfl ((o_move (xs_v) rfl (⟨(Keep.refl _ _), h_xs⟩)))
              · intro F1 w1 k1 hf hd
                have k0 := (Keep.drew [] wl1).trans k1
                have s1 := sl1.call k0
                have m1 : Mv Bl1 wl1 Bl1 w1 := Mv.of_keep k0
                obtain ⟨F2, rfl⟩ := lit_of (F := F1) [(11, vI ((k : Nat) : Int))] ⟨hf 11 (by kernel_rfl), trivial⟩
                exact sp_plain rfl ((o_move (vI ((k : Nat) : Int)) rfl (⟨(Keep.refl _ _), rfl⟩)))
              · intro F1 w1 k1 hf hd
                have k0 := (Keep.drew [] wl1).trans k1
                have s1 := sl1.call k0
                have m1 : Mv Bl1 wl1 Bl1 w1 := Mv.of_keep k0
                obtain ⟨v263, e265, hl264⟩ : ∃ v, F1 37 = v ∧ RdL Enc.u8 w1 (Bl1 ++ O) v (xs) := ⟨_, rfl, hd 2 37 (by kernel_rfl)⟩
                have := hl264.len_le
                obtain ⟨F2, rfl⟩ := lit_of (F := F1) [(37, v263), (38, vI ((k : Nat) : Int))] ⟨e265, hd 3 38 (by kernel_rfl), trivial⟩
                exact sp_plain rfl ((o_idx Try.underlying28 s_5 .i64 ((k : Nat) : Int) k rfl rfl rfl hl264 (by omega) fun a266 hp267 => (⟨(Keep.refl _ _), ⟨a266, rfl, hp267⟩⟩)))
              · intro F1 w1 k1 hf hd
                have k0 := (Keep.drew [] wl1).trans k1
                have s1 := sl1.call k0
                have m1 : Mv Bl1 wl1 Bl1 w1 := Mv.of_keep k0
                obtain ⟨a268, e270, hp269⟩ : ∃ a, F1 39 = .pointer (some a) ∧ PT Enc.u8 w1 (Bl1 ++ O) (.pointer (some a)) (xs[k]!) := hd 4 39 (by kernel_rfl)
                obtain ⟨F2, rfl⟩ := lit_of (F := F1) [(39, .pointer (some a268))] ⟨e270, trivial⟩
                exact sp_plain rfl ((o_loadB Try.underlying5 rfl rfl hp269 (⟨(Keep.refl _ _), rfl⟩)))
              · intro F1 w1 k1 hf hd
                have k0 := (Keep.drew [] wl1).trans k1
                have s1 := sl1.call k0
                have m1 : Mv Bl1 wl1 Bl1 w1 := Mv.of_keep k0
                obtain ⟨F2, rfl⟩ := lit_of (F := F1) [(36, vB at_), (40, vB (xs[k]!))] ⟨hd 1 36 (by kernel_rfl), hd 5 40 (by kernel_rfl), trivial⟩
                exact sp_plain rfl ((o_xor8 at_ (xs[k]!) rfl rfl (⟨(Keep.refl _ _), rfl⟩)))
              · intro F1 w1 k1 hf hd
                have k0 := (Keep.drew [] wl1).trans k1
                have s1 := sl1.call k0
                have m1 : Mv Bl1 wl1 Bl1 w1 := Mv.of_keep k0
                have h_xs := h_xs.mv m1
                obtain ⟨F2, rfl⟩ := lit_of (F := F1) [(0, xs_v)] ⟨hf 0 (by kernel_rfl), trivial⟩
                exact sp_plain rfl ((o_move (xs_v) rfl (⟨(Keep.refl _ _), h_xs⟩)))
              · intro F1 w1 k1 hf hd
                have k0 := (Keep.drew [] wl1).trans k1
                have s1 := sl1.call k0
                have m1 : Mv Bl1 wl1 Bl1 w1 := Mv.of_keep k0
                obtain ⟨F2, rfl⟩ := lit_of (F := F1) [(9, vI ((i : Nat) : Int))] ⟨hf 9 (by kernel_rfl), trivial⟩
                exact sp_plain rfl ((o_move (vI ((i : Nat) : Int)) rfl (⟨(Keep.refl _ _), rfl⟩)))
              · intro F1 w1 k1 hf hd
                have k0 := (Keep.drew [] wl1).trans k1
                have s1 := sl1.call k0
                have m1 : Mv Bl1 wl1 Bl1 w1 := Mv.of_keep k0
                obtain ⟨v271, e273, hl272⟩ : ∃ v, F1 42 = v ∧ RdL Enc.u8 w1 (Bl1 ++ O) v (xs) := ⟨_, rfl, hd 7 42 (by kernel_rfl)⟩
                have := hl272.len_le
                obtain ⟨F2, rfl⟩ := lit_of (F := F1) [(42, v271), (43, vI ((i : Nat) : Int))] ⟨e273, hd 8 43 (by kernel_rfl), trivial⟩
                exact sp_plain rfl ((o_idx Try.underlying28 s_5 .i64 ((i : Nat) : Int) i rfl rfl rfl hl272 (by omega) fun a274 hp275 => (⟨(Keep.refl _ _), ⟨a274, rfl, hp275⟩⟩)))
              · intro F1 w1 k1 hf hd
                have k0 := (Keep.drew [] wl1).trans k1
                have s1 := sl1.call k0
                have m1 : Mv Bl1 wl1 Bl1 w1 := Mv.of_keep k0
                obtain ⟨a276, e278, hp277⟩ : ∃ a, F1 44 = .pointer (some a) ∧ PT Enc.u8 w1 (Bl1 ++ O) (.pointer (some a)) (xs[i]!) := hd 9 44 (by kernel_rfl)
                obtain ⟨F2, rfl⟩ := lit_of (F := F1) [(44, .pointer (some a276))] ⟨e278, trivial⟩
                exact sp_plain rfl ((o_loadB Try.underlying5 rfl rfl hp277 (⟨(Keep.refl _ _), rfl⟩)))
              · intro F1 w1 k1 hf hd
                have k0 := (Keep.drew [] wl1).trans k1
                have s1 := sl1.call k0
                have m1 : Mv Bl1 wl1 Bl1 w1 := Mv.of_keep k0
                have h_xs := h_xs.mv m1
                obtain ⟨F2, rfl⟩ := lit_of (F := F1) [(0, xs_v)] ⟨hf 0 (by kernel_rfl), trivial⟩
                exact sp_plain rfl ((o_move (xs_v) rfl (⟨(Keep.refl _ _), h_xs⟩)))
              · intro F1 w1 k1 hf hd
                have k0 := (Keep.drew [] wl1).trans k1
                have s1 := sl1.call k0
                have m1 : Mv Bl1 wl1 Bl1 w1 := Mv.of_keep k0
                obtain ⟨F2, rfl⟩ := lit_of (F := F1) [(11, vI ((k : Nat) : Int))] ⟨hf 11 (by kernel_rfl), trivial⟩
                exact sp_plain rfl ((o_move (vI ((k : Nat) : Int)) rfl (⟨(Keep.refl _ _), rfl⟩)))
              · intro F1 w1 k1 hf hd
                have k0 := (Keep.drew [] wl1).trans k1
                have s1 := sl1.call k0
                have m1 : Mv Bl1 wl1 Bl1 w1 := Mv.of_keep k0
                obtain ⟨v279, e281, hl280⟩ : ∃ v, F1 46 = v ∧ RdL Enc.u8 w1 (Bl1 ++ O) v (xs) := ⟨_, rfl, hd 11 46 (by kernel_rfl)⟩
                have := hl280.len_le
                obtain ⟨F2, rfl⟩ := lit_of (F := F1) [(46, v279), (47, vI ((k : Nat) : Int))] ⟨e281, hd 12 47 (by kernel_rfl), trivial⟩
                exact sp_plain rfl ((o_idx Try.underlying28 s_5 .i64 ((k : Nat) : Int) k rfl rfl rfl hl280 (by omega) fun a282 hp283 => (⟨(Keep.refl _ _), ⟨a282, rfl, hp283⟩⟩)))
              · intro F1 w1 k1 hf hd
                have k0 := (Keep.drew [] wl1).trans k1
                have s1 := sl1.call k0
                have m1 : Mv Bl1 wl1 Bl1 w1 := Mv.of_keep k0
                obtain ⟨a284, e286, hp285⟩ : ∃ a, F1 48 = .pointer (some a) ∧ PT Enc.u8 w1 (Bl1 ++ O) (.pointer (some a)) (xs[k]!) := hd 13 48 (by kernel_rfl)
                obtain ⟨F2, rfl⟩ := lit_of (F := F1) [(48, .pointer (some a284))] ⟨e286, trivial⟩
                exact sp_plain rfl ((o_loadB Try.underlying5 rfl rfl hp285 (⟨(Keep.refl _ _), rfl⟩)))
              · intro F1 w1 k1 hf hd
                have k0 := (Keep.drew [] wl1).trans k1
                have s1 := sl1.call k0
                have m1 : Mv Bl1 wl1 Bl1 w1 := Mv.of_keep k0
                obtain ⟨F2, rfl⟩ := lit_of (F := F1) [(45, vB (xs[i]!)), (49, vB (xs[k]!))] ⟨hd 10 45 (by kernel_rfl), hd 14 49 (by kernel_rfl), trivial⟩
                exact sp_plain rfl ((o_xor8 (xs[i]!) (xs[k]!) rfl rfl (⟨(Keep.refl _ _), rfl⟩)))
              · intro F1 w1 k1 hf hd
                have k0 := (Keep.drew [] wl1).trans k1
                have s1 := sl1.call k0
                have m1 : Mv Bl1 wl1 Bl1 w1 := Mv.of_keep k0
                obtain ⟨F2, rfl⟩ := lit_of (F := F1) [(41, vB (at_ ^^^ (xs[k]!))), (50, vB ((xs[i]!) ^^^ (xs[k]!)))] ⟨hd 6 41 (by kernel_rfl), hd 15 50 (by kernel_rfl), trivial⟩
                refine sp_plain rfl ((o_callK (vs := [vB (at_ ^^^ (xs[k]!)), vB ((xs[i]!) ^^^ (xs[k]!))]) enter_44 (c_refOver (O := Bl1 ++ O) (at_ ^^^ (xs[k]!)) ((xs[i]!) ^^^ (xs[k]!)) w1 s1.lt) rfl s1 fun v287 w288 s289 m290 k291 r292 => (?_)))
                obtain rfl := r292
                exact ⟨k291, rfl⟩
              intro F294 w295 k293 hT296 hF297
              have s298 := sl1.call k293
              have m299 : Mv Bl1 wl1 Bl1 w295 := Mv.of_keep k293
              have h_xs := h_xs.mv m299
              have h_ys := h_ys.mv m299
              obtain ⟨v301, e303, hl302⟩ : ∃ v, F294 37 = v ∧ RdL Enc.u8 w295 (Bl1 ++ O) v (xs) := ⟨_, rfl, hT296 2 37 (by kernel_rfl) (by decide)⟩
              have := hl302.len_le
              obtain ⟨a304, e306, hp305⟩ : ∃ a, F294 39 = .pointer (some a) ∧ PT Enc.u8 w295 (Bl1 ++ O) (.pointer (some a)) (xs[k]!) := hT296 4 39 (by kernel_rfl) (by decide)
              obtain ⟨v307, e309, hl308⟩ : ∃ v, F294 42 = v ∧ RdL Enc.u8 w295 (Bl1 ++ O) v (xs) := ⟨_, rfl, hT296 7 42 (by kernel_rfl) (by decide)⟩
              have := hl308.len_le
              obtain ⟨a310, e312, hp311⟩ : ∃ a, F294 44 = .pointer (some a) ∧ PT Enc.u8 w295 (Bl1 ++ O) (.pointer (some a)) (xs[i]!) := hT296 9 44 (by kernel_rfl) (by decide)
              obtain ⟨v313, e315, hl314⟩ : ∃ v, F294 46 = v ∧ RdL Enc.u8 w295 (Bl1 ++ O) v (xs) := ⟨_, rfl, hT296 11 46 (by kernel_rfl) (by decide)⟩
              have := hl314.len_le
              obtain ⟨a316, e318, hp317⟩ : ∃ a, F294 48 = .pointer (some a) ∧ PT Enc.u8 w295 (Bl1 ++ O) (.pointer (some a)) (xs[k]!) := hT296 13 48 (by kernel_rfl) (by decide)
              obtain ⟨F2, rfl⟩ := lit_of (F := F294) [(0, xs_v), (1, ys_v), (2, vB at_), (8, vB (refThY xs ys at_ i)), (9, vI ((i : Nat) : Int)), (10, vB (refThN xs at_ i ys[i]! k)), (11, vI ((k : Nat) : Int)), (26, vI ((k : Nat) : Int)), (27, xs_v), (28, vI (xs.length : Int)), (29, .bool (decide (((k : Nat) : Int) < (xs.length : Int)))), (32, vI ((k : Nat) : Int)), (33, vI ((i : Nat) : Int)), (34, .bool (((k : Nat) : Int) != ((i : Nat) : Int))), (57, undef), (35, vB (refThN xs at_ i ys[i]! k)), (36, vB at_), (37, v301), (38, vI ((k : Nat) : Int)), (39, .pointer (some a304)), (40, vB (xs[k]!)), (41, vB (at_ ^^^ (xs[k]!))), (42, v307), (43, vI ((i : Nat) : Int)), (44, .pointer (some a310)), (45, vB (xs[i]!)), (46, v313), (47, vI ((k : Nat) : Int)), (48, .pointer (some a316)), (49, vB (xs[k]!)), (50, vB ((xs[i]!) ^^^ (xs[k]!))), (51, vB (refOver (at_ ^^^ (xs[k]!)) ((xs[i]!) ^^^ (xs[k]!))))] ⟨hF297 0 (by kernel_rfl), hF297 1 (by kernel_rfl), hF297 2 (by kernel_rfl), hF297 8 (by kernel_rfl), hF297 9 (by kernel_rfl), hF297 10 (by kernel_rfl), hF297 11 (by kernel_rfl), hF297 26 (by kernel_rfl), hF297 27 (by kernel_rfl), hF297 28 (by kernel_rfl), hF297 29 (by kernel_rfl), hF297 32 (by kernel_rfl), hF297 33 (by kernel_rfl), hF297 34 (by kernel_rfl), hF297 57 (by kernel_rfl), hT296 0 35 (by kernel_rfl) (by decide), hT296 1 36 (by kernel_rfl) (by decide), e303, hT296 3 38 (by kernel_rfl) (by decide), e306, hT296 5 40 (by kernel_rfl) (by decide), hT296 6 41 (by kernel_rfl) (by decide), e309, hT296 8 43 (by kernel_rfl) (by decide), e312, hT296 10 45 (by kernel_rfl) (by decide), e315, hT296 12 47 (by kernel_rfl) (by decide), e318, hT296 14 49 (by kernel_rfl) (by decide), hT296 15 50 (by kernel_rfl) (by decide), hT296 16 51 (by kernel_rfl) (by decide), trivial⟩
              clear hT296 hF297
              refine wl_s (o_callK (vs := [vB (refThN xs at_ i ys[i]! k), vB (refOver (at_ ^^^ (xs[k]!)) ((xs[i]!) ^^^ (xs[k]!)))]) enter_21 (c_refMul (O := Bl1 ++ O) (refThN xs at_ i ys[i]! k) (refOver (at_ ^^^ (xs[k]!)) ((xs[i]!) ^^^ (xs[k]!))) w295 s298.lt) rfl s298 fun v319 w320 s321 m322 k323 r324 => (?_))
              obtain rfl := r324
              have h_xs := h_xs.mv m322
              have h_ys := h_ys.mv m322
              have hl302 := hl302.mv m322
              have hp305 := hp305.mv m322
              have hl308 := hl308.mv m322
              have hp311 := hp311.mv m322
              have hl314 := hl314.mv m322
              have hp317 := hp317.mv m322
              refine wl_s (o_assign (vB (refMul (refThN xs at_ i ys[i]! k) (refOver (at_ ^^^ (xs[k]!)) ((xs[i]!) ^^^ (xs[k]!))))) rfl (wl_nil (blockQ_n (thenQ_n (?_)))))
              refine cw_region (by kernel_rfl) (wl_s (o_move (vI ((k : Nat) : Int)) rfl (wl_s (o_add .i64 ((k : Nat) : Int) (1 : Int) (((k + 1 : Nat) : Int)) rfl rfl (w64 (by omega) (by omega)) (wl_s (o_assign (vI ((k + 1 : Nat) : Int)) rfl (wl_nil (thenQ_n (?_)))))))))
              exact ⟨_, (by omega), (k + 1), Bl1, (by first | omega | (simp; done) | (simp; omega) | simp_all), rfl, ⟨_, upds_self _ ⟨rfl, rfl, rfl, rfl, rfl, (congrArg vB (by first | exact (refThN_yes (by assumption)).symm | exact (refThN_no (by assumption)).symm)), (by first | rfl | exact congrArg (Value.int _) (by first | omega | (simp))), rfl, trivial⟩⟩, s321, h_xs, h_ys⟩
            · have hp325 : ((k : Nat) : Int) = ((i : Nat) : Int) := by first | simpa using hc261 | (have e := hc261; simp at e; omega)
              refine cw_skip (blockQ_n (thenQ_n (?_)))
              refine cw_region (by kernel_rfl) (wl_s (o_move (vI ((k : Nat) : Int)) rfl (wl_s (o_add .i64 ((k : Nat) : Int) (1 : Int) (((k + 1 : Nat) : Int)) rfl rfl (w64 (by omega) (by omega)) (wl_s (o_assign (vI ((k + 1 : Nat) : Int)) rfl (wl_nil (thenQ_n (?_)))))))))
              exact ⟨_, (by omega), (k + 1), Bl1, (by first | omega | (simp; done) | (simp; omega) | simp_all), rfl, ⟨_, upds_self _ ⟨rfl, rfl, rfl, rfl, rfl, (congrArg vB (by first | exact (refThN_yes (by assumption)).symm | exact (refThN_no (by assumption)).symm)), (by first | rfl | exact congrArg (Value.int _) (by first | omega | (simp))), rfl, trivial⟩⟩, sl1, h_xs, h_ys⟩
          · have hp326 : (xs.length : Int) ≤ ((k : Nat) : Int) := by first | simpa using hc259 | (have e := hc259; simp at e; omega)
            obtain rfl : k = xs.length := by omega
            refine cw_exit (thenQ_x (thenQ_x (blockQ_x (thenQ_n (?_)))))
            refine cw_region (by kernel_rfl) (wl_s (o_move (vB (refThY xs ys at_ i)) rfl (wl_s (o_move (vB (refThN xs at_ i ys[i]! xs.length)) rfl (wl_s (o_xor8 (refThY xs ys at_ i) (refThN xs at_ i ys[i]! xs.length) rfl rfl (wl_s (o_assign (vB ((refThY xs ys at_ i) ^^^ (refThN xs at_ i ys[i]! xs.length))) rfl (wl_nil (blockQ_n (thenQ_n (?_))))))))))))
            refine cw_region (by kernel_rfl) (wl_s (o_move (vI ((i : Nat) : Int)) rfl (wl_s (o_add .i64 ((i : Nat) : Int) (1 : Int) (((i + 1 : Nat) : Int)) rfl rfl (w64 (by omega) (by omega)) (wl_s (o_assign (vI ((i + 1 : Nat) : Int)) rfl (wl_nil (thenQ_n (?_)))))))))
            exact ⟨_, (by omega), (i + 1), Bl1, (by first | omega | (simp; done) | (simp; omega) | simp_all), rfl, ⟨_, upds_self _ ⟨rfl, rfl, rfl, (congrArg vB (by first | rfl | (rfl))), (by first | rfl | exact congrArg (Value.int _) (by first | omega | (simp))), rfl, trivial⟩⟩, sl1, h_xs, h_ys⟩
      · have hp327 : (xs.length : Int) ≤ ((i : Nat) : Int) := by first | simpa using hc255 | (have e := hc255; simp at e; omega)
        obtain rfl : i = xs.length := by omega
        refine cw_exit (thenQ_x (thenQ_x (blockQ_x (thenQ_n (?_)))))
        refine cw_seq (?_)
        refine cw_region (by kernel_rfl) (wl_s (o_move (vB (refThY xs ys at_ xs.length)) rfl (wl_s (o_assign (vB (refThY xs ys at_ xs.length)) rfl (wl_s (o_assign (vI (0 : Int)) rfl (wl_nil (thenQ_n (?_)))))))))
        refine cw_ret (end_r rfl (res2 rfl rfl rfl rfl) (?_))
        have e : (refThrough xs ys at_) = (refThY xs ys at_ xs.length, (0 : Int)) := by simp [refThrough, *]
        exact ⟨_, rfl, sl0.keep, by rw [e]; exact rfl⟩
set_option maxHeartbeats 4000000 in
set_option maxRecDepth 100000 in
theorem c_times {O : List Nat} (l_v : Value) (l : List UInt8) (a : UInt8) (b : UInt8) (w : World) (h_l : RdL Enc.u8 w O l_v l) (hpre0 : l.length < 1000000) (hO : ∀ b ∈ O, b < w.heap.size) : CallsK Try.prog 47 [l_v, vB a, vB b] w (fun v w' => ∃ (x0 : Value), v = x0 ∧ RdL Enc.u8 w' (O) x0 (times l a b)) :=  by
  have lim_l := h_l.len_le
  have h_l : RdL Enc.u8 w ([] ++ O) l_v l := h_l
  have s0 : St w O w [] := St.start hO
  refine callsK_of 50 Try.func47 rfl rfl (of_decide_eq_true rfl) (fun F0 => ?_)
  refine cw_seq (?_)
  refine cw_region (by kernel_rfl) (wl_s (o_assign (.slice none 0 0) rfl (wl_nil (thenQ_n (?_)))))
  refine cw_seq (?_)
  refine cw_region (by kernel_rfl) (wl_s (o_move (l_v) rfl (wl_s (o_lenR Try.underlying28 rfl h_l (wl_s (o_add .i64 (l.length : Int) (1 : Int) (((l.length + 1 : Nat) : Int)) rfl rfl (w64 (by omega) (by omega)) (wl_s (o_make (E := Enc.u8) Try.underlying28 i_5 [vB (0 : UInt8)] rfl rfl (by decide) (0 : UInt8) (fun _ _ => rfl) .i64 .i64 ((l.length + 1 : Nat) : Int) ((l.length + 1 : Nat) : Int) (l.length + 1) (l.length + 1) rfl rfl rfl rfl (by omega) (by omega) (by simp only [maxLen]; omega) s0 fun v332 b334 w328 e335 hb336 s329 m330 k331 hl333 => (?_)))))))))
  have hB337 : ∀ b, v332.ownBlock = some b → b ∈ (b334 :: []) := fun b hb => by rw [hb336] at hb; cases hb; simp
  clear e335 hb336
  have h_l := h_l.mv m330
  refine wl_s (o_assign (v332) rfl (wl_nil (thenQ_n (?_))))
  refine cw_seq (?_)
  refine cw_seq (?_)
  refine cw_region (by kernel_rfl) (wl_s (o_assign (vI (0 : Int)) rfl (wl_nil (thenQ_n (?_)))))
  refine cw_block (?_)
  refine cw_loop (fun mI FI wI => ∃ (k : Nat) (vo0_7 : Value) (B : List Nat), k ≤ l.length ∧ mI = l.length - k ∧ (∃ F1, FI = upds F1 [(0, l_v), (1, vB a), (2, vB b), (7, vo0_7), (8, vI ((k : Nat) : Int)), (50, undef)]) ∧ St w O wI B ∧ Own Enc.u8 5 w.heap.size (B ++ O) wI vo0_7 (tmS l a b k) ∧ (∀ b, vo0_7.ownBlock = some b → b ∈ B) ∧ RdL Enc.u8 wI (B ++ O) (l_v) (l)) (l.length - (0)) ?_ ?_
  · exact ⟨(0), v332, (b334 :: []), (by first | omega | (simp; done) | (simp; omega) | simp_all), rfl, ⟨_, upds_self _ ⟨rfl, rfl, rfl, rfl, (by first | rfl | exact congrArg (Value.int _) (by first | omega | (simp))), rfl, trivial⟩⟩, s329, (by rw [show tmS l a b (0) = List.replicate (l.length + 1) (0 : UInt8) from rfl]; exact hl333), hB337, h_l⟩
  · intro ml0 F wl0 hI
    clear h_l
    obtain ⟨k, vo0_7, Bl0, hr0_0, hm0, ⟨Fl0, rfl⟩, sl0, ho0_7, hB0_7, h_l⟩ := hI
    refine cw_seq (?_)
    refine cw_seq (?_)
    refine cw_region (by kernel_rfl) (wl_s (o_move (vI ((k : Nat) : Int)) rfl (wl_s (o_move (l_v) rfl (wl_s (o_lenR Try.underlying28 rfl h_l (wl_s (o_lss .i64 ((k : Nat) : Int) (l.length : Int) rfl rfl (wl_nil (thenQ_n (?_)))))))))))
    refine cw_cond (decide (((k : Nat) : Int) < (l.length : Int))) rfl rfl (fun hc338 => ?_) (fun hc338 => ?_)
    · have hp339 : ((k : Nat) : Int) < (l.length : Int) := by first | simpa using hc338 | (have e := hc338; simp at e; omega)
      refine cw_skip (thenQ_n (?_))
      refine cw_seq (?_)
      refine cw_block (?_)
      refine cw_seq (?_)
      refine cw_draw' 13 _ _ [fun v _ => v = vo0_7, fun v _ => v = vI ((k : Nat) : Int), fun v _ => v = vo0_7, fun v _ => v = vI ((k : Nat) : Int), fun v w => ∃ b, v = .pointer (some ⟨b, k * 1, none⟩) ∧ vo0_7.ownBlock = some b, fun v _ => v = vB ((tmS l a b k)[k]!), fun v w => RdL Enc.u8 w (Bl0 ++ O) v (l), fun v _ => v = vI ((k : Nat) : Int), fun v w => ∃ a, v = .pointer (some a) ∧ PT Enc.u8 w (Bl0 ++ O) (.pointer (some a)) (l[k]!), fun v _ => v = vB (l[k]!), fun v _ => v = vB a, fun v _ => v = vB (refMul (l[k]!) a), fun v _ => v = vB (((tmS l a b k)[k]!) ^^^ (refMul (l[k]!) a))] (by kernel_rfl) (by kernel_rfl) (by kernel_rfl) (by kernel_rfl) rfl rfl ⟨fun _ _ _ h _ => h, fun _ _ _ h _ => h, fun _ _ _ h _ => h, fun _ _ _ h _ => h, fun _ _ _ h _ => h, fun _ _ _ h _ => h, fun _ _ _ h k => h.mv (Mv.of_keep k), fun _ _ _ h _ => h, fun _ _ _ ⟨a, e, h⟩ k => ⟨a, e, h.mv (Mv.of_keep k)⟩, fun _ _ _ h _ => h, fun _ _ _ h _ => h, fun _ _ _ h _ => h, fun _ _ _ h _ => h, trivial⟩ ⟨?_, ?_, ?_, ?_, ?_, ?_, ?_, ?_, ?_, ?_, ?_, ?_, ?_, trivial⟩ ?_
      · intro F1 w1 k1 hf hd
        have k0 := (Keep.drew [] wl0).trans k1
        have s1 := sl0.call k0
        have m1 : Mv Bl0 wl0 Bl0 w1 := Mv.of_keep k0
        have ho0_7 := ho0_7.mv m1 k0 (by simp)
        obtain ⟨F2, rfl⟩ := lit_of (F := F1) [(7, vo0_7)] ⟨hf 7 (by kernel_rfl), trivial⟩
        exact sp_plain rfl ((o_move (vo0_7) rfl (⟨(Keep.refl _ _), rfl⟩)))
      · intro F1 w1 k1 hf hd
        have k0 := (Keep.drew [] wl0).trans k1
        have s1 := sl0.call k0
        have m1 : Mv Bl0 wl0 Bl0 w1 := Mv.of_keep k0
        obtain ⟨F2, rfl⟩ := lit_of (F := F1) [(8, vI ((k : Nat) : Int))] ⟨hf 8 (by kernel_rfl), trivial⟩
        exact sp_plain rfl ((o_move (vI ((k : Nat) : Int)) rfl (⟨(Keep.refl _ _), rfl⟩)))
      · intro F1 w1 k1 hf hd
        have k0 := (Keep.drew [] wl0).trans k1
        have s1 := sl0.call k0
        have m1 : Mv Bl0 wl0 Bl0 w1 := Mv.of_keep k0
        have ho0_7 := ho0_7.mv m1 k0 (by simp)
        obtain ⟨F2, rfl⟩ := lit_of (F := F1) [(7, vo0_7)] ⟨hf 7 (by kernel_rfl), trivial⟩
        exact sp_plain rfl ((o_move (vo0_7) rfl (⟨(Keep.refl _ _), rfl⟩)))
      · intro F1 w1 k1 hf hd
        have k0 := (Keep.drew [] wl0).trans k1
        have s1 := sl0.call k0
        have m1 : Mv Bl0 wl0 Bl0 w1 := Mv.of_keep k0
        obtain ⟨F2, rfl⟩ := lit_of (F := F1) [(8, vI ((k : Nat) : Int))] ⟨hf 8 (by kernel_rfl), trivial⟩
        exact sp_plain rfl ((o_move (vI ((k : Nat) : Int)) rfl (⟨(Keep.refl _ _), rfl⟩)))
      · intro F1 w1 k1 hf hd
        have k0 := (Keep.drew [] wl0).trans k1
        have s1 := sl0.call k0
        have m1 : Mv Bl0 wl0 Bl0 w1 := Mv.of_keep k0
        have ho0_7 := ho0_7.mv m1 k0 (by simp)
        obtain ⟨F2, rfl⟩ := lit_of (F := F1) [(21, vo0_7), (22, vI ((k : Nat) : Int))] ⟨hd 2 21 (by kernel_rfl), hd 3 22 (by kernel_rfl), trivial⟩
        exact sp_plain rfl ((o_indexO Try.underlying28 s_5 .i64 ((k : Nat) : Int) k rfl rfl rfl ho0_7 (by first | omega | (simp only [List.length_set, List.length_append, List.length_cons, List.length_nil, List.length_replicate, tmS_len]; omega)) fun b340 hb341 => (⟨(Keep.refl _ _), ⟨_, rfl, hb341⟩⟩)))
      · intro F1 w1 k1 hf hd
        have k0 := (Keep.drew [] wl0).trans k1
        have s1 := sl0.call k0
        have m1 : Mv Bl0 wl0 Bl0 w1 := Mv.of_keep k0
        have ho0_7 := ho0_7.mv m1 k0 (by simp)
        obtain ⟨b342, e344, hb343⟩ : ∃ b, F1 23 = .pointer (some ⟨b, k * 1, none⟩) ∧ vo0_7.ownBlock = some b := hd 4 23 (by kernel_rfl)
        obtain ⟨F2, rfl⟩ := lit_of (F := F1) [(23, .pointer (some ⟨b342, k * 1, none⟩))] ⟨e344, trivial⟩
        exact sp_plain rfl ((o_loadO8 Try.underlying5 rfl rfl ho0_7 hb343 (by first | omega | (simp only [List.length_set, List.length_append, List.length_cons, List.length_nil, List.length_replicate, tmS_len]; omega)) (⟨(Keep.refl _ _), rfl⟩)))
      · intro F1 w1 k1 hf hd
        have k0 := (Keep.drew [] wl0).trans k1
        have s1 := sl0.call k0
        have m1 : Mv Bl0 wl0 Bl0 w1 := Mv.of_keep k0
        have h_l := h_l.mv m1
        obtain ⟨F2, rfl⟩ := lit_of (F := F1) [(0, l_v)] ⟨hf 0 (by kernel_rfl), trivial⟩
        exact sp_plain rfl ((o_move (l_v) rfl (⟨(Keep.refl _ _), h_l⟩)))
      · intro F1 w1 k1 hf hd
        have k0 := (Keep.drew [] wl0).trans k1
        have s1 := sl0.call k0
        have m1 : Mv Bl0 wl0 Bl0 w1 := Mv.of_keep k0
        obtain ⟨F2, rfl⟩ := lit_of (F := F1) [(8, vI ((k : Nat) : Int))] ⟨hf 8 (by kernel_rfl), trivial⟩
        exact sp_plain rfl ((o_move (vI ((k : Nat) : Int)) rfl (⟨(Keep.refl _ _), rfl⟩)))
      · intro F1 w1 k1 hf hd
        have k0 := (Keep.drew [] wl0).trans k1
        have s1 := sl0.call k0
        have m1 : Mv Bl0 wl0 Bl0 w1 := Mv.of_keep k0
        obtain ⟨v345, e347, hl346⟩ : ∃ v, F1 25 = v ∧ RdL Enc.u8 w1 (Bl0 ++ O) v (l) := ⟨_, rfl, hd 6 25 (by kernel_rfl)⟩
        have := hl346.len_le
        obtain ⟨F2, rfl⟩ := lit_of (F := F1) [(25, v345), (26, vI ((k : Nat) : Int))] ⟨e347, hd 7 26 (by kernel_rfl), trivial⟩
        exact sp_plain rfl ((o_idx Try.underlying28 s_5 .i64 ((k : Nat) : Int) k rfl rfl rfl hl346 (by omega) fun a348 hp349 => (⟨(Keep.refl _ _), ⟨a348, rfl, hp349⟩⟩)))
      · intro F1 w1 k1 hf hd
        have k0 := (Keep.drew [] wl0).trans k1
        have s1 := sl0.call k0
        have m1 : Mv Bl0 wl0 Bl0 w1 := Mv.of_keep k0
        obtain ⟨a350, e352, hp351⟩ : ∃ a, F1 27 = .pointer (some a) ∧ PT Enc.u8 w1 (Bl0 ++ O) (.pointer (some a)) (l[k]!) := hd 8 27 (by kernel_rfl)
        obtain ⟨F2, rfl⟩ := lit_of (F := F1) [(27, .pointer (some a350))] ⟨e352, trivial⟩
        exact sp_plain rfl ((o_loadB Try.underlying5 rfl rfl hp351 (⟨(Keep.refl _ _), rfl⟩)))
      · intro F1 w1 k1 hf hd
        have k0 := (Keep.drew [] wl0).trans k1
        have s1 := sl0.call k0
        have m1 : Mv Bl0 wl0 Bl0 w1 := Mv.of_keep k0
        obtain ⟨F2, rfl⟩ := lit_of (F := F1) [(1, vB a)] ⟨hf 1 (by kernel_rfl), trivial⟩
        exact sp_plain rfl ((o_move (vB a) rfl (⟨(Keep.refl _ _), rfl⟩)))
      · intro F1 w1 k1 hf hd
        have k0 := (Keep.drew [] wl0).trans k1
        have s1 := sl0.call k0
        have m1 : Mv Bl0 wl0 Bl0 w1 := Mv.of_keep k0
        obtain ⟨F2, rfl⟩ := lit_of (F := F1) [(28, vB (l[k]!)), (29, vB a)] ⟨hd 9 28 (by kernel_rfl), hd 10 29 (by kernel_rfl), trivial⟩
        refine sp_plain rfl ((o_callK (vs := [vB (l[k]!), vB a]) enter_21 (c_refMul (O := Bl0 ++ O) (l[k]!) a w1 s1.lt) rfl s1 fun v353 w354 s355 m356 k357 r358 => (?_)))
        obtain rfl := r358
        exact ⟨k357, rfl⟩
      · intro F1 w1 k1 hf hd
        have k0 := (Keep.drew [] wl0).trans k1
        have s1 := sl0.call k0
        have m1 : Mv Bl0 wl0 Bl0 w1 := Mv.of_keep k0
        obtain ⟨F2, rfl⟩ := lit_of (F := F1) [(24, vB ((tmS l a b k)[k]!)), (30, vB (refMul (l[k]!) a))] ⟨hd 5 24 (by kernel_rfl), hd 11 30 (by kernel_rfl), trivial⟩
        exact sp_plain rfl ((o_xor8 ((tmS l a b k)[k]!) (refMul (l[k]!) a) rfl rfl (⟨(Keep.refl _ _), rfl⟩)))
      intro F360 w361 k359 hT362 hF363
      have s364 := sl0.call k359
      have m365 : Mv Bl0 wl0 Bl0 w361 := Mv.of_keep k359
      have h_l := h_l.mv m365
      have ho0_7 := ho0_7.mv m365 k359 (by simp)
      obtain ⟨b367, e369, hb368⟩ : ∃ b, F360 23 = .pointer (some ⟨b, k * 1, none⟩) ∧ vo0_7.ownBlock = some b := hT362 4 23 (by kernel_rfl) (by decide)
      obtain ⟨v370, e372, hl371⟩ : ∃ v, F360 25 = v ∧ RdL Enc.u8 w361 (Bl0 ++ O) v (l) := ⟨_, rfl, hT362 6 25 (by kernel_rfl) (by decide)⟩
      have := hl371.len_le
      obtain ⟨a373, e375, hp374⟩ : ∃ a, F360 27 = .pointer (some a) ∧ PT Enc.u8 w361 (Bl0 ++ O) (.pointer (some a)) (l[k]!) := hT362 8 27 (by kernel_rfl) (by decide)
      obtain ⟨F2, rfl⟩ := lit_of (F := F360) [(0, l_v), (1, vB a), (2, vB b), (7, vo0_7), (8, vI ((k : Nat) : Int)), (13, vI ((k : Nat) : Int)), (14, l_v), (15, vI (l.length : Int)), (16, .bool (decide (((k : Nat) : Int) < (l.length : Int)))), (50, undef), (19, vo0_7), (20, vI ((k : Nat) : Int)), (21, vo0_7), (22, vI ((k : Nat) : Int)), (23, .pointer (some ⟨b367, k * 1, none⟩)), (24, vB ((tmS l a b k)[k]!)), (25, v370), (26, vI ((k : Nat) : Int)), (27, .pointer (some a373)), (28, vB (l[k]!)), (29, vB a), (30, vB (refMul (l[k]!) a)), (31, vB (((tmS l a b k)[k]!) ^^^ (refMul (l[k]!) a)))] ⟨hF363 0 (by kernel_rfl), hF363 1 (by kernel_rfl), hF363 2 (by kernel_rfl), hF363 7 (by kernel_rfl), hF363 8 (by kernel_rfl), hF363 13 (by kernel_rfl), hF363 14 (by kernel_rfl), hF363 15 (by kernel_rfl), hF363 16 (by kernel_rfl), hF363 50 (by kernel_rfl), hT362 0 19 (by kernel_rfl) (by decide), hT362 1 20 (by kernel_rfl) (by decide), hT362 2 21 (by kernel_rfl) (by decide), hT362 3 22 (by kernel_rfl) (by decide), e369, hT362 5 24 (by kernel_rfl) (by decide), e372, hT362 7 26 (by kernel_rfl) (by decide), e375, hT362 9 28 (by kernel_rfl) (by decide), hT362 10 29 (by kernel_rfl) (by decide), hT362 11 30 (by kernel_rfl) (by decide), hT362 12 31 (by kernel_rfl) (by decide), trivial⟩
      clear hT362 hF363
      refine wl_s (o_indexO Try.underlying28 s_5 .i64 ((k : Nat) : Int) k rfl rfl rfl ho0_7 (by first | omega | (simp only [List.length_set, List.length_append, List.length_cons, List.length_nil, List.length_replicate, tmS_len]; omega)) fun b376 hb377 => (wl_n (o_storeO (((tmS l a b k)[k]!) ^^^ (refMul (l[k]!) a)) s_5 rfl rfl rfl ho0_7 hb377 (hB0_7 _ hb377) (by first | omega | (simp only [List.length_set, List.length_append, List.length_cons, List.length_nil, List.length_replicate, tmS_len]; omega)) rfl s364 fun w378 s379 m380 k381 bx382 => (?_))))
      have h_l := h_l.mv m380
      have hl371 := hl371.mv m380
      have hp374 := hp374.mv m380
      refine wl_nil (thenQ_n (?_))
      refine cw_draw' 15 _ _ [fun v _ => v = vo0_7, fun v _ => v = vI ((k : Nat) : Int), fun v _ => v = vI ((k + 1 : Nat) : Int), fun v _ => v = vo0_7, fun v _ => v = vI ((k : Nat) : Int), fun v _ => v = vI ((k + 1 : Nat) : Int), fun v w => ∃ b, v = .pointer (some ⟨b, (k + 1) * 1, none⟩) ∧ vo0_7.ownBlock = some b, fun v _ => v = vB (((tmS l a b k).set k (((tmS l a b k)[k]!) ^^^ (refMul (l[k]!) a)))[k + 1]!), fun v w => RdL Enc.u8 w (Bl0 ++ O) v (l), fun v _ => v = vI ((k : Nat) : Int), fun v w => ∃ a, v = .pointer (some a) ∧ PT Enc.u8 w (Bl0 ++ O) (.pointer (some a)) (l[k]!), fun v _ => v = vB (l[k]!), fun v _ => v = vB b, fun v _ => v = vB (refMul (l[k]!) b), fun v _ => v = vB ((((tmS l a b k).set k (((tmS l a b k)[k]!) ^^^ (refMul (l[k]!) a)))[k + 1]!) ^^^ (refMul (l[k]!) b))] (by kernel_rfl) (by kernel_rfl) (by kernel_rfl) (by kernel_rfl) rfl rfl ⟨fun _ _ _ h _ => h, fun _ _ _ h _ => h, fun _ _ _ h _ => h, fun _ _ _ h _ => h, fun _ _ _ h _ => h, fun _ _ _ h _ => h, fun _ _ _ h _ => h, fun _ _ _ h _ => h, fun _ _ _ h k => h.mv (Mv.of_keep k), fun _ _ _ h _ => h, fun _ _ _ ⟨a, e, h⟩ k => ⟨a, e, h.mv (Mv.of_keep k)⟩, fun _ _ _ h _ => h, fun _ _ _ h _ => h, fun _ _ _ h _ => h, fun _ _ _ h _ => h, trivial⟩ ⟨?_, ?_, ?_, ?_, ?_, ?_, ?_, ?_, ?_, ?_, ?_, ?_, ?_, ?_, ?_, trivial⟩ ?_
      · intro F1 w1 k1 hf hd
        have k0 := (Keep.drew [] w378).trans k1
        have s1 := s379.call k0
        have m1 : Mv Bl0 w378 Bl0 w1 := Mv.of_keep k0
        have bx382 := bx382.mv m1 k0 (by simp)
        obtain ⟨F2, rfl⟩ := lit_of (F := F1) [(7, vo0_7)] ⟨hf 7 (by kernel_rfl), trivial⟩
        exact sp_plain rfl ((o_move (vo0_7) rfl (⟨(Keep.refl _ _), rfl⟩)))
      · intro F1 w1 k1 hf hd
        have k0 := (Keep.drew [] w378).trans k1
        have s1 := s379.call k0
        have m1 : Mv Bl0 w378 Bl0 w1 := Mv.of_keep k0
        obtain ⟨F2, rfl⟩ := lit_of (F := F1) [(8, vI ((k : Nat) : Int))] ⟨hf 8 (by kernel_rfl), trivial⟩
        exact sp_plain rfl ((o_move (vI ((k : Nat) : Int)) rfl (⟨(Keep.refl _ _), rfl⟩)))
      · intro F1 w1 k1 hf hd
        have k0 := (Keep.drew [] w378).trans k1
        have s1 := s379.call k0
        have m1 : Mv Bl0 w378 Bl0 w1 := Mv.of_keep k0
        obtain ⟨F2, rfl⟩ := lit_of (F := F1) [(34, vI ((k : Nat) : Int))] ⟨hd 1 34 (by kernel_rfl), trivial⟩
        exact sp_plain rfl ((o_add .i64 ((k : Nat) : Int) (1 : Int) (((k + 1 : Nat) : Int)) rfl rfl (w64 (by omega) (by omega)) (⟨(Keep.refl _ _), rfl⟩)))
      · intro F1 w1 k1 hf hd
        have k0 := (Keep.drew [] w378).trans k1
        have s1 := s379.call k0
        have m1 : Mv Bl0 w378 Bl0 w1 := Mv.of_keep k0
        have bx382 := bx382.mv m1 k0 (by simp)
        obtain ⟨F2, rfl⟩ := lit_of (F := F1) [(7, vo0_7)] ⟨hf 7 (by kernel_rfl), trivial⟩
        exact sp_plain rfl ((o_move (vo0_7) rfl (⟨(Keep.refl _ _), rfl⟩)))
      · intro F1 w1 k1 hf hd
        have k0 := (Keep.drew [] w378).trans k1
        have s1 := s379.call k0
        have m1 : Mv Bl0 w378 Bl0 w1 := Mv.of_keep k0
        obtain ⟨F2, rfl⟩ := lit_of (F := F1) [(8, vI ((k : Nat) : Int))] ⟨hf 8 (by kernel_rfl), trivial⟩
        exact sp_plain rfl ((o_move (vI ((k : Nat) : Int)) rfl (⟨(Keep.refl _ _), rfl⟩)))
      · intro F1 w1 k1 hf hd
        have k0 := (Keep.drew [] w378).trans k1
        have s1 := s379.call k0
        have m1 : Mv Bl0 w378 Bl0 w1 := Mv.of_keep k0
        obtain ⟨F2, rfl⟩ := lit_of (F := F1) [(37, vI ((k : Nat) : Int))] ⟨hd 4 37 (by kernel_rfl), trivial⟩
        exact sp_plain rfl ((o_add .i64 ((k : Nat) : Int) (1 : Int) (((k + 1 : Nat) : Int)) rfl rfl (w64 (by omega) (by omega)) (⟨(Keep.refl _ _), rfl⟩)))
      · intro F1 w1 k1 hf hd
        have k0 := (Keep.drew [] w378).trans k1
        have s1 := s379.call k0
        have m1 : Mv Bl0 w378 Bl0 w1 := Mv.of_keep k0
        have bx382 := bx382.mv m1 k0 (by simp)
        obtain ⟨F2, rfl⟩ := lit_of (F := F1) [(36, vo0_7), (38, vI ((k + 1 : Nat) : Int))] ⟨hd 3 36 (by kernel_rfl), hd 5 38 (by kernel_rfl), trivial⟩
        exact sp_plain rfl ((o_indexO Try.underlying28 s_5 .i64 ((k + 1 : Nat) : Int) (k + 1) rfl rfl rfl bx382 (by first | omega | (simp only [List.length_set, List.length_append, List.length_cons, List.length_nil, List.length_replicate, tmS_len]; omega)) fun b383 hb384 => (⟨(Keep.refl _ _), ⟨_, rfl, hb384⟩⟩)))
      · intro F1 w1 k1 hf hd
        have k0 := (Keep.drew [] w378).trans k1
        have s1 := s379.call k0
        have m1 : Mv Bl0 w378 Bl0 w1 := Mv.of_keep k0
        have bx382 := bx382.mv m1 k0 (by simp)
        obtain ⟨b385, e387, hb386⟩ : ∃ b, F1 39 = .pointer (some ⟨b, (k + 1) * 1, none⟩) ∧ vo0_7.ownBlock = some b := hd 6 39 (by kernel_rfl)
        obtain ⟨F2, rfl⟩ := lit_of (F := F1) [(39, .pointer (some ⟨b385, (k + 1) * 1, none⟩))] ⟨e387, trivial⟩
        exact sp_plain rfl ((o_loadO8 Try.underlying5 rfl rfl bx382 hb386 (by first | omega | (simp only [List.length_set, List.length_append, List.length_cons, List.length_nil, List.length_replicate, tmS_len]; omega)) (⟨(Keep.refl _ _), rfl⟩)))
      · intro F1 w1 k1 hf hd
        have k0 := (Keep.drew [] w378).trans k1
        have s1 := s379.call k0
        have m1 : Mv Bl0 w378 Bl0 w1 := Mv.of_keep k0
        have h_l := h_l.mv m1
        obtain ⟨F2, rfl⟩ := lit_of (F := F1) [(0, l_v)] ⟨hf 0 (by kernel_rfl), trivial⟩
        exact sp_plain rfl ((o_move (l_v) rfl (⟨(Keep.refl _ _), h_l⟩)))
      · intro F1 w1 k1 hf hd
        have k0 := (Keep.drew [] w378).trans k1
        have s1 := s379.call k0
        have m1 : Mv Bl0 w378 Bl0 w1 := Mv.of_keep k0
        obtain ⟨F2, rfl⟩ := lit_of (F := F1) [(8, vI ((k : Nat) : Int))] ⟨hf 8 (by kernel_rfl), trivial⟩
        exact sp_plain rfl ((o_move (vI ((k : Nat) : Int)) rfl (⟨(Keep.refl _ _), rfl⟩)))
      · intro F1 w1 k1 hf hd
        have k0 := (Keep.drew [] w378).trans k1
        have s1 := s379.call k0
        have m1 : Mv Bl0 w378 Bl0 w1 := Mv.of_keep k0
        obtain ⟨v388, e390, hl389⟩ : ∃ v, F1 41 = v ∧ RdL Enc.u8 w1 (Bl0 ++ O) v (l) := ⟨_, rfl, hd 8 41 (by kernel_rfl)⟩
        have := hl389.len_le
        obtain ⟨F2, rfl⟩ := lit_of (F := F1) [(41, v388), (42, vI ((k : Nat) : Int))] ⟨e390, hd 9 42 (by kernel_rfl), trivial⟩
        exact sp_plain rfl ((o_idx Try.underlying28 s_5 .i64 ((k : Nat) : Int) k rfl rfl rfl hl389 (by omega) fun a391 hp392 => (⟨(Keep.refl _ _), ⟨a391, rfl, hp392⟩⟩)))
      · intro F1 w1 k1 hf hd
        have k0 := (Keep.drew [] w378).trans k1
        have s1 := s379.call k0
        have m1 : Mv Bl0 w378 Bl0 w1 := Mv.of_keep k0
        obtain ⟨a393, e395, hp394⟩ : ∃ a, F1 43 = .pointer (some a) ∧ PT Enc.u8 w1 (Bl0 ++ O) (.pointer (some a)) (l[k]!) := hd 10 43 (by kernel_rfl)
        obtain ⟨F2, rfl⟩ := lit_of (F := F1) [(43, .pointer (some a393))] ⟨e395, trivial⟩
        exact sp_plain rfl ((o_loadB Try.underlying5 rfl rfl hp394 (⟨(Keep.refl _ _), rfl⟩)))
      · intro F1 w1 k1 hf hd
        have k0 := (Keep.drew [] w378).trans k1
        have s1 := s379.call k0
        have m1 : Mv Bl0 w378 Bl0 w1 := Mv.of_keep k0
        obtain ⟨F2, rfl⟩ := lit_of (F := F1) [(2, vB b)] ⟨hf 2 (by kernel_rfl), trivial⟩
        exact sp_plain rfl ((o_move (vB b) rfl (⟨(Keep.refl _ _), rfl⟩)))
      · intro F1 w1 k1 hf hd
        have k0 := (Keep.drew [] w378).trans k1
        have s1 := s379.call k0
        have m1 : Mv Bl0 w378 Bl0 w1 := Mv.of_keep k0
        obtain ⟨F2, rfl⟩ := lit_of (F := F1) [(44, vB (l[k]!)), (45, vB b)] ⟨hd 11 44 (by kernel_rfl), hd 12 45 (by kernel_rfl), trivial⟩
        refine sp_plain rfl ((o_callK (vs := [vB (l[k]!), vB b]) enter_21 (c_refMul (O := Bl0 ++ O) (l[k]!) b w1 s1.lt) rfl s1 fun v396 w397 s398 m399 k400 r401 => (?_)))
        obtain rfl := r401
        exact ⟨k400, rfl⟩
      · intro F1 w1 k1 hf hd
        have k0 := (Keep.drew [] w378).trans k1
        have s1 := s379.call k0
        have m1 : Mv Bl0 w378 Bl0 w1 := Mv.of_keep k0
        obtain ⟨F2, rfl⟩ := lit_of (F := F1) [(40, vB (((tmS l a b k).set k (((tmS l a b k)[k]!) ^^^ (refMul (l[k]!) a)))[k + 1]!)), (46, vB (refMul (l[k]!) b))] ⟨hd 7 40 (by kernel_rfl), hd 13 46 (by kernel_rfl), trivial⟩
        exact sp_plain rfl ((o_xor8 (((tmS l a b k).set k (((tmS l a b k)[k]!) ^^^ (refMul (l[k]!) a)))[k + 1]!) (refMul (l[k]!) b) rfl rfl (⟨(Keep.refl _ _), rfl⟩)))
      intro F403 w404 k402 hT405 hF406
      have s407 := s379.call k402
      have m408 : Mv Bl0 w378 Bl0 w404 := Mv.of_keep k402
      have h_l := h_l.mv m408
      have bx382 := bx382.mv m408 k402 (by simp)
      have hl371 := hl371.mv m408
      have hp374 := hp374.mv m408
      obtain ⟨b410, e412, hb411⟩ : ∃ b, F403 39 = .pointer (some ⟨b, (k + 1) * 1, none⟩) ∧ vo0_7.ownBlock = some b := hT405 6 39 (by kernel_rfl) (by decide)
      obtain ⟨v413, e415, hl414⟩ : ∃ v, F403 41 = v ∧ RdL Enc.u8 w404 (Bl0 ++ O) v (l) := ⟨_, rfl, hT405 8 41 (by kernel_rfl) (by decide)⟩
      have := hl414.len_le
      obtain ⟨a416, e418, hp417⟩ : ∃ a, F403 43 = .pointer (some a) ∧ PT Enc.u8 w404 (Bl0 ++ O) (.pointer (some a)) (l[k]!) := hT405 10 43 (by kernel_rfl) (by decide)
      obtain ⟨F2, rfl⟩ := lit_of (F := F403) [(0, l_v), (1, vB a), (2, vB b), (7, vo0_7), (8, vI ((k : Nat) : Int)), (13, vI ((k : Nat) : Int)), (14, l_v), (15, vI (l.length : Int)), (16, .bool (decide (((k : Nat) : Int) < (l.length : Int)))), (19, vo0_7), (20, vI ((k : Nat) : Int)), (21, vo0_7), (22, vI ((k : Nat) : Int)), (24, vB ((tmS l a b k)[k]!)), (25, v370), (26, vI ((k : Nat) : Int)), (27, .pointer (some a373)), (28, vB (l[k]!)), (29, vB a), (30, vB (refMul (l[k]!) a)), (31, vB (((tmS l a b k)[k]!) ^^^ (refMul (l[k]!) a))), (50, undef), (33, vo0_7), (34, vI ((k : Nat) : Int)), (35, vI ((k + 1 : Nat) : Int)), (36, vo0_7), (37, vI ((k : Nat) : Int)), (38, vI ((k + 1 : Nat) : Int)), (39, .pointer (some ⟨b410, (k + 1) * 1, none⟩)), (40, vB (((tmS l a b k).set k (((tmS l a b k)[k]!) ^^^ (refMul (l[k]!) a)))[k + 1]!)), (41, v413), (42, vI ((k : Nat) : Int)), (43, .pointer (some a416)), (44, vB (l[k]!)), (45, vB b), (46, vB (refMul (l[k]!) b)), (47, vB ((((tmS l a b k).set k (((tmS l a b k)[k]!) ^^^ (refMul (l[k]!) a)))[k + 1]!) ^^^ (refMul (l[k]!) b)))] ⟨hF406 0 (by kernel_rfl), hF406 1 (by kernel_rfl), hF406 2 (by kernel_rfl), hF406 7 (by kernel_rfl), hF406 8 (by kernel_rfl), hF406 13 (by kernel_rfl), hF406 14 (by kernel_rfl), hF406 15 (by kernel_rfl), hF406 16 (by kernel_rfl), hF406 19 (by kernel_rfl), hF406 20 (by kernel_rfl), hF406 21 (by kernel_rfl), hF406 22 (by kernel_rfl), hF406 24 (by kernel_rfl), hF406 25 (by kernel_rfl), hF406 26 (by kernel_rfl), hF406 27 (by kernel_rfl), hF406 28 (by kernel_rfl), hF406 29 (by kernel_rfl), hF406 30 (by kernel_rfl), hF406 31 (by kernel_rfl), hF406 50 (by kernel_rfl), hT405 0 33 (by kernel_rfl) (by decide), hT405 1 34 (by kernel_rfl) (by decide), hT405 2 35 (by kernel_rfl) (by decide), hT405 3 36 (by kernel_rfl) (by decide), hT405 4 37 (by kernel_rfl) (by decide), hT405 5 38 (by kernel_rfl) (by decide), e412, hT405 7 40 (by kernel_rfl) (by decide), e415, hT405 9 42 (by kernel_rfl) (by decide), e418, hT405 11 44 (by kernel_rfl) (by decide), hT405 12 45 (by kernel_rfl) (by decide), hT405 13 46 (by kernel_rfl) (by decide), hT405 14 47 (by kernel_rfl) (by decide), trivial⟩
      clear hT405 hF406
      refine wl_s (o_indexO Try.underlying28 s_5 .i64 ((k + 1 : Nat) : Int) (k + 1) rfl rfl rfl bx382 (by first | omega | (simp only [List.length_set, List.length_append, List.length_cons, List.length_nil, List.length_replicate, tmS_len]; omega)) fun b419 hb420 => (wl_n (o_storeO ((((tmS l a b k).set k (((tmS l a b k)[k]!) ^^^ (refMul (l[k]!) a)))[k + 1]!) ^^^ (refMul (l[k]!) b)) s_5 rfl rfl rfl bx382 hb420 (hB0_7 _ hb420) (by first | omega | (simp only [List.length_set, List.length_append, List.length_cons, List.length_nil, List.length_replicate, tmS_len]; omega)) rfl s407 fun w421 s422 m423 k424 bx425 => (?_))))
      have h_l := h_l.mv m423
      have hl371 := hl371.mv m423
      have hp374 := hp374.mv m423
      have hl414 := hl414.mv m423
      have hp417 := hp417.mv m423
      refine wl_nil (blockQ_n (thenQ_n (?_)))
      refine cw_region (by kernel_rfl) (wl_s (o_move (vI ((k : Nat) : Int)) rfl (wl_s (o_add .i64 ((k : Nat) : Int) (1 : Int) (((k + 1 : Nat) : Int)) rfl rfl (w64 (by omega) (by omega)) (wl_s (o_assign (vI ((k + 1 : Nat) : Int)) rfl (wl_nil (thenQ_n (?_)))))))))
      exact ⟨_, (by omega), (k + 1), vo0_7, Bl0, (by first | omega | (simp; done) | (simp; omega) | simp_all), rfl, ⟨_, upds_self _ ⟨rfl, rfl, rfl, rfl, (by first | rfl | exact congrArg (Value.int _) (by first | omega | (simp))), rfl, trivial⟩⟩, s422, (by rw [show tmS l a b (k + 1) = ((tmS l a b k).set k (((tmS l a b k)[k]!) ^^^ (refMul (l[k]!) a))).set (k + 1) ((((tmS l a b k).set k (((tmS l a b k)[k]!) ^^^ (refMul (l[k]!) a)))[k + 1]!) ^^^ (refMul (l[k]!) b)) from rfl]; exact bx425), hB0_7, h_l⟩
    · have hp426 : (l.length : Int) ≤ ((k : Nat) : Int) := by first | simpa using hc338 | (have e := hc338; simp at e; omega)
      obtain rfl : k = l.length := by omega
      refine cw_exit (thenQ_x (thenQ_x (blockQ_x (thenQ_n (?_)))))
      refine cw_seq (?_)
      refine cw_region (by kernel_rfl) (wl_s (o_move (vo0_7) rfl (wl_s (o_assign (vo0_7) rfl (wl_nil (thenQ_n (?_)))))))
      refine cw_ret (end_r rfl (res1 rfl rfl rfl) (?_))
      have e : (times l a b) = (tmS l a b l.length) := rfl
      exact ⟨_, rfl, sl0.keep, by rw [e]; exact ⟨vo0_7, rfl, ho0_7.pub sl0⟩⟩
set_option maxHeartbeats 4000000 in
set_option maxRecDepth 100000 in
theorem c_refCoeff {O : List Nat} (xs_v : Value) (xs : List UInt8) (ys_v : Value) (ys : List UInt8) (w : World) (h_xs : RdL Enc.u8 w O xs_v xs) (h_ys : RdL Enc.u8 w O ys_v ys) (hpre0 : xs.length < 1000000) (hO : ∀ b ∈ O, b < w.heap.size) : CallsK Try.prog 25 [xs_v, ys_v] w (fun v w' => ∃ (x0 : Value), v = .tuple #[x0, vI ((refCoeff xs ys).2)] ∧ RdL Enc.u8 w' (O) x0 ((refCoeff xs ys).1)) :=  by
  have lim_xs := h_xs.len_le
  have h_xs : RdL Enc.u8 w ([] ++ O) xs_v xs := h_xs
  have lim_ys := h_ys.len_le
  have h_ys : RdL Enc.u8 w ([] ++ O) ys_v ys := h_ys
  have s0 : St w O w [] := St.start hO
  refine callsK_of 77 Try.func25 rfl rfl (of_decide_eq_true rfl) (fun F0 => ?_)
  refine cw_seq (?_)
  refine cw_region (by kernel_rfl) (wl_s (o_assign (.slice none 0 0) rfl (wl_s (o_assign (vI (0 : Int)) rfl (wl_nil (thenQ_n (?_)))))))
  refine cw_seq (?_)
  refine cw_seq (?_)
  refine cw_region (by kernel_rfl) (wl_s (o_move (xs_v) rfl (wl_s (o_move (ys_v) rfl (wl_s (o_callK (vs := [xs_v, ys_v]) enter_43 (c_refPoints (O := [] ++ O) xs_v xs ys_v ys w h_xs h_ys s0.lt) rfl s0 fun v427 w428 s429 m430 k431 r432 => (?_)))))))
  obtain rfl := r432
  have h_xs := h_xs.mv m430
  have h_ys := h_ys.mv m430
  refine wl_s (o_not (refPoints xs ys) rfl (wl_nil (thenQ_n (?_))))
  refine cw_cond (!(refPoints xs ys)) rfl rfl (fun hc433 => ?_) (fun hc433 => ?_)
  · have hp434 : (refPoints xs ys) = false := by first | simpa using hc433 | (have e := hc433; simp at e; omega)
    refine cw_seq (?_)
    refine cw_region (by kernel_rfl) (wl_s (o_assign (.slice none 0 0) rfl (wl_s (o_assign (vI (1 : Int)) rfl (wl_nil (thenQ_n (?_)))))))
    refine cw_ret (thenQ_r (end_r rfl (res2 rfl rfl rfl rfl) (?_)))
    have e : (refCoeff xs ys) = ([], (1 : Int)) := by simp [refCoeff, *]
    exact ⟨_, rfl, s429.keep, by rw [e]; exact ⟨.slice none 0 0, rfl, RdL.nil _ _ _⟩⟩
  · have hp435 : (refPoints xs ys) = true := by first | simpa using hc433 | (have e := hc433; simp at e; omega)
    have hxy := refPoints_len (by simpa using hc433)
    refine cw_skip (thenQ_n (?_))
    refine cw_seq (?_)
    refine cw_region (by kernel_rfl) (wl_s (o_move (xs_v) rfl (wl_s (o_lenR Try.underlying28 rfl h_xs (wl_s (o_make (E := Enc.u8) Try.underlying28 i_5 [vB (0 : UInt8)] rfl rfl (by decide) (0 : UInt8) (fun _ _ => rfl) .i64 .i64 (xs.length : Int) (xs.length : Int) xs.length xs.length rfl rfl rfl rfl (by omega) (by omega) (by simp only [maxLen]; omega) s429 fun v440 b442 w436 e443 hb444 s437 m438 k439 hl441 => (?_)))))))
    have hB445 : ∀ b, v440.ownBlock = some b → b ∈ (b442 :: []) := fun b hb => by rw [hb444] at hb; cases hb; simp
    clear e443 hb444
    have h_xs := h_xs.mv m438
    have h_ys := h_ys.mv m438
    refine wl_s (o_assign (v440) rfl (wl_nil (thenQ_n (?_))))
    refine cw_seq (?_)
    refine cw_seq (?_)
    refine cw_region (by kernel_rfl) (wl_s (o_assign (vI (0 : Int)) rfl (wl_nil (thenQ_n (?_)))))
    refine cw_block (?_)
    refine cw_loop (fun mI FI wI => ∃ (i : Nat) (vo0_6 : Value) (B : List Nat), i ≤ xs.length ∧ mI = xs.length - i ∧ (∃ F1, FI = upds F1 [(0, xs_v), (1, ys_v), (6, vo0_6), (7, vI ((i : Nat) : Int)), (77, undef)]) ∧ St w O wI B ∧ Own Enc.u8 5 w.heap.size (B ++ O) wI vo0_6 (refCoS xs ys i) ∧ (∀ b, vo0_6.ownBlock = some b → b ∈ B) ∧ RdL Enc.u8 wI (B ++ O) (xs_v) (xs) ∧ RdL Enc.u8 wI (B ++ O) (ys_v) (ys)) (xs.length - (0)) ?_ ?_
    · exact ⟨(0), v440, (b442 :: []), (by first | omega | (simp; done) | (simp; omega) | simp_all), rfl, ⟨_, upds_self _ ⟨rfl, rfl, rfl, (by first | rfl | exact congrArg (Value.int _) (by first | omega | (simp))), rfl, trivial⟩⟩, s437, (by rw [show refCoS xs ys (0) = List.replicate xs.length (0 : UInt8) from rfl]; exact hl441), hB445, h_xs, h_ys⟩
    · intro ml0 F wl0 hI
      clear h_xs h_ys
      obtain ⟨i, vo0_6, Bl0, hr0_0, hm0, ⟨Fl0, rfl⟩, sl0, ho0_6, hB0_6, h_xs, h_ys⟩ := hI
      refine cw_seq (?_)
      refine cw_seq (?_)
      refine cw_region (by kernel_rfl) (wl_s (o_move (vI ((i : Nat) : Int)) rfl (wl_s (o_move (xs_v) rfl (wl_s (o_lenR Try.underlying28 rfl h_xs (wl_s (o_lss .i64 ((i : Nat) : Int) (xs.length : Int) rfl rfl (wl_nil (thenQ_n (?_)))))))))))
      refine cw_cond (decide (((i : Nat) : Int) < (xs.length : Int))) rfl rfl (fun hc446 => ?_) (fun hc446 => ?_)
      · have hp447 : ((i : Nat) : Int) < (xs.length : Int) := by first | simpa using hc446 | (have e := hc446; simp at e; omega)
        refine cw_skip (thenQ_n (?_))
        refine cw_seq (?_)
        refine cw_block (?_)
        refine cw_seq (?_)
        refine cw_region (by kernel_rfl) (wl_s (o_move (ys_v) rfl (wl_s (o_move (vI ((i : Nat) : Int)) rfl (wl_s (o_idx Try.underlying28 s_5 .i64 ((i : Nat) : Int) i rfl rfl rfl h_ys (by omega) fun a448 hp449 => (wl_s (o_loadB Try.underlying5 rfl rfl hp449 (wl_s (o_lit (E := Enc.u8) (xs := [.tmp 28]) Try.underlying28 s_5 z_5 (by decide) [vB (ys[i]!)] [[vB (ys[i]!)]] [ys[i]!] rfl rfl rfl (Parts.cons rfl rfl (Parts.nil _ _ _)) (of_decide_eq_true rfl) sl0 fun v454 w450 s451 m452 k453 hl455 => (?_)))))))))))
        have h_xs := h_xs.mv m452
        have h_ys := h_ys.mv m452
        have ho0_6 := ho0_6.mv m452 k453 (by simp)
        have hp449 := hp449.mv m452
        have := hl455.len_le
        refine wl_s (o_assign (v454) rfl (wl_nil (thenQ_n (?_))))
        refine cw_seq (?_)
        refine cw_seq (?_)
        refine cw_region (by kernel_rfl) (wl_s (o_assign (vI (0 : Int)) rfl (wl_nil (thenQ_n (?_)))))
        refine cw_block (?_)
        refine cw_loop (fun mI FI wI => ∃ (k : Nat) (vr1_8 : Value) (B : List Nat), k ≤ xs.length ∧ mI = xs.length - k ∧ (∃ F1, FI = upds F1 [(0, xs_v), (1, ys_v), (6, vo0_6), (7, vI ((i : Nat) : Int)), (8, vr1_8), (9, vI ((k : Nat) : Int)), (77, undef)]) ∧ St w O wI B ∧ RdL Enc.u8 wI (B ++ O) vr1_8 (refOne xs ys i k) ∧ RdL Enc.u8 wI (B ++ O) (xs_v) (xs) ∧ RdL Enc.u8 wI (B ++ O) (ys_v) (ys) ∧ Own Enc.u8 5 w.heap.size (B ++ O) wI vo0_6 (refCoS xs ys i) ∧ (∀ b, vo0_6.ownBlock = some b → b ∈ B)) (xs.length - (0)) ?_ ?_
        · exact ⟨(0), v454, Bl0, (by first | omega | (simp; done) | (simp; omega) | simp_all), rfl, ⟨_, upds_self _ ⟨rfl, rfl, rfl, rfl, rfl, (by first | rfl | exact congrArg (Value.int _) (by first | omega | (simp))), rfl, trivial⟩⟩, s451, (by rw [show refOne xs ys i (0) = [ys[i]!] from rfl]; exact hl455), h_xs, h_ys, ho0_6, hB0_6⟩
        · intro ml1 F wl1 hI
          clear h_xs h_ys ho0_6 hB0_6
          obtain ⟨k, vr1_8, Bl1, hr1_0, hm1, ⟨Fl1, rfl⟩, sl1, hrd1_8, h_xs, h_ys, ho0_6, hB0_6⟩ := hI
          have := hrd1_8.len_le
          refine cw_seq (?_)
          refine cw_seq (?_)
          refine cw_region (by kernel_rfl) (wl_s (o_move (vI ((k : Nat) : Int)) rfl (wl_s (o_move (xs_v) rfl (wl_s (o_lenR Try.underlying28 rfl h_xs (wl_s (o_lss .i64 ((k : Nat) : Int) (xs.length : Int) rfl rfl (wl_nil (thenQ_n (?_)))))))))))
          refine cw_cond (decide (((k : Nat) : Int) < (xs.length : Int))) rfl rfl (fun hc456 => ?_) (fun hc456 => ?_)
          · have hp457 : ((k : Nat) : Int) < (xs.length : Int) := by first | simpa using hc456 | (have e := hc456; simp at e; omega)
            refine cw_skip (thenQ_n (?_))
            refine cw_seq (?_)
            refine cw_block (?_)
            refine cw_seq (?_)
            refine cw_region (by kernel_rfl) (wl_s (o_move (vI ((k : Nat) : Int)) rfl (wl_s (o_move (vI ((i : Nat) : Int)) rfl (wl_s (o_neq .i64 ((k : Nat) : Int) ((i : Nat) : Int) rfl rfl (wl_nil (thenQ_n (?_)))))))))
            refine cw_cond (((k : Nat) : Int) != ((i : Nat) : Int)) rfl rfl (fun hc458 => ?_) (fun hc458 => ?_)
            · have hp459 : ((k : Nat) : Int) ≠ ((i : Nat) : Int) := by first | simpa using hc458 | (have e := hc458; simp at e; omega)
              refine cw_seq (?_)
              refine cw_draw' 8 _ _ [fun v w => RdL Enc.u8 w (Bl1 ++ O) v (xs), fun v _ => v = vI ((i : Nat) : Int), fun v w => ∃ a, v = .pointer (some a) ∧ PT Enc.u8 w (Bl1 ++ O) (.pointer (some a)) (xs[i]!), fun v _ => v = vB (xs[i]!), fun v w => RdL Enc.u8 w (Bl1 ++ O) v (xs), fun v _ => v = vI ((k : Nat) : Int), fun v w => ∃ a, v = .pointer (some a) ∧ PT Enc.u8 w (Bl1 ++ O) (.pointer (some a)) (xs[k]!), fun v _ => v = vB (xs[k]!)] (by kernel_rfl) (by kernel_rfl) (by kernel_rfl) (by kernel_rfl) rfl rfl ⟨fun _ _ _ h k => h.mv (Mv.of_keep k), fun _ _ _ h _ => h, fun _ _ _ ⟨a, e, h⟩ k => ⟨a, e, h.mv (Mv.of_keep k)⟩, fun _ _ _ h _ => h, fun _ _ _ h k => h.mv (Mv.of_keep k), fun _ _ _ h _ => h, fun _ _ _ ⟨a, e, h⟩ k => ⟨a, e, h.mv (Mv.of_keep k)⟩, fun _ _ _ h _ => h, trivial⟩ ⟨?_, ?_, ?_, ?_, ?_, ?_, ?_, ?_, trivial⟩ ?_
              · intro F1 w1 k1 hf hd
                have k0 := (Keep.drew [] wl1).trans k1
                have s1 := sl1.call k0
                have m1 : Mv Bl1 wl1 Bl1 w1 := Mv.of_keep k0
                have h_xs := h_xs.mv m1
                obtain ⟨F2, rfl⟩ := lit_of (F := F1) [(0, xs_v)] ⟨hf 0 (by kernel_rfl), trivial⟩
                exact sp_plain rfl ((o_move (xs_v) rfl (⟨(Keep.refl _ _), h_xs⟩)))
              · intro F1 w1 k1 hf hd
                have k0 := (Keep.drew [] wl1).trans k1
                have s1 := sl1.call k0
                have m1 : Mv Bl1 wl1 Bl1 w1 := Mv.of_keep k0
                obtain ⟨F2, rfl⟩ := lit_of (F := F1) [(7, vI ((i : Nat) : Int))] ⟨hf 7 (by kernel_rfl), trivial⟩
                exact sp_plain rfl ((o_move (vI ((i : Nat) : Int)) rfl (⟨(Keep.refl _ _), rfl⟩)))
              · intro F1 w1 k1 hf hd
                have k0 := (Keep.drew [] wl1).trans k1
                have s1 := sl1.call k0
                have m1 : Mv Bl1 wl1 Bl1 w1 := Mv.of_keep k0
                obtain ⟨v460, e462, hl461⟩ : ∃ v, F1 39 = v ∧ RdL Enc.u8 w1 (Bl1 ++ O) v (xs) := ⟨_, rfl, hd 0 39 (by kernel_rfl)⟩
                have := hl461.len_le
                obtain ⟨F2, rfl⟩ := lit_of (F := F1) [(39, v460), (40, vI ((i : Nat) : Int))] ⟨e462, hd 1 40 (by kernel_rfl), trivial⟩
                exact sp_plain rfl ((o_idx Try.underlying28 s_5 .i64 ((i : Nat) : Int) i rfl rfl rfl hl461 (by omega) fun a463 hp464 => (⟨(Keep.refl _ _), ⟨a463, rfl, hp464⟩⟩)))
              · intro F1 w1 k1 hf hd
                have k0 := (Keep.drew [] wl1).trans k1
                have s1 := sl1.call k0
                have m1 : Mv Bl1 wl1 Bl1 w1 := Mv.of_keep k0
                obtain ⟨a465, e467, hp466⟩ : ∃ a, F1 41 = .pointer (some a) ∧ PT Enc.u8 w1 (Bl1 ++ O) (.pointer (some a)) (xs[i]!) := hd 2 41 (by kernel_rfl)
                obtain ⟨F2, rfl⟩ := lit_of (F := F1) [(41, .pointer (some a465))] ⟨e467, trivial⟩
                exact sp_plain rfl ((o_loadB Try.underlying5 rfl rfl hp466 (⟨(Keep.refl _ _), rfl⟩)))
              · intro F1 w1 k1 hf hd
                have k0 := (Keep.drew [] wl1).trans k1
                have s1 := sl1.call k0
                have m1 : Mv Bl1 wl1 Bl1 w1 := Mv.of_keep k0
                have h_xs := h_xs.mv m1
                obtain ⟨F2, rfl⟩ := lit_of (F := F1) [(0, xs_v)] ⟨hf 0 (by kernel_rfl), trivial⟩
                exact sp_plain rfl ((o_move (xs_v) rfl (⟨(Keep.refl _ _), h_xs⟩)))
              · intro F1 w1 k1 hf hd
                have k0 := (Keep.drew [] wl1).trans k1
                have s1 := sl1.call k0
                have m1 : Mv Bl1 wl1 Bl1 w1 := Mv.of_keep k0
                obtain ⟨F2, rfl⟩ := lit_of (F := F1) [(9, vI ((k : Nat) : Int))] ⟨hf 9 (by kernel_rfl), trivial⟩
                exact sp_plain rfl ((o_move (vI ((k : Nat) : Int)) rfl (⟨(Keep.refl _ _), rfl⟩)))
              · intro F1 w1 k1 hf hd
                have k0 := (Keep.drew [] wl1).trans k1
                have s1 := sl1.call k0
                have m1 : Mv Bl1 wl1 Bl1 w1 := Mv.of_keep k0
                obtain ⟨v468, e470, hl469⟩ : ∃ v, F1 43 = v ∧ RdL Enc.u8 w1 (Bl1 ++ O) v (xs) := ⟨_, rfl, hd 4 43 (by kernel_rfl)⟩
                have := hl469.len_le
                obtain ⟨F2, rfl⟩ := lit_of (F := F1) [(43, v468), (44, vI ((k : Nat) : Int))] ⟨e470, hd 5 44 (by kernel_rfl), trivial⟩
                exact sp_plain rfl ((o_idx Try.underlying28 s_5 .i64 ((k : Nat) : Int) k rfl rfl rfl hl469 (by omega) fun a471 hp472 => (⟨(Keep.refl _ _), ⟨a471, rfl, hp472⟩⟩)))
              · intro F1 w1 k1 hf hd
                have k0 := (Keep.drew [] wl1).trans k1
                have s1 := sl1.call k0
                have m1 : Mv Bl1 wl1 Bl1 w1 := Mv.of_keep k0
                obtain ⟨a473, e475, hp474⟩ : ∃ a, F1 45 = .pointer (some a) ∧ PT Enc.u8 w1 (Bl1 ++ O) (.pointer (some a)) (xs[k]!) := hd 6 45 (by kernel_rfl)
                obtain ⟨F2, rfl⟩ := lit_of (F := F1) [(45, .pointer (some a473))] ⟨e475, trivial⟩
                exact sp_plain rfl ((o_loadB Try.underlying5 rfl rfl hp474 (⟨(Keep.refl _ _), rfl⟩)))
              intro F477 w478 k476 hT479 hF480
              have s481 := sl1.call k476
              have m482 : Mv Bl1 wl1 Bl1 w478 := Mv.of_keep k476
              have h_xs := h_xs.mv m482
              have h_ys := h_ys.mv m482
              have ho0_6 := ho0_6.mv m482 k476 (by simp)
              have hrd1_8 := hrd1_8.mv m482
              obtain ⟨v484, e486, hl485⟩ : ∃ v, F477 39 = v ∧ RdL Enc.u8 w478 (Bl1 ++ O) v (xs) := ⟨_, rfl, hT479 0 39 (by kernel_rfl) (by decide)⟩
              have := hl485.len_le
              obtain ⟨a487, e489, hp488⟩ : ∃ a, F477 41 = .pointer (some a) ∧ PT Enc.u8 w478 (Bl1 ++ O) (.pointer (some a)) (xs[i]!) := hT479 2 41 (by kernel_rfl) (by decide)
              obtain ⟨v490, e492, hl491⟩ : ∃ v, F477 43 = v ∧ RdL Enc.u8 w478 (Bl1 ++ O) v (xs) := ⟨_, rfl, hT479 4 43 (by kernel_rfl) (by decide)⟩
              have := hl491.len_le
              obtain ⟨a493, e495, hp494⟩ : ∃ a, F477 45 = .pointer (some a) ∧ PT Enc.u8 w478 (Bl1 ++ O) (.pointer (some a)) (xs[k]!) := hT479 6 45 (by kernel_rfl) (by decide)
              obtain ⟨F2, rfl⟩ := lit_of (F := F477) [(0, xs_v), (1, ys_v), (6, vo0_6), (7, vI ((i : Nat) : Int)), (8, vr1_8), (9, vI ((k : Nat) : Int)), (30, vI ((k : Nat) : Int)), (31, xs_v), (32, vI (xs.length : Int)), (33, .bool (decide (((k : Nat) : Int) < (xs.length : Int)))), (36, vI ((k : Nat) : Int)), (37, vI ((i : Nat) : Int)), (38, .bool (((k : Nat) : Int) != ((i : Nat) : Int))), (77, undef), (39, v484), (40, vI ((i : Nat) : Int)), (41, .pointer (some a487)), (42, vB (xs[i]!)), (43, v490), (44, vI ((k : Nat) : Int)), (45, .pointer (some a493)), (46, vB (xs[k]!))] ⟨hF480 0 (by kernel_rfl), hF480 1 (by kernel_rfl), hF480 6 (by kernel_rfl), hF480 7 (by kernel_rfl), hF480 8 (by kernel_rfl), hF480 9 (by kernel_rfl), hF480 30 (by kernel_rfl), hF480 31 (by kernel_rfl), hF480 32 (by kernel_rfl), hF480 33 (by kernel_rfl), hF480 36 (by kernel_rfl), hF480 37 (by kernel_rfl), hF480 38 (by kernel_rfl), hF480 77 (by kernel_rfl), e486, hT479 1 40 (by kernel_rfl) (by decide), e489, hT479 3 42 (by kernel_rfl) (by decide), e492, hT479 5 44 (by kernel_rfl) (by decide), e495, hT479 7 46 (by kernel_rfl) (by decide), trivial⟩
              clear hT479 hF480
              refine wl_s (o_xor8 (xs[i]!) (xs[k]!) rfl rfl (wl_s (o_callK (vs := [vB (1 : UInt8), vB ((xs[i]!) ^^^ (xs[k]!))]) enter_44 (c_refOver (O := Bl1 ++ O) (1 : UInt8) ((xs[i]!) ^^^ (xs[k]!)) w478 s481.lt) rfl s481 fun v496 w497 s498 m499 k500 r501 => (?_))))
              obtain rfl := r501
              have h_xs := h_xs.mv m499
              have h_ys := h_ys.mv m499
              have ho0_6 := ho0_6.mv m499 k500 (by simp)
              have hrd1_8 := hrd1_8.mv m499
              have hl485 := hl485.mv m499
              have hp488 := hp488.mv m499
              have hl491 := hl491.mv m499
              have hp494 := hp494.mv m499
              refine wl_s (o_assign (vB (refOver (1 : UInt8) ((xs[i]!) ^^^ (xs[k]!)))) rfl (wl_nil (thenQ_n (?_))))
              refine cw_region (by kernel_rfl) (wl_s (o_move (vr1_8) rfl (wl_s (o_move (vB (refOver (1 : UInt8) ((xs[i]!) ^^^ (xs[k]!)))) rfl (wl_s (o_move (xs_v) rfl (wl_s (o_move (vI ((k : Nat) : Int)) rfl (wl_s (o_idx Try.underlying28 s_5 .i64 ((k : Nat) : Int) k rfl rfl rfl h_xs (by omega) fun a502 hp503 => (wl_s (o_loadB Try.underlying5 rfl rfl hp503 (wl_s (o_callK (vs := [vB (refOver (1 : UInt8) ((xs[i]!) ^^^ (xs[k]!))), vB (xs[k]!)]) enter_21 (c_refMul (O := Bl1 ++ O) (refOver (1 : UInt8) ((xs[i]!) ^^^ (xs[k]!))) (xs[k]!) w497 s498.lt) rfl s498 fun v504 w505 s506 m507 k508 r509 => (?_)))))))))))))))
              obtain rfl := r509
              have h_xs := h_xs.mv m507
              have h_ys := h_ys.mv m507
              have ho0_6 := ho0_6.mv m507 k508 (by simp)
              have hrd1_8 := hrd1_8.mv m507
              have hl485 := hl485.mv m507
              have hp488 := hp488.mv m507
              have hl491 := hl491.mv m507
              have hp494 := hp494.mv m507
              have hp503 := hp503.mv m507
              refine wl_s (o_move (vB (refOver (1 : UInt8) ((xs[i]!) ^^^ (xs[k]!)))) rfl (wl_s (o_callK (vs := [vr1_8, vB (refMul (refOver (1 : UInt8) ((xs[i]!) ^^^ (xs[k]!))) (xs[k]!)), vB (refOver (1 : UInt8) ((xs[i]!) ^^^ (xs[k]!)))]) enter_47 (c_times (O := Bl1 ++ O) vr1_8 (refOne xs ys i k) (refMul (refOver (1 : UInt8) ((xs[i]!) ^^^ (xs[k]!))) (xs[k]!)) (refOver (1 : UInt8) ((xs[i]!) ^^^ (xs[k]!))) w505 hrd1_8 (by rw [refOne_len]; split <;> omega) s506.lt) rfl s506 fun v510 w511 s512 m513 k514 r515 => (?_))))
              obtain ⟨_, rfl, hl516⟩ := r515
              have := hl516.len_le
              have h_xs := h_xs.mv m513
              have h_ys := h_ys.mv m513
              have ho0_6 := ho0_6.mv m513 k514 (by simp)
              have hrd1_8 := hrd1_8.mv m513
              have hl485 := hl485.mv m513
              have hp488 := hp488.mv m513
              have hl491 := hl491.mv m513
              have hp494 := hp494.mv m513
              have hp503 := hp503.mv m513
              refine wl_s (o_assign (v510) rfl (wl_nil (blockQ_n (thenQ_n (?_)))))
              refine cw_region (by kernel_rfl) (wl_s (o_move (vI ((k : Nat) : Int)) rfl (wl_s (o_add .i64 ((k : Nat) : Int) (1 : Int) (((k + 1 : Nat) : Int)) rfl rfl (w64 (by omega) (by omega)) (wl_s (o_assign (vI ((k + 1 : Nat) : Int)) rfl (wl_nil (thenQ_n (?_)))))))))
              exact ⟨_, (by omega), (k + 1), v510, Bl1, (by first | omega | (simp; done) | (simp; omega) | simp_all), rfl, ⟨_, upds_self _ ⟨rfl, rfl, rfl, rfl, rfl, (by first | rfl | exact congrArg (Value.int _) (by first | omega | (simp))), rfl, trivial⟩⟩, s512, (by rw [show refOne xs ys i (k + 1) = times (refOne xs ys i k) (refMul (refOver (1 : UInt8) ((xs[i]!) ^^^ (xs[k]!))) (xs[k]!)) (refOver (1 : UInt8) ((xs[i]!) ^^^ (xs[k]!))) from by first | exact refOne_yes (by assumption) | exact refOne_no (by assumption)]; exact hl516), h_xs, h_ys, ho0_6, hB0_6⟩
            · have hp517 : ((k : Nat) : Int) = ((i : Nat) : Int) := by first | simpa using hc458 | (have e := hc458; simp at e; omega)
              refine cw_skip (blockQ_n (thenQ_n (?_)))
              refine cw_region (by kernel_rfl) (wl_s (o_move (vI ((k : Nat) : Int)) rfl (wl_s (o_add .i64 ((k : Nat) : Int) (1 : Int) (((k + 1 : Nat) : Int)) rfl rfl (w64 (by omega) (by omega)) (wl_s (o_assign (vI ((k + 1 : Nat) : Int)) rfl (wl_nil (thenQ_n (?_)))))))))
              exact ⟨_, (by omega), (k + 1), vr1_8, Bl1, (by first | omega | (simp; done) | (simp; omega) | simp_all), rfl, ⟨_, upds_self _ ⟨rfl, rfl, rfl, rfl, rfl, (by first | rfl | exact congrArg (Value.int _) (by first | omega | (simp))), rfl, trivial⟩⟩, sl1, (by rw [show refOne xs ys i (k + 1) = refOne xs ys i k from by first | exact refOne_yes (by assumption) | exact refOne_no (by assumption)]; exact hrd1_8), h_xs, h_ys, ho0_6, hB0_6⟩
          · have hp518 : (xs.length : Int) ≤ ((k : Nat) : Int) := by first | simpa using hc456 | (have e := hc456; simp at e; omega)
            obtain rfl : k = xs.length := by omega
            refine cw_exit (thenQ_x (thenQ_x (blockQ_x (thenQ_n (?_)))))
            refine cw_seq (?_)
            refine cw_region (by kernel_rfl) (wl_s (o_assign (vI (0 : Int)) rfl (wl_nil (thenQ_n (?_)))))
            refine cw_block (?_)
            have hone : (refOne xs ys i xs.length).length = xs.length := by rw [refOne_len]; simp; omega
            refine cw_loop (fun mI FI wI => ∃ (j : Nat) (vo2_6 : Value) (B : List Nat), j ≤ (refOne xs ys i xs.length).length ∧ mI = (refOne xs ys i xs.length).length - j ∧ (∃ F1, FI = upds F1 [(0, xs_v), (1, ys_v), (6, vo2_6), (7, vI ((i : Nat) : Int)), (8, vr1_8), (11, vI ((j : Nat) : Int)), (77, undef)]) ∧ St w O wI B ∧ Own Enc.u8 5 w.heap.size (B ++ O) wI vo2_6 (addS (refCoS xs ys i) (refOne xs ys i xs.length) j) ∧ (∀ b, vo2_6.ownBlock = some b → b ∈ B) ∧ RdL Enc.u8 wI (B ++ O) (xs_v) (xs) ∧ RdL Enc.u8 wI (B ++ O) (ys_v) (ys) ∧ RdL Enc.u8 wI (B ++ O) (vr1_8) (refOne xs ys i xs.length)) ((refOne xs ys i xs.length).length - (0)) ?_ ?_
            · exact ⟨(0), vo0_6, Bl1, (by first | omega | (simp; done) | (simp; omega) | simp_all), rfl, ⟨_, upds_self _ ⟨rfl, rfl, rfl, rfl, rfl, (by first | rfl | exact congrArg (Value.int _) (by first | omega | (simp))), rfl, trivial⟩⟩, sl1, (by rw [show addS (refCoS xs ys i) (refOne xs ys i xs.length) (0) = refCoS xs ys i from rfl]; exact ho0_6), hB0_6, h_xs, h_ys, hrd1_8⟩
            · intro ml2 F wl2 hI
              clear h_xs h_ys hrd1_8
              obtain ⟨j, vo2_6, Bl2, hr2_0, hm2, ⟨Fl2, rfl⟩, sl2, ho2_6, hB2_6, h_xs, h_ys, hrd1_8⟩ := hI
              refine cw_seq (?_)
              refine cw_seq (?_)
              refine cw_region (by kernel_rfl) (wl_s (o_move (vI ((j : Nat) : Int)) rfl (wl_s (o_move (vr1_8) rfl (wl_s (o_lenR Try.underlying28 rfl hrd1_8 (wl_s (o_lss .i64 ((j : Nat) : Int) ((refOne xs ys i xs.length).length : Int) rfl rfl (wl_nil (thenQ_n (?_)))))))))))
              refine cw_cond (decide (((j : Nat) : Int) < ((refOne xs ys i xs.length).length : Int))) rfl rfl (fun hc519 => ?_) (fun hc519 => ?_)
              · have hp520 : ((j : Nat) : Int) < ((refOne xs ys i xs.length).length : Int) := by first | simpa using hc519 | (have e := hc519; simp at e; omega)
                refine cw_skip (thenQ_n (?_))
                refine cw_seq (?_)
                refine cw_block (?_)
                refine cw_draw' 11 _ _ [fun v _ => v = vo2_6, fun v _ => v = vI ((j : Nat) : Int), fun v _ => v = vo2_6, fun v _ => v = vI ((j : Nat) : Int), fun v w => ∃ b, v = .pointer (some ⟨b, j * 1, none⟩) ∧ vo2_6.ownBlock = some b, fun v _ => v = vB ((addS (refCoS xs ys i) (refOne xs ys i xs.length) j)[j]!), fun v w => RdL Enc.u8 w (Bl2 ++ O) v (refOne xs ys i xs.length), fun v _ => v = vI ((j : Nat) : Int), fun v w => ∃ a, v = .pointer (some a) ∧ PT Enc.u8 w (Bl2 ++ O) (.pointer (some a)) ((refOne xs ys i xs.length)[j]!), fun v _ => v = vB ((refOne xs ys i xs.length)[j]!), fun v _ => v = vB (((addS (refCoS xs ys i) (refOne xs ys i xs.length) j)[j]!) ^^^ ((refOne xs ys i xs.length)[j]!))] (by kernel_rfl) (by kernel_rfl) (by kernel_rfl) (by kernel_rfl) rfl rfl ⟨fun _ _ _ h _ => h, fun _ _ _ h _ => h, fun _ _ _ h _ => h, fun _ _ _ h _ => h, fun _ _ _ h _ => h, fun _ _ _ h _ => h, fun _ _ _ h k => h.mv (Mv.of_keep k), fun _ _ _ h _ => h, fun _ _ _ ⟨a, e, h⟩ k => ⟨a, e, h.mv (Mv.of_keep k)⟩, fun _ _ _ h _ => h, fun _ _ _ h _ => h, trivial⟩ ⟨?_, ?_, ?_, ?_, ?_, ?_, ?_, ?_, ?_, ?_, ?_, trivial⟩ ?_
                · intro F1 w1 k1 hf hd
                  have k0 := (Keep.drew [] wl2).trans k1
                  have s1 := sl2.call k0
                  have m1 : Mv Bl2 wl2 Bl2 w1 := Mv.of_keep k0
                  have ho2_6 := ho2_6.mv m1 k0 (by simp)
                  obtain ⟨F2, rfl⟩ := lit_of (F := F1) [(6, vo2_6)] ⟨hf 6 (by kernel_rfl), trivial⟩
                  exact sp_plain rfl ((o_move (vo2_6) rfl (⟨(Keep.refl _ _), rfl⟩)))
                · intro F1 w1 k1 hf hd
                  have k0 := (Keep.drew [] wl2).trans k1
                  have s1 := sl2.call k0
                  have m1 : Mv Bl2 wl2 Bl2 w1 := Mv.of_keep k0
                  obtain ⟨F2, rfl⟩ := lit_of (F := F1) [(11, vI ((j : Nat) : Int))] ⟨hf 11 (by kernel_rfl), trivial⟩
                  exact sp_plain rfl ((o_move (vI ((j : Nat) : Int)) rfl (⟨(Keep.refl _ _), rfl⟩)))
                · intro F1 w1 k1 hf hd
                  have k0 := (Keep.drew [] wl2).trans k1
                  have s1 := sl2.call k0
                  have m1 : Mv Bl2 wl2 Bl2 w1 := Mv.of_keep k0
                  have ho2_6 := ho2_6.mv m1 k0 (by simp)
                  obtain ⟨F2, rfl⟩ := lit_of (F := F1) [(6, vo2_6)] ⟨hf 6 (by kernel_rfl), trivial⟩
                  exact sp_plain rfl ((o_move (vo2_6) rfl (⟨(Keep.refl _ _), rfl⟩)))
                · intro F1 w1 k1 hf hd
                  have k0 := (Keep.drew [] wl2).trans k1
                  have s1 := sl2.call k0
                  have m1 : Mv Bl2 wl2 Bl2 w1 := Mv.of_keep k0
                  obtain ⟨F2, rfl⟩ := lit_of (F := F1) [(11, vI ((j : Nat) : Int))] ⟨hf 11 (by kernel_rfl), trivial⟩
                  exact sp_plain rfl ((o_move (vI ((j : Nat) : Int)) rfl (⟨(Keep.refl _ _), rfl⟩)))
                · intro F1 w1 k1 hf hd
                  have k0 := (Keep.drew [] wl2).trans k1
                  have s1 := sl2.call k0
                  have m1 : Mv Bl2 wl2 Bl2 w1 := Mv.of_keep k0
                  have ho2_6 := ho2_6.mv m1 k0 (by simp)
                  obtain ⟨F2, rfl⟩ := lit_of (F := F1) [(66, vo2_6), (67, vI ((j : Nat) : Int))] ⟨hd 2 66 (by kernel_rfl), hd 3 67 (by kernel_rfl), trivial⟩
                  exact sp_plain rfl ((o_indexO Try.underlying28 s_5 .i64 ((j : Nat) : Int) j rfl rfl rfl ho2_6 (by first | omega | (simp only [List.length_set, List.length_append, List.length_cons, List.length_nil, List.length_replicate, addS_len, refCoS_len]; omega)) fun b521 hb522 => (⟨(Keep.refl _ _), ⟨_, rfl, hb522⟩⟩)))
                · intro F1 w1 k1 hf hd
                  have k0 := (Keep.drew [] wl2).trans k1
                  have s1 := sl2.call k0
                  have m1 : Mv Bl2 wl2 Bl2 w1 := Mv.of_keep k0
                  have ho2_6 := ho2_6.mv m1 k0 (by simp)
                  obtain ⟨b523, e525, hb524⟩ : ∃ b, F1 68 = .pointer (some ⟨b, j * 1, none⟩) ∧ vo2_6.ownBlock = some b := hd 4 68 (by kernel_rfl)
                  obtain ⟨F2, rfl⟩ := lit_of (F := F1) [(68, .pointer (some ⟨b523, j * 1, none⟩))] ⟨e525, trivial⟩
                  exact sp_plain rfl ((o_loadO8 Try.underlying5 rfl rfl ho2_6 hb524 (by first | omega | (simp only [List.length_set, List.length_append, List.length_cons, List.length_nil, List.length_replicate, addS_len, refCoS_len]; omega)) (⟨(Keep.refl _ _), rfl⟩)))
                · intro F1 w1 k1 hf hd
                  have k0 := (Keep.drew [] wl2).trans k1
                  have s1 := sl2.call k0
                  have m1 : Mv Bl2 wl2 Bl2 w1 := Mv.of_keep k0
                  have hrd1_8 := hrd1_8.mv m1
                  obtain ⟨F2, rfl⟩ := lit_of (F := F1) [(8, vr1_8)] ⟨hf 8 (by kernel_rfl), trivial⟩
                  exact sp_plain rfl ((o_move (vr1_8) rfl (⟨(Keep.refl _ _), hrd1_8⟩)))
                · intro F1 w1 k1 hf hd
                  have k0 := (Keep.drew [] wl2).trans k1
                  have s1 := sl2.call k0
                  have m1 : Mv Bl2 wl2 Bl2 w1 := Mv.of_keep k0
                  obtain ⟨F2, rfl⟩ := lit_of (F := F1) [(11, vI ((j : Nat) : Int))] ⟨hf 11 (by kernel_rfl), trivial⟩
                  exact sp_plain rfl ((o_move (vI ((j : Nat) : Int)) rfl (⟨(Keep.refl _ _), rfl⟩)))
                · intro F1 w1 k1 hf hd
                  have k0 := (Keep.drew [] wl2).trans k1
                  have s1 := sl2.call k0
                  have m1 : Mv Bl2 wl2 Bl2 w1 := Mv.of_keep k0
                  obtain ⟨v526, e528, hl527⟩ : ∃ v, F1 70 = v ∧ RdL Enc.u8 w1 (Bl2 ++ O) v (refOne xs ys i xs.length) := ⟨_, rfl, hd 6 70 (by kernel_rfl)⟩
                  have := hl527.len_le
                  obtain ⟨F2, rfl⟩ := lit_of (F := F1) [(70, v526), (71, vI ((j : Nat) : Int))] ⟨e528, hd 7 71 (by kernel_rfl), trivial⟩
                  exact sp_plain rfl ((o_idx Try.underlying28 s_5 .i64 ((j : Nat) : Int) j rfl rfl rfl hl527 (by omega) fun a529 hp530 => (⟨(Keep.refl _ _), ⟨a529, rfl, hp530⟩⟩)))
                · intro F1 w1 k1 hf hd
                  have k0 := (Keep.drew [] wl2).trans k1
                  have s1 := sl2.call k0
                  have m1 : Mv Bl2 wl2 Bl2 w1 := Mv.of_keep k0
                  obtain ⟨a531, e533, hp532⟩ : ∃ a, F1 72 = .pointer (some a) ∧ PT Enc.u8 w1 (Bl2 ++ O) (.pointer (some a)) ((refOne xs ys i xs.length)[j]!) := hd 8 72 (by kernel_rfl)
                  obtain ⟨F2, rfl⟩ := lit_of (F := F1) [(72, .pointer (some a531))] ⟨e533, trivial⟩
                  exact sp_plain rfl ((o_loadB Try.underlying5 rfl rfl hp532 (⟨(Keep.refl _ _), rfl⟩)))
                · intro F1 w1 k1 hf hd
                  have k0 := (Keep.drew [] wl2).trans k1
                  have s1 := sl2.call k0
                  have m1 : Mv Bl2 wl2 Bl2 w1 := Mv.of_keep k0
                  obtain ⟨F2, rfl⟩ := lit_of (F := F1) [(69, vB ((addS (refCoS xs ys i) (refOne xs ys i xs.length) j)[j]!)), (73, vB ((refOne xs ys i xs.length)[j]!))] ⟨hd 5 69 (by kernel_rfl), hd 9 73 (by kernel_rfl), trivial⟩
                  exact sp_plain rfl ((o_xor8 ((addS (refCoS xs ys i) (refOne xs ys i xs.length) j)[j]!) ((refOne xs ys i xs.length)[j]!) rfl rfl (⟨(Keep.refl _ _), rfl⟩)))
                intro F535 w536 k534 hT537 hF538
                have s539 := sl2.call k534
                have m540 : Mv Bl2 wl2 Bl2 w536 := Mv.of_keep k534
                have h_xs := h_xs.mv m540
                have h_ys := h_ys.mv m540
                have ho2_6 := ho2_6.mv m540 k534 (by simp)
                have hrd1_8 := hrd1_8.mv m540
                obtain ⟨b542, e544, hb543⟩ : ∃ b, F535 68 = .pointer (some ⟨b, j * 1, none⟩) ∧ vo2_6.ownBlock = some b := hT537 4 68 (by kernel_rfl) (by decide)
                obtain ⟨v545, e547, hl546⟩ : ∃ v, F535 70 = v ∧ RdL Enc.u8 w536 (Bl2 ++ O) v (refOne xs ys i xs.length) := ⟨_, rfl, hT537 6 70 (by kernel_rfl) (by decide)⟩
                have := hl546.len_le
                obtain ⟨a548, e550, hp549⟩ : ∃ a, F535 72 = .pointer (some a) ∧ PT Enc.u8 w536 (Bl2 ++ O) (.pointer (some a)) ((refOne xs ys i xs.length)[j]!) := hT537 8 72 (by kernel_rfl) (by decide)
                obtain ⟨F2, rfl⟩ := lit_of (F := F535) [(0, xs_v), (1, ys_v), (6, vo2_6), (7, vI ((i : Nat) : Int)), (8, vr1_8), (11, vI ((j : Nat) : Int)), (58, vI ((j : Nat) : Int)), (59, vr1_8), (60, vI ((refOne xs ys i xs.length).length : Int)), (61, .bool (decide (((j : Nat) : Int) < ((refOne xs ys i xs.length).length : Int)))), (77, undef), (64, vo2_6), (65, vI ((j : Nat) : Int)), (66, vo2_6), (67, vI ((j : Nat) : Int)), (68, .pointer (some ⟨b542, j * 1, none⟩)), (69, vB ((addS (refCoS xs ys i) (refOne xs ys i xs.length) j)[j]!)), (70, v545), (71, vI ((j : Nat) : Int)), (72, .pointer (some a548)), (73, vB ((refOne xs ys i xs.length)[j]!)), (74, vB (((addS (refCoS xs ys i) (refOne xs ys i xs.length) j)[j]!) ^^^ ((refOne xs ys i xs.length)[j]!)))] ⟨hF538 0 (by kernel_rfl), hF538 1 (by kernel_rfl), hF538 6 (by kernel_rfl), hF538 7 (by kernel_rfl), hF538 8 (by kernel_rfl), hF538 11 (by kernel_rfl), hF538 58 (by kernel_rfl), hF538 59 (by kernel_rfl), hF538 60 (by kernel_rfl), hF538 61 (by kernel_rfl), hF538 77 (by kernel_rfl), hT537 0 64 (by kernel_rfl) (by decide), hT537 1 65 (by kernel_rfl) (by decide), hT537 2 66 (by kernel_rfl) (by decide), hT537 3 67 (by kernel_rfl) (by decide), e544, hT537 5 69 (by kernel_rfl) (by decide), e547, hT537 7 71 (by kernel_rfl) (by decide), e550, hT537 9 73 (by kernel_rfl) (by decide), hT537 10 74 (by kernel_rfl) (by decide), trivial⟩
                clear hT537 hF538
                refine wl_s (o_indexO Try.underlying28 s_5 .i64 ((j : Nat) : Int) j rfl rfl rfl ho2_6 (by first | omega | (simp only [List.length_set, List.length_append, List.length_cons, List.length_nil, List.length_replicate, addS_len, refCoS_len]; omega)) fun b551 hb552 => (wl_n (o_storeO (((addS (refCoS xs ys i) (refOne xs ys i xs.length) j)[j]!) ^^^ ((refOne xs ys i xs.length)[j]!)) s_5 rfl rfl rfl ho2_6 hb552 (hB2_6 _ hb552) (by first | omega | (simp only [List.length_set, List.length_append, List.length_cons, List.length_nil, List.length_replicate, addS_len, refCoS_len]; omega)) rfl s539 fun w553 s554 m555 k556 bx557 => (?_))))
                have h_xs := h_xs.mv m555
                have h_ys := h_ys.mv m555
                have hrd1_8 := hrd1_8.mv m555
                have hl546 := hl546.mv m555
                have hp549 := hp549.mv m555
                refine wl_nil (blockQ_n (thenQ_n (?_)))
                refine cw_region (by kernel_rfl) (wl_s (o_move (vI ((j : Nat) : Int)) rfl (wl_s (o_add .i64 ((j : Nat) : Int) (1 : Int) (((j + 1 : Nat) : Int)) rfl rfl (w64 (by omega) (by omega)) (wl_s (o_assign (vI ((j + 1 : Nat) : Int)) rfl (wl_nil (thenQ_n (?_)))))))))
                exact ⟨_, (by omega), (j + 1), vo2_6, Bl2, (by first | omega | (simp; done) | (simp; omega) | simp_all), rfl, ⟨_, upds_self _ ⟨rfl, rfl, rfl, rfl, rfl, (by first | rfl | exact congrArg (Value.int _) (by first | omega | (simp))), rfl, trivial⟩⟩, s554, (by rw [show addS (refCoS xs ys i) (refOne xs ys i xs.length) (j + 1) = (addS (refCoS xs ys i) (refOne xs ys i xs.length) j).set j (((addS (refCoS xs ys i) (refOne xs ys i xs.length) j)[j]!) ^^^ ((refOne xs ys i xs.length)[j]!)) from rfl]; exact bx557), hB2_6, h_xs, h_ys, hrd1_8⟩
              · have hp558 : ((refOne xs ys i xs.length).length : Int) ≤ ((j : Nat) : Int) := by first | simpa using hc519 | (have e := hc519; simp at e; omega)
                obtain rfl : j = (refOne xs ys i xs.length).length := by omega
                refine cw_exit (thenQ_x (thenQ_x (blockQ_x (blockQ_n (thenQ_n (?_))))))
                refine cw_region (by kernel_rfl) (wl_s (o_move (vI ((i : Nat) : Int)) rfl (wl_s (o_add .i64 ((i : Nat) : Int) (1 : Int) (((i + 1 : Nat) : Int)) rfl rfl (w64 (by omega) (by omega)) (wl_s (o_assign (vI ((i + 1 : Nat) : Int)) rfl (wl_nil (thenQ_n (?_)))))))))
                exact ⟨_, (by omega), (i + 1), vo2_6, Bl2, (by first | omega | (simp; done) | (simp; omega) | simp_all), rfl, ⟨_, upds_self _ ⟨rfl, rfl, rfl, (by first | rfl | exact congrArg (Value.int _) (by first | omega | (simp))), rfl, trivial⟩⟩, sl2, (by rw [show refCoS xs ys (i + 1) = addS (refCoS xs ys i) (refOne xs ys i xs.length) ((refOne xs ys i xs.length).length) from rfl]; exact ho2_6), hB2_6, h_xs, h_ys⟩
      · have hp559 : (xs.length : Int) ≤ ((i : Nat) : Int) := by first | simpa using hc446 | (have e := hc446; simp at e; omega)
        obtain rfl : i = xs.length := by omega
        refine cw_exit (thenQ_x (thenQ_x (blockQ_x (thenQ_n (?_)))))
        refine cw_seq (?_)
        refine cw_region (by kernel_rfl) (wl_s (o_move (vo0_6) rfl (wl_s (o_assign (vo0_6) rfl (wl_s (o_assign (vI (0 : Int)) rfl (wl_nil (thenQ_n (?_)))))))))
        refine cw_ret (end_r rfl (res2 rfl rfl rfl rfl) (?_))
        have e : (refCoeff xs ys) = (refCoS xs ys xs.length, (0 : Int)) := by simp [refCoeff, *]
        exact ⟨_, rfl, sl0.keep, by rw [e]; exact ⟨vo0_6, rfl, ho0_6.pub sl0⟩⟩
set_option maxHeartbeats 4000000 in
set_option maxRecDepth 100000 in
theorem c_wrong {O : List Nat} (xs_v : Value) (xs : List UInt8) (ys_v : Value) (ys : List UInt8) (w : World) (h_xs : RdL Enc.u8 w O xs_v xs) (h_ys : RdL Enc.u8 w O ys_v ys) (hO : ∀ b ∈ O, b < w.heap.size) : CallsK Try.prog 45 [xs_v, ys_v] w (fun v _ => v = .bool (wrongM xs ys)) :=  by
  have lim_xs := h_xs.len_le
  have h_xs : RdL Enc.u8 w ([] ++ O) xs_v xs := h_xs
  have lim_ys := h_ys.len_le
  have h_ys : RdL Enc.u8 w ([] ++ O) ys_v ys := h_ys
  have s0 : St w O w [] := St.start hO
  refine callsK_of 26 Try.func45 rfl rfl (of_decide_eq_true rfl) (fun F0 => ?_)
  refine cw_seq (?_)
  refine cw_region (by kernel_rfl) (wl_s (o_assign (.bool false) rfl (wl_nil (thenQ_n (?_)))))
  refine cw_seq (?_)
  refine cw_region (by kernel_rfl) (wl_s (o_makeMap s0 fun b560 w561 e566 s562 m563 k564 bx565 => (?_)))
  clear e566
  have h_xs := h_xs.mv m563
  have h_ys := h_ys.mv m563
  refine wl_s (o_alloc [.map none] z_77 rfl s562 fun b567 w568 e573 s569 m570 k571 bx572 => (?_))
  have ne574 : b560 ≠ b567 := by have := bx565.lt; omega
  clear e573
  have h_xs := h_xs.mv m570
  have h_ys := h_ys.mv m570
  have bx565 := bx565.keep k571 (by simp)
  refine wl_n (o_store1 (.map (some b560)) rfl rfl rfl s_77 (by first | assumption | simp) bx572 (of_decide_eq_true rfl) s569 fun w575 s576 m577 k578 bx579 => (?_))
  have h_xs := h_xs.mv m577
  have h_ys := h_ys.mv m577
  have bx565 := bx565.keep k578 (by simp only [List.mem_singleton]; omega)
  refine wl_nil (thenQ_n (?_))
  refine cw_seq (?_)
  refine cw_region (by kernel_rfl) (wl_s (o_makeFunc (first := []) (captured := [.tmp 5]) [] [.pointer (some ⟨b567, 0, none⟩)] rfl rfl (wl_s (o_assign (.func (.func 65) #[] #[.pointer (some ⟨b567, 0, none⟩)]) rfl (wl_nil (thenQ_n (?_)))))))
  refine cw_seq (?_)
  refine cw_seq (?_)
  refine cw_region (by kernel_rfl) (wl_s (o_move (xs_v) rfl (wl_s (o_lenR Try.underlying28 rfl h_xs (wl_s (o_move (ys_v) rfl (wl_s (o_lenR Try.underlying28 rfl h_ys (wl_s (o_neq .i64 (xs.length : Int) (ys.length : Int) rfl rfl (wl_nil (thenQ_n (?_)))))))))))))
  refine cw_cond ((xs.length : Int) != (ys.length : Int)) rfl rfl (fun hc580 => ?_) (fun hc580 => ?_)
  · have hp581 : (xs.length : Int) ≠ (ys.length : Int) := by first | simpa using hc580 | (have e := hc580; simp at e; omega)
    refine cw_seq (?_)
    refine cw_region (by kernel_rfl) (wl_s (o_assign (.bool true) rfl (wl_nil (thenQ_n (?_)))))
    refine cw_ret (thenQ_r (end_r rfl (res1 rfl rfl rfl) (?_)))
    have e : (wrongM xs ys) = true := by simp [wrongM, *]
    exact ⟨_, rfl, s576.keep, by rw [e]; exact rfl⟩
  · have hp582 : (xs.length : Int) = (ys.length : Int) := by first | simpa using hc580 | (have e := hc580; simp at e; omega)
    refine cw_skip (thenQ_n (?_))
    refine cw_seq (?_)
    refine cw_seq (?_)
    refine cw_region (by kernel_rfl) (wl_s (o_move (xs_v) rfl (wl_s (o_lenR Try.underlying28 rfl h_xs (wl_s (o_move (vI (0 : Int)) rfl (wl_nil (thenQ_n (?_)))))))))
    refine cw_block (?_)
    refine cw_loop (fun mI FI wI => ∃ (k : Nat) (B : List Nat), k ≤ xs.length ∧ twice xs xs.length = scan (fun k => if (xs.take k).contains xs[k]! then some true else none) false k (xs.length - k) ∧ mI = xs.length - k ∧ (∃ F1, FI = upds F1 [(6, .func (.func 65) #[] #[.pointer (some ⟨b567, 0, none⟩)]), (16, xs_v), (17, vI (xs.length : Int)), (18, vI ((k : Nat) : Int)), (26, undef)]) ∧ St w O wI B ∧ RdL Enc.u8 wI (B ++ O) (xs_v) (xs) ∧ MapB wI b560 (xs.take k) ∧ b560 ∈ B ∧ Box wI b567 77 [.map (some b560)] ∧ b567 ∈ B) (xs.length - (0)) ?_ ?_
    · exact ⟨(0), (b567 :: (b560 :: [])), (by first | omega | (simp; done) | (simp; omega) | simp_all), rfl, rfl, ⟨_, upds_self _ ⟨rfl, rfl, rfl, (by first | rfl | exact congrArg (Value.int _) (by first | omega | (simp))), rfl, trivial⟩⟩, s576, h_xs, (by rw [show xs.take (0) = [] from rfl]; exact bx565), (by simp), bx579, (by simp)⟩
    · intro ml0 F wl0 hI
      clear h_xs bx579
      obtain ⟨k, Bl0, hr0_0, hr0_1, hm0, ⟨Fl0, rfl⟩, sl0, h_xs, hbx_b560, hin_b560, bx579, hin_b567⟩ := hI
      refine cw_seq (?_)
      refine cw_region (by kernel_rfl) (wl_s (o_lss .i64 ((k : Nat) : Int) (xs.length : Int) rfl rfl (wl_nil (thenQ_n (?_)))))
      refine cw_seq (?_)
      refine cw_cond (decide (((k : Nat) : Int) < (xs.length : Int))) rfl rfl (fun hc583 => ?_) (fun hc583 => ?_)
      · have hp584 : ((k : Nat) : Int) < (xs.length : Int) := by first | simpa using hc583 | (have e := hc583; simp at e; omega)
        refine cw_skip (thenQ_n (?_))
        refine cw_seq (?_)
        refine cw_block (?_)
        refine cw_seq (?_)
        refine cw_region (by kernel_rfl) (wl_s (o_idx Try.underlying28 s_5 .i64 ((k : Nat) : Int) k rfl rfl rfl h_xs (by omega) fun a585 hp586 => (wl_s (o_loadB Try.underlying5 rfl rfl hp586 (wl_s (o_assign (vB (xs[k]!)) rfl (wl_nil (thenQ_n (?_)))))))))
        refine cw_seq (?_)
        refine cw_region (by kernel_rfl) (wl_s (o_move (.func (.func 65) #[] #[.pointer (some ⟨b567, 0, none⟩)]) rfl (wl_s (o_move (vB (xs[k]!)) rfl (wl_s (o_callv [] [.pointer (some ⟨b567, 0, none⟩)] [vB (xs[k]!)] _ enter_65 rfl rfl (calls_of_cw 9 Try.func65 rfl rfl (of_decide_eq_true rfl) (fun F587 => ?_)) (fun _ _ h => h)))))))
        refine cw_seq (?_)
        refine cw_region (by kernel_rfl) (wl_s (o_assign (.bool false) rfl (wl_nil (thenQ_n (?_)))))
        refine cw_seq (?_)
        refine cw_seq (?_)
        refine cw_region (by kernel_rfl) (wl_s (o_loadBx Try.underlying77 rfl (.map (some b560)) rfl bx579 rfl (wl_s (o_move (vB (xs[k]!)) rfl (wl_s (o_lookupB Try.underlying77 Try.underlying5 z_4 rfl rfl hbx_b560 (wl_nil (thenQ_n (?_)))))))))
        refine cw_cond ((xs.take k).contains (xs[k]!)) rfl rfl (fun hc588 => ?_) (fun hc588 => ?_)
        · have hp589 : ((xs.take k).contains (xs[k]!)) = true := by first | simpa using hc588 | (have e := hc588; simp at e; omega)
          refine cw_seq (?_)
          refine cw_region (by kernel_rfl) (wl_s (o_assign (.bool true) rfl (wl_nil (thenQ_n (?_)))))
          refine cw_ret (thenQ_r (end_r rfl (res1 rfl rfl rfl) (Exists.intro _ (And.intro rfl (?_)))))
          refine wl_nil (thenQ_n (?_))
          refine cw_cond true rfl rfl (fun _ => ?_) (fun h => by cases h)
          refine cw_seq (?_)
          refine cw_region (by kernel_rfl) (wl_s (o_assign (.bool true) rfl (wl_nil (thenQ_n (?_)))))
          refine cw_ret (blockQ_r (thenQ_r (thenQ_r (blockQ_r (thenQ_r (end_r rfl (res1 rfl rfl rfl) (?_)))))))
          have e : (wrongM xs ys) = true := by simp only [wrongM]; rw [if_neg (by simpa using by assumption), hr0_1]; exact scan_some (by omega) (by simp_all)
          exact ⟨_, rfl, sl0.keep, by rw [e]; exact rfl⟩
        · have hp590 : ((xs.take k).contains (xs[k]!)) = false := by first | simpa using hc588 | (have e := hc588; simp at e; omega)
          refine cw_skip (thenQ_n (?_))
          refine cw_seq (?_)
          refine cw_region (by kernel_rfl) (wl_s (o_loadBx Try.underlying77 rfl (.map (some b560)) rfl bx579 rfl (wl_s (o_move (vB (xs[k]!)) rfl (wl_n (o_updateB Try.underlying77 Try.underlying5 rfl rfl rfl (by first | assumption | simp_all) hbx_b560 (by first | assumption | simp) sl0 fun w591 s592 m593 k594 bx595 => (?_)))))))
          have h_xs := h_xs.mv m593
          have hp586 := hp586.mv m593
          have bx579 := bx579.keep k594 (by simp only [List.mem_singleton]; first | omega | assumption | (apply Ne.symm; assumption))
          refine wl_nil (thenQ_n (?_))
          refine cw_seq (?_)
          refine cw_region (by kernel_rfl) (wl_s (o_assign (.bool false) rfl (wl_nil (thenQ_n (?_)))))
          refine cw_ret (end_r rfl (res1 rfl rfl rfl) (Exists.intro _ (And.intro rfl (?_))))
          refine wl_nil (thenQ_n (?_))
          refine cw_cond false rfl rfl (fun h => by cases h) (fun _ => ?_)
          refine cw_skip (blockQ_n (thenQ_n (?_)))
          refine cw_region (by kernel_rfl) (wl_s (o_add .i64 ((k : Nat) : Int) (1 : Int) (((k + 1 : Nat) : Int)) rfl rfl (w64 (by omega) (by omega)) (wl_s (o_move (vI ((k + 1 : Nat) : Int)) rfl (wl_nil (thenQ_n (?_)))))))
          exact ⟨_, (by omega), (k + 1), Bl0, (by first | omega | (simp; done) | (simp; omega) | simp_all), (hr0_1.trans (scan_none (by omega) (by simp_all))), rfl, ⟨_, upds_self _ ⟨rfl, rfl, rfl, (by first | rfl | exact congrArg (Value.int _) (by first | omega | (simp))), rfl, trivial⟩⟩, s592, h_xs, (by rw [show xs.take (k + 1) = (xs.take k) ++ [xs[k]!] from take_snoc (by omega)]; exact bx595), (by first | assumption | (apply_assumption; assumption) | simp_all), bx579, (by first | assumption | (apply_assumption; assumption) | simp_all)⟩
      · have hp596 : (xs.length : Int) ≤ ((k : Nat) : Int) := by first | simpa using hc583 | (have e := hc583; simp at e; omega)
        refine cw_exit (thenQ_x (thenQ_x (blockQ_x (thenQ_n (?_)))))
        refine cw_seq (?_)
        refine cw_region (by kernel_rfl) (wl_s (o_assign (.bool false) rfl (wl_nil (thenQ_n (?_)))))
        refine cw_ret (end_r rfl (res1 rfl rfl rfl) (?_))
        have e : (wrongM xs ys) = false := by simp only [wrongM]; rw [if_neg (by simpa using by assumption), hr0_1]; exact scan_end (by omega)
        exact ⟨_, rfl, sl0.keep, by rw [e]; exact rfl⟩
set_option maxHeartbeats 4000000 in
set_option maxRecDepth 100000 in
theorem c_zeros {O : List Nat} (xs_v : Value) (xs : List UInt8) (w : World) (h_xs : RdL Enc.u8 w O xs_v xs) (hpre0 : xs.length < 1000000) (hO : ∀ b ∈ O, b < w.heap.size) : CallsK Try.prog 46 [xs_v] w (fun v w' => ∃ (x0 : Value), v = x0 ∧ RdL Enc.u8 w' (O) x0 (zeros xs)) :=  by
  have lim_xs := h_xs.len_le
  have h_xs : RdL Enc.u8 w ([] ++ O) xs_v xs := h_xs
  have s0 : St w O w [] := St.start hO
  refine callsK_of 53 Try.func46 rfl rfl (of_decide_eq_true rfl) (fun F0 => ?_)
  refine cw_seq (?_)
  refine cw_region (by kernel_rfl) (wl_s (o_assign (.slice none 0 0) rfl (wl_nil (thenQ_n (?_)))))
  refine cw_seq (?_)
  refine cw_region (by kernel_rfl) (wl_s (o_move (xs_v) rfl (wl_s (o_lenR Try.underlying28 rfl h_xs (wl_s (o_add .i64 (xs.length : Int) (1 : Int) (((xs.length + 1 : Nat) : Int)) rfl rfl (w64 (by omega) (by omega)) (wl_s (o_make (E := Enc.u8) Try.underlying28 i_5 [vB (0 : UInt8)] rfl rfl (by decide) (0 : UInt8) (fun _ _ => rfl) .i64 .i64 (1 : Int) ((xs.length + 1 : Nat) : Int) 1 (xs.length + 1) rfl rfl rfl rfl (by omega) (by omega) (by simp only [maxLen]; omega) s0 fun v601 b603 w597 e604 hb605 s598 m599 k600 hl602 => (?_)))))))))
  have hB606 : ∀ b, v601.ownBlock = some b → b ∈ (b603 :: []) := fun b hb => by rw [hb605] at hb; cases hb; simp
  clear e604 hb605
  have h_xs := h_xs.mv m599
  refine wl_s (o_assign (v601) rfl (wl_nil (thenQ_n (?_))))
  refine cw_seq (?_)
  refine cw_region (by kernel_rfl) (wl_s (o_move (v601) rfl (wl_s (o_indexO Try.underlying28 s_5 .i64 (0 : Int) 0 rfl rfl rfl hl602 (by first | omega | (simp only [List.length_set, List.length_append, List.length_cons, List.length_nil, List.length_replicate, zrS_len, zrO_len]; omega)) fun b607 hb608 => (wl_n (o_storeO (1 : UInt8) s_5 rfl rfl rfl hl602 hb608 (hB606 _ hb608) (by first | omega | (simp only [List.length_set, List.length_append, List.length_cons, List.length_nil, List.length_replicate, zrS_len, zrO_len]; omega)) rfl s598 fun w609 s610 m611 k612 bx613 => (?_)))))))
  have h_xs := h_xs.mv m611
  refine wl_nil (thenQ_n (?_))
  refine cw_seq (?_)
  refine cw_seq (?_)
  refine cw_region (by kernel_rfl) (wl_s (o_move (xs_v) rfl (wl_s (o_lenR Try.underlying28 rfl h_xs (wl_s (o_move (vI (0 : Int)) rfl (wl_nil (thenQ_n (?_)))))))))
  refine cw_block (?_)
  refine cw_loop (fun mI FI wI => ∃ (i : Nat) (vo0_3 : Value) (B : List Nat), i ≤ xs.length ∧ mI = xs.length - i ∧ (∃ F1, FI = upds F1 [(3, vo0_3), (13, xs_v), (14, vI (xs.length : Int)), (15, vI ((i : Nat) : Int)), (53, undef)]) ∧ St w O wI B ∧ Own Enc.u8 5 w.heap.size (B ++ O) wI vo0_3 (zrO xs i) ∧ (∀ b, vo0_3.ownBlock = some b → b ∈ B) ∧ RdL Enc.u8 wI (B ++ O) (xs_v) (xs)) (xs.length - (0)) ?_ ?_
  · exact ⟨(0), v601, (b603 :: []), (by first | omega | (simp; done) | (simp; omega) | simp_all), rfl, ⟨_, upds_self _ ⟨rfl, rfl, rfl, (by first | rfl | exact congrArg (Value.int _) (by first | omega | (simp))), rfl, trivial⟩⟩, s610, (by rw [show zrO xs (0) = (List.replicate 1 (0 : UInt8)).set 0 (1 : UInt8) from rfl]; exact bx613), hB606, h_xs⟩
  · intro ml0 F wl0 hI
    clear h_xs
    obtain ⟨i, vo0_3, Bl0, hr0_0, hm0, ⟨Fl0, rfl⟩, sl0, ho0_3, hB0_3, h_xs⟩ := hI
    refine cw_seq (?_)
    refine cw_region (by kernel_rfl) (wl_s (o_lss .i64 ((i : Nat) : Int) (xs.length : Int) rfl rfl (wl_nil (thenQ_n (?_)))))
    refine cw_seq (?_)
    refine cw_cond (decide (((i : Nat) : Int) < (xs.length : Int))) rfl rfl (fun hc614 => ?_) (fun hc614 => ?_)
    · have hp615 : ((i : Nat) : Int) < (xs.length : Int) := by first | simpa using hc614 | (have e := hc614; simp at e; omega)
      refine cw_skip (thenQ_n (?_))
      refine cw_seq (?_)
      refine cw_block (?_)
      refine cw_seq (?_)
      refine cw_region (by kernel_rfl) (wl_s (o_idx Try.underlying28 s_5 .i64 ((i : Nat) : Int) i rfl rfl rfl h_xs (by omega) fun a616 hp617 => (wl_s (o_loadB Try.underlying5 rfl rfl hp617 (wl_s (o_assign (vB (xs[i]!)) rfl (wl_nil (thenQ_n (?_)))))))))
      refine cw_seq (?_)
      refine cw_region (by kernel_rfl) (wl_s (o_move (vo0_3) rfl (wl_s (o_lit (E := Enc.u8) (xs := [.const (vB (0 : UInt8))]) Try.underlying28 s_5 z_5 (by decide) [vB (0 : UInt8)] [[vB (0 : UInt8)]] [(0 : UInt8)] rfl rfl rfl (Parts.cons rfl rfl (Parts.nil _ _ _)) (of_decide_eq_true rfl) sl0 fun v622 w618 s619 m620 k621 hl623 => (?_)))))
      have ho0_3 := ho0_3.mv m620 k621 (by simp)
      have h_xs := h_xs.mv m620
      have hp617 := hp617.mv m620
      have := hl623.len_le
      refine wl_s (o_append (E := Enc.u8) (l := zrO xs i) (m := [(0 : UInt8)]) Try.underlying28 i_5 rfl (by decide) rfl rfl ho0_3 hl623 (fun _ hb => .inl hb) hB0_3 (by simp [zrO_len]; omega) (by simp [zrO_len, maxLen]; omega) s619 fun v628 w624 B630 hB631 at632 sub633 s625 m626 k627 ho629 => (?_))
      have h_xs := h_xs.mv m626
      have hp617 := hp617.mv m626
      have hl623 := hl623.mv m626
      refine wl_s (o_assign (v628) rfl (wl_nil (thenQ_n (?_))))
      refine cw_seq (?_)
      refine cw_region (by kernel_rfl) (wl_s (o_move (v628) rfl (wl_s (o_lenO Try.underlying28 rfl ho629 (wl_s (o_sub .i64 (((zrO xs i) ++ ([(0 : UInt8)])).length : Int) (1 : Int) (((i + 1 : Nat) : Int)) rfl rfl (w64 (by omega) (by simp [zrO_len])) (wl_s (o_assign (vI ((i + 1 : Nat) : Int)) rfl (wl_nil (thenQ_n (?_)))))))))))
      refine cw_block (?_)
      have hzl : (zrO xs i ++ [0]).length = i + 2 := by simp [zrO_len]
      refine cw_loop (fun mI FI wI => ∃ (k : Nat) (vo1_3 : Value) (B : List Nat), k ≤ i + 2 ∧ mI = k ∧ (∃ F1, FI = upds F1 [(3, vo1_3), (5, vB (xs[i]!)), (6, vI ((k : Int) - 1)), (13, xs_v), (14, vI (xs.length : Int)), (15, vI ((i : Nat) : Int)), (53, undef)]) ∧ St w O wI B ∧ Own Enc.u8 5 w.heap.size (B ++ O) wI vo1_3 (zrS (zrO xs i ++ [0]) xs[i]! (i + 2 - k)) ∧ (∀ b, vo1_3.ownBlock = some b → b ∈ B) ∧ RdL Enc.u8 wI (B ++ O) (xs_v) (xs)) ((i + 2)) ?_ ?_
      · exact ⟨(i + 2), v628, B630, (by first | omega | (simp; done) | (simp; omega) | simp_all), rfl, ⟨_, upds_self _ ⟨rfl, rfl, (by first | rfl | exact congrArg (Value.int _) (by first | omega | (omega))), rfl, rfl, rfl, rfl, trivial⟩⟩, s625, (by rw [show zrS (zrO xs i ++ [0]) xs[i]! (i + 2 - (i + 2)) = (zrO xs i) ++ ([(0 : UInt8)]) from by rw [Nat.sub_self]; rfl]; exact ho629), hB631, h_xs⟩
      · intro ml1 F wl1 hI
        clear h_xs
        obtain ⟨k, vo1_3, Bl1, hr1_0, hm1, ⟨Fl1, rfl⟩, sl1, ho1_3, hB1_3, h_xs⟩ := hI
        refine cw_seq (?_)
        refine cw_seq (?_)
        refine cw_region (by kernel_rfl) (wl_s (o_move (vI ((k : Int) - 1)) rfl (wl_s (o_geq .i64 ((k : Int) - 1) (0 : Int) rfl rfl (wl_nil (thenQ_n (?_)))))))
        refine cw_cond (decide ((0 : Int) ≤ (k : Int) - 1)) rfl rfl (fun hc634 => ?_) (fun hc634 => ?_)
        · have hp635 : (0 : Int) ≤ (k : Int) - 1 := by first | simpa using hc634 | (have e := hc634; simp at e; omega)
          obtain ⟨q, rfl⟩ : ∃ q, k = q + 1 := ⟨k - 1, by omega⟩
          rw [show ((q + 1 : Nat) : Int) - 1 = ((q : Nat) : Int) from by omega]
          refine cw_skip (thenQ_n (?_))
          refine cw_seq (?_)
          refine cw_block (?_)
          refine cw_seq (?_)
          refine cw_region (by kernel_rfl) (wl_s (o_move (vo1_3) rfl (wl_s (o_move (vI ((q : Nat) : Int)) rfl (wl_s (o_move (vo1_3) rfl (wl_s (o_move (vI ((q : Nat) : Int)) rfl (wl_s (o_indexO Try.underlying28 s_5 .i64 ((q : Nat) : Int) q rfl rfl rfl ho1_3 (by first | omega | (simp only [List.length_set, List.length_append, List.length_cons, List.length_nil, List.length_replicate, zrS_len, zrO_len]; omega)) fun b636 hb637 => (wl_s (o_loadO8 Try.underlying5 rfl rfl ho1_3 hb637 (by first | omega | (simp only [List.length_set, List.length_append, List.length_cons, List.length_nil, List.length_replicate, zrS_len, zrO_len]; omega)) (wl_s (o_move (vB (xs[i]!)) rfl (wl_s (o_callK (vs := [vB ((zrS (zrO xs i ++ [0]) xs[i]! (i + 2 - (q + 1)))[q]!), vB (xs[i]!)]) enter_20 (c_mul (O := Bl1 ++ O) ((zrS (zrO xs i ++ [0]) xs[i]! (i + 2 - (q + 1)))[q]!) (xs[i]!) wl1 sl1.lt) rfl sl1 fun v638 w639 s640 m641 k642 r643 => (?_)))))))))))))))))
          obtain rfl := r643
          have ho1_3 := ho1_3.mv m641 k642 (by simp)
          have h_xs := h_xs.mv m641
          refine wl_s (o_indexO Try.underlying28 s_5 .i64 ((q : Nat) : Int) q rfl rfl rfl ho1_3 (by first | omega | (simp only [List.length_set, List.length_append, List.length_cons, List.length_nil, List.length_replicate, zrS_len, zrO_len]; omega)) fun b644 hb645 => (wl_n (o_storeO (gmul ((zrS (zrO xs i ++ [0]) xs[i]! (i + 2 - (q + 1)))[q]!) (xs[i]!)) s_5 rfl rfl rfl ho1_3 hb645 (hB1_3 _ hb645) (by first | omega | (simp only [List.length_set, List.length_append, List.length_cons, List.length_nil, List.length_replicate, zrS_len, zrO_len]; omega)) rfl s640 fun w646 s647 m648 k649 bx650 => (?_))))
          have h_xs := h_xs.mv m648
          refine wl_nil (thenQ_n (?_))
          refine cw_seq (?_)
          refine cw_region (by kernel_rfl) (wl_s (o_move (vI ((q : Nat) : Int)) rfl (wl_s (o_gtr .i64 ((q : Nat) : Int) (0 : Int) rfl rfl (wl_nil (thenQ_n (?_)))))))
          refine cw_cond (decide ((0 : Int) < ((q : Nat) : Int))) rfl rfl (fun hc651 => ?_) (fun hc651 => ?_)
          · have hp652 : (0 : Int) < ((q : Nat) : Int) := by first | simpa using hc651 | (have e := hc651; simp at e; omega)
            refine cw_draw' 9 _ _ [fun v _ => v = vo1_3, fun v _ => v = vI ((q : Nat) : Int), fun v w => ∃ b, v = .pointer (some ⟨b, q * 1, none⟩) ∧ vo1_3.ownBlock = some b, fun v _ => v = vB (((zrS (zrO xs i ++ [0]) xs[i]! (i + 2 - (q + 1))).set q (gmul ((zrS (zrO xs i ++ [0]) xs[i]! (i + 2 - (q + 1)))[q]!) (xs[i]!)))[q]!), fun v _ => v = vo1_3, fun v _ => v = vI ((q : Nat) : Int), fun v _ => v = vI ((q - 1 : Nat) : Int), fun v w => ∃ b, v = .pointer (some ⟨b, (q - 1) * 1, none⟩) ∧ vo1_3.ownBlock = some b, fun v _ => v = vB (((zrS (zrO xs i ++ [0]) xs[i]! (i + 2 - (q + 1))).set q (gmul ((zrS (zrO xs i ++ [0]) xs[i]! (i + 2 - (q + 1)))[q]!) (xs[i]!)))[q - 1]!)] (by kernel_rfl) (by kernel_rfl) (by kernel_rfl) (by kernel_rfl) rfl rfl ⟨fun _ _ _ h _ => h, fun _ _ _ h _ => h, fun _ _ _ h _ => h, fun _ _ _ h _ => h, fun _ _ _ h _ => h, fun _ _ _ h _ => h, fun _ _ _ h _ => h, fun _ _ _ h _ => h, fun _ _ _ h _ => h, trivial⟩ ⟨?_, ?_, ?_, ?_, ?_, ?_, ?_, ?_, ?_, trivial⟩ ?_
            · intro F1 w1 k1 hf hd
              have k0 := (Keep.drew [] w646).trans k1
              have s1 := s647.call k0
              have m1 : Mv Bl1 w646 Bl1 w1 := Mv.of_keep k0
              have bx650 := bx650.mv m1 k0 (by simp)
              obtain ⟨F2, rfl⟩ := lit_of (F := F1) [(3, vo1_3)] ⟨hf 3 (by kernel_rfl), trivial⟩
              exact sp_plain rfl ((o_move (vo1_3) rfl (⟨(Keep.refl _ _), rfl⟩)))
            · intro F1 w1 k1 hf hd
              have k0 := (Keep.drew [] w646).trans k1
              have s1 := s647.call k0
              have m1 : Mv Bl1 w646 Bl1 w1 := Mv.of_keep k0
              obtain ⟨F2, rfl⟩ := lit_of (F := F1) [(6, vI ((q : Nat) : Int))] ⟨hf 6 (by kernel_rfl), trivial⟩
              exact sp_plain rfl ((o_move (vI ((q : Nat) : Int)) rfl (⟨(Keep.refl _ _), rfl⟩)))
            · intro F1 w1 k1 hf hd
              have k0 := (Keep.drew [] w646).trans k1
              have s1 := s647.call k0
              have m1 : Mv Bl1 w646 Bl1 w1 := Mv.of_keep k0
              have bx650 := bx650.mv m1 k0 (by simp)
              obtain ⟨F2, rfl⟩ := lit_of (F := F1) [(40, vo1_3), (41, vI ((q : Nat) : Int))] ⟨hd 0 40 (by kernel_rfl), hd 1 41 (by kernel_rfl), trivial⟩
              exact sp_plain rfl ((o_indexO Try.underlying28 s_5 .i64 ((q : Nat) : Int) q rfl rfl rfl bx650 (by first | omega | (simp only [List.length_set, List.length_append, List.length_cons, List.length_nil, List.length_replicate, zrS_len, zrO_len]; omega)) fun b653 hb654 => (⟨(Keep.refl _ _), ⟨_, rfl, hb654⟩⟩)))
            · intro F1 w1 k1 hf hd
              have k0 := (Keep.drew [] w646).trans k1
              have s1 := s647.call k0
              have m1 : Mv Bl1 w646 Bl1 w1 := Mv.of_keep k0
              have bx650 := bx650.mv m1 k0 (by simp)
              obtain ⟨b655, e657, hb656⟩ : ∃ b, F1 42 = .pointer (some ⟨b, q * 1, none⟩) ∧ vo1_3.ownBlock = some b := hd 2 42 (by kernel_rfl)
              obtain ⟨F2, rfl⟩ := lit_of (F := F1) [(42, .pointer (some ⟨b655, q * 1, none⟩))] ⟨e657, trivial⟩
              exact sp_plain rfl ((o_loadO8 Try.underlying5 rfl rfl bx650 hb656 (by first | omega | (simp only [List.length_set, List.length_append, List.length_cons, List.length_nil, List.length_replicate, zrS_len, zrO_len]; omega)) (⟨(Keep.refl _ _), rfl⟩)))
            · intro F1 w1 k1 hf hd
              have k0 := (Keep.drew [] w646).trans k1
              have s1 := s647.call k0
              have m1 : Mv Bl1 w646 Bl1 w1 := Mv.of_keep k0
              have bx650 := bx650.mv m1 k0 (by simp)
              obtain ⟨F2, rfl⟩ := lit_of (F := F1) [(3, vo1_3)] ⟨hf 3 (by kernel_rfl), trivial⟩
              exact sp_plain rfl ((o_move (vo1_3) rfl (⟨(Keep.refl _ _), rfl⟩)))
            · intro F1 w1 k1 hf hd
              have k0 := (Keep.drew [] w646).trans k1
              have s1 := s647.call k0
              have m1 : Mv Bl1 w646 Bl1 w1 := Mv.of_keep k0
              obtain ⟨F2, rfl⟩ := lit_of (F := F1) [(6, vI ((q : Nat) : Int))] ⟨hf 6 (by kernel_rfl), trivial⟩
              exact sp_plain rfl ((o_move (vI ((q : Nat) : Int)) rfl (⟨(Keep.refl _ _), rfl⟩)))
            · intro F1 w1 k1 hf hd
              have k0 := (Keep.drew [] w646).trans k1
              have s1 := s647.call k0
              have m1 : Mv Bl1 w646 Bl1 w1 := Mv.of_keep k0
              obtain ⟨F2, rfl⟩ := lit_of (F := F1) [(45, vI ((q : Nat) : Int))] ⟨hd 5 45 (by kernel_rfl), trivial⟩
              exact sp_plain rfl ((o_sub .i64 ((q : Nat) : Int) (1 : Int) (((q - 1 : Nat) : Int)) rfl rfl (w64 (by omega) (by omega)) (⟨(Keep.refl _ _), rfl⟩)))
            · intro F1 w1 k1 hf hd
              have k0 := (Keep.drew [] w646).trans k1
              have s1 := s647.call k0
              have m1 : Mv Bl1 w646 Bl1 w1 := Mv.of_keep k0
              have bx650 := bx650.mv m1 k0 (by simp)
              obtain ⟨F2, rfl⟩ := lit_of (F := F1) [(44, vo1_3), (46, vI ((q - 1 : Nat) : Int))] ⟨hd 4 44 (by kernel_rfl), hd 6 46 (by kernel_rfl), trivial⟩
              exact sp_plain rfl ((o_indexO Try.underlying28 s_5 .i64 ((q - 1 : Nat) : Int) (q - 1) rfl rfl rfl bx650 (by first | omega | (simp only [List.length_set, List.length_append, List.length_cons, List.length_nil, List.length_replicate, zrS_len, zrO_len]; omega)) fun b658 hb659 => (⟨(Keep.refl _ _), ⟨_, rfl, hb659⟩⟩)))
            · intro F1 w1 k1 hf hd
              have k0 := (Keep.drew [] w646).trans k1
              have s1 := s647.call k0
              have m1 : Mv Bl1 w646 Bl1 w1 := Mv.of_keep k0
              have bx650 := bx650.mv m1 k0 (by simp)
              obtain ⟨b660, e662, hb661⟩ : ∃ b, F1 47 = .pointer (some ⟨b, (q - 1) * 1, none⟩) ∧ vo1_3.ownBlock = some b := hd 7 47 (by kernel_rfl)
              obtain ⟨F2, rfl⟩ := lit_of (F := F1) [(47, .pointer (some ⟨b660, (q - 1) * 1, none⟩))] ⟨e662, trivial⟩
              exact sp_plain rfl ((o_loadO8 Try.underlying5 rfl rfl bx650 hb661 (by first | omega | (simp only [List.length_set, List.length_append, List.length_cons, List.length_nil, List.length_replicate, zrS_len, zrO_len]; omega)) (⟨(Keep.refl _ _), rfl⟩)))
            intro F664 w665 k663 hT666 hF667
            have s668 := s647.call k663
            have m669 : Mv Bl1 w646 Bl1 w665 := Mv.of_keep k663
            have bx650 := bx650.mv m669 k663 (by simp)
            have h_xs := h_xs.mv m669
            obtain ⟨b671, e673, hb672⟩ : ∃ b, F664 42 = .pointer (some ⟨b, q * 1, none⟩) ∧ vo1_3.ownBlock = some b := hT666 2 42 (by kernel_rfl) (by decide)
            obtain ⟨b674, e676, hb675⟩ : ∃ b, F664 47 = .pointer (some ⟨b, (q - 1) * 1, none⟩) ∧ vo1_3.ownBlock = some b := hT666 7 47 (by kernel_rfl) (by decide)
            obtain ⟨F2, rfl⟩ := lit_of (F := F664) [(3, vo1_3), (5, vB (xs[i]!)), (6, vI ((q : Nat) : Int)), (13, xs_v), (14, vI (xs.length : Int)), (15, vI ((i : Nat) : Int)), (25, vI ((q : Nat) : Int)), (26, .bool (decide ((0 : Int) ≤ ((q : Nat) : Int)))), (29, vo1_3), (30, vI ((q : Nat) : Int)), (31, vo1_3), (32, vI ((q : Nat) : Int)), (34, vB ((zrS (zrO xs i ++ [0]) xs[i]! (i + 2 - (q + 1)))[q]!)), (35, vB (xs[i]!)), (36, vB (gmul ((zrS (zrO xs i ++ [0]) xs[i]! (i + 2 - (q + 1)))[q]!) (xs[i]!))), (38, vI ((q : Nat) : Int)), (39, .bool (decide ((0 : Int) < ((q : Nat) : Int)))), (53, undef), (40, vo1_3), (41, vI ((q : Nat) : Int)), (42, .pointer (some ⟨b671, q * 1, none⟩)), (43, vB (((zrS (zrO xs i ++ [0]) xs[i]! (i + 2 - (q + 1))).set q (gmul ((zrS (zrO xs i ++ [0]) xs[i]! (i + 2 - (q + 1)))[q]!) (xs[i]!)))[q]!)), (44, vo1_3), (45, vI ((q : Nat) : Int)), (46, vI ((q - 1 : Nat) : Int)), (47, .pointer (some ⟨b674, (q - 1) * 1, none⟩)), (48, vB (((zrS (zrO xs i ++ [0]) xs[i]! (i + 2 - (q + 1))).set q (gmul ((zrS (zrO xs i ++ [0]) xs[i]! (i + 2 - (q + 1)))[q]!) (xs[i]!)))[q - 1]!))] ⟨hF667 3 (by kernel_rfl), hF667 5 (by kernel_rfl), hF667 6 (by kernel_rfl), hF667 13 (by kernel_rfl), hF667 14 (by kernel_rfl), hF667 15 (by kernel_rfl), hF667 25 (by kernel_rfl), hF667 26 (by kernel_rfl), hF667 29 (by kernel_rfl), hF667 30 (by kernel_rfl), hF667 31 (by kernel_rfl), hF667 32 (by kernel_rfl), hF667 34 (by kernel_rfl), hF667 35 (by kernel_rfl), hF667 36 (by kernel_rfl), hF667 38 (by kernel_rfl), hF667 39 (by kernel_rfl), hF667 53 (by kernel_rfl), hT666 0 40 (by kernel_rfl) (by decide), hT666 1 41 (by kernel_rfl) (by decide), e673, hT666 3 43 (by kernel_rfl) (by decide), hT666 4 44 (by kernel_rfl) (by decide), hT666 5 45 (by kernel_rfl) (by decide), hT666 6 46 (by kernel_rfl) (by decide), e676, hT666 8 48 (by kernel_rfl) (by decide), trivial⟩
            clear hT666 hF667
            refine wl_s (o_xor8 (((zrS (zrO xs i ++ [0]) xs[i]! (i + 2 - (q + 1))).set q (gmul ((zrS (zrO xs i ++ [0]) xs[i]! (i + 2 - (q + 1)))[q]!) (xs[i]!)))[q]!) (((zrS (zrO xs i ++ [0]) xs[i]! (i + 2 - (q + 1))).set q (gmul ((zrS (zrO xs i ++ [0]) xs[i]! (i + 2 - (q + 1)))[q]!) (xs[i]!)))[q - 1]!) rfl rfl (wl_s (o_indexO Try.underlying28 s_5 .i64 ((q : Nat) : Int) q rfl rfl rfl bx650 (by first | omega | (simp only [List.length_set, List.length_append, List.length_cons, List.length_nil, List.length_replicate, zrS_len, zrO_len]; omega)) fun b677 hb678 => (wl_n (o_storeO ((((zrS (zrO xs i ++ [0]) xs[i]! (i + 2 - (q + 1))).set q (gmul ((zrS (zrO xs i ++ [0]) xs[i]! (i + 2 - (q + 1)))[q]!) (xs[i]!)))[q]!) ^^^ (((zrS (zrO xs i ++ [0]) xs[i]! (i + 2 - (q + 1))).set q (gmul ((zrS (zrO xs i ++ [0]) xs[i]! (i + 2 - (q + 1)))[q]!) (xs[i]!)))[q - 1]!)) s_5 rfl rfl rfl bx650 hb678 (hB1_3 _ hb678) (by first | omega | (simp only [List.length_set, List.length_append, List.length_cons, List.length_nil, List.length_replicate, zrS_len, zrO_len]; omega)) rfl s668 fun w679 s680 m681 k682 bx683 => (?_))))))
            have h_xs := h_xs.mv m681
            refine wl_nil (blockQ_n (thenQ_n (?_)))
            refine cw_region (by kernel_rfl) (wl_s (o_move (vI ((q : Nat) : Int)) rfl (wl_s (o_sub .i64 ((q : Nat) : Int) (1 : Int) (((q : Nat) : Int) - (1 : Int)) rfl rfl (w64 (by omega) (by omega)) (wl_s (o_assign (vI (((q : Nat) : Int) - (1 : Int))) rfl (wl_nil (thenQ_n (?_)))))))))
            exact ⟨_, (by omega), (q), vo1_3, Bl1, (by first | omega | (simp; done) | (simp; omega) | simp_all), rfl, ⟨_, upds_self _ ⟨rfl, rfl, (by first | rfl | exact congrArg (Value.int _) (by first | omega | (simp))), rfl, rfl, rfl, rfl, trivial⟩⟩, s680, (by rw [show zrS (zrO xs i ++ [0]) xs[i]! (i + 2 - (q)) = ((zrS (zrO xs i ++ [0]) xs[i]! (i + 2 - (q + 1))).set q (gmul ((zrS (zrO xs i ++ [0]) xs[i]! (i + 2 - (q + 1)))[q]!) (xs[i]!))).set q ((((zrS (zrO xs i ++ [0]) xs[i]! (i + 2 - (q + 1))).set q (gmul ((zrS (zrO xs i ++ [0]) xs[i]! (i + 2 - (q + 1)))[q]!) (xs[i]!)))[q]!) ^^^ (((zrS (zrO xs i ++ [0]) xs[i]! (i + 2 - (q + 1))).set q (gmul ((zrS (zrO xs i ++ [0]) xs[i]! (i + 2 - (q + 1)))[q]!) (xs[i]!)))[q - 1]!)) from by first | exact zrS_pos hzl.symm (by omega) (by assumption) | exact zrS_zero hzl.symm (by omega) (by assumption)]; exact bx683), hB1_3, h_xs⟩
          · have hp684 : ((q : Nat) : Int) ≤ (0 : Int) := by first | simpa using hc651 | (have e := hc651; simp at e; omega)
            refine cw_skip (blockQ_n (thenQ_n (?_)))
            refine cw_region (by kernel_rfl) (wl_s (o_move (vI ((q : Nat) : Int)) rfl (wl_s (o_sub .i64 ((q : Nat) : Int) (1 : Int) (((q : Nat) : Int) - (1 : Int)) rfl rfl (w64 (by omega) (by omega)) (wl_s (o_assign (vI (((q : Nat) : Int) - (1 : Int))) rfl (wl_nil (thenQ_n (?_)))))))))
            exact ⟨_, (by omega), (q), vo1_3, Bl1, (by first | omega | (simp; done) | (simp; omega) | simp_all), rfl, ⟨_, upds_self _ ⟨rfl, rfl, (by first | rfl | exact congrArg (Value.int _) (by first | omega | (simp))), rfl, rfl, rfl, rfl, trivial⟩⟩, s647, (by rw [show zrS (zrO xs i ++ [0]) xs[i]! (i + 2 - (q)) = (zrS (zrO xs i ++ [0]) xs[i]! (i + 2 - (q + 1))).set q (gmul ((zrS (zrO xs i ++ [0]) xs[i]! (i + 2 - (q + 1)))[q]!) (xs[i]!)) from by first | exact zrS_pos hzl.symm (by omega) (by assumption) | exact zrS_zero hzl.symm (by omega) (by assumption)]; exact bx650), hB1_3, h_xs⟩
        · have hp685 : (k : Int) - 1 < (0 : Int) := by first | simpa using hc634 | (have e := hc634; simp at e; omega)
          obtain rfl : k = 0 := by omega
          refine cw_exit (thenQ_x (thenQ_x (blockQ_x (blockQ_n (thenQ_n (?_))))))
          refine cw_region (by kernel_rfl) (wl_s (o_add .i64 ((i : Nat) : Int) (1 : Int) (((i + 1 : Nat) : Int)) rfl rfl (w64 (by omega) (by omega)) (wl_s (o_move (vI ((i + 1 : Nat) : Int)) rfl (wl_nil (thenQ_n (?_)))))))
          exact ⟨_, (by omega), (i + 1), vo1_3, Bl1, (by first | omega | (simp; done) | (simp; omega) | simp_all), rfl, ⟨_, upds_self _ ⟨rfl, rfl, rfl, (by first | rfl | exact congrArg (Value.int _) (by first | omega | (simp))), rfl, trivial⟩⟩, sl1, (by rw [show zrO xs (i + 1) = zrS (zrO xs i ++ [0]) xs[i]! (i + 2 - 0) from by rw [Nat.sub_zero, zrO, hzl]]; exact ho1_3), hB1_3, h_xs⟩
    · have hp686 : (xs.length : Int) ≤ ((i : Nat) : Int) := by first | simpa using hc614 | (have e := hc614; simp at e; omega)
      obtain rfl : i = xs.length := by omega
      refine cw_exit (thenQ_x (thenQ_x (blockQ_x (thenQ_n (?_)))))
      refine cw_seq (?_)
      refine cw_region (by kernel_rfl) (wl_s (o_move (vo0_3) rfl (wl_s (o_assign (vo0_3) rfl (wl_nil (thenQ_n (?_)))))))
      refine cw_ret (end_r rfl (res1 rfl rfl rfl) (?_))
      have e : (zeros xs) = (zrO xs xs.length) := rfl
      exact ⟨_, rfl, sl0.keep, by rw [e]; exact ⟨vo0_3, rfl, ho0_3.pub sl0⟩⟩

end Go.Proofs.Yteajcgfcnbdmgaa
