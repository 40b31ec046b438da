/- Walks, printed by gen.py. -/
import Derived.Test.YtjpniibleelgiaaXg
set_option linter.unusedSimpArgs false
set_option linter.unusedVariables false
namespace Go.Proofs.Ytjpniibleelgiaa
open Go.Fw Go.RowKit

set_option maxHeartbeats 4000000 in
set_option maxRecDepth 100000 in
theorem c_refClash {O : List Nat} (l_v : Value) (l : List DeviceOp) (o_cs : List Value) (o : DeviceOp) (w : World) (h_l : RdL Enc.devop w O l_v l) (h_o : Enc.devop.rd w O o_cs o) (hO : ∀ b ∈ O, b < w.heap.size) : CallsK Try.prog 68 [l_v, .agg o_cs.toArray] w (fun v _ => v = .bool (clashM l o)) :=  by
 have lim_l := h_l.len_le
 have h_l : RdL Enc.devop w ([] ++ O) l_v l := h_l
 obtain rfl := h_o
 have s0 : St w O w [] := St.start hO
 refine callsK_of 30 Try.func68 rfl rfl (of_decide_eq_true rfl) (fun F0 => ?_)
 refine cw_seq (?_)
 refine cw_region (by kernel_rfl) (wl_s (o_boxR (E := Enc.devop) (Value.agg #[vI o.device, vI o.no, vI o.kind, vI o.copy, vI o.to, vI o.token]) ([vI o.device, vI o.no, vI o.kind, vI o.copy, vI o.to, vI o.token]) o rfl rfl rfl s0 fun a2007 w2008 s2009 m2010 k2011 hp2012 => (?_)))
 have h_l := h_l.mv m2010
 refine wl_s (o_assign (Value.bool false) rfl (wl_nil (thenQ_n (?_))))
 refine cw_seq (?_)
 refine cw_seq (?_)
 refine cw_region (by kernel_rfl) (wl_s (o_assign (vI (0 : Int)) rfl (wl_nil (thenQ_n (?_)))))
 refine cw_block (?_)
 refine cw_loop (fun mI FI wI => ∃ (k : Nat) (B : List Nat), k ≤ l.length ∧ (∀ q, q < k → numM l[q]! ≠ numM o) ∧ mI = l.length - k ∧ (∃ F1, FI = upds F1 [(0, l_v), (3, Value.pointer (some a2007)), (5, vI ((k : Nat) : Int)), (30, undef)]) ∧ St w O wI B ∧ RdL Enc.devop wI (B ++ O) (l_v) (l) ∧ PT Enc.devop wI (B ++ O) (.pointer (some a2007)) (o)) (l.length - (0)) ?_ ?_
 ·exact ⟨(0), [], (by omega), (fun q hq => by omega), rfl, ⟨_, upds_self _ ⟨rfl, rfl, (by first | rfl | exact congrArg (Value.int _) (by first | omega | (simp))), rfl, trivial⟩⟩, s2009, h_l, hp2012⟩
 ·intro ml0 F wl0 hI
  clear h_l hp2012
  obtain ⟨k, Bl0, hr0_0, hr0_1, hm0, ⟨Fl0, rfl⟩, sl0, h_l, hp2012⟩ := hI
  refine cw_seq (?_)
  refine cw_seq (?_)
  refine cw_region (by kernel_rfl) (wl_s (o_move (vI ((k : Nat) : Int)) rfl (wl_s (o_move (l_v) rfl (wl_s (o_lenR Try.underlying26 rfl h_l (wl_s (o_lss .i64 ((k : Nat) : Int) (l.length : Int) rfl rfl (wl_nil (thenQ_n (?_)))))))))))
  refine cw_cond (decide (((k : Nat) : Int) < (l.length : Int))) rfl rfl (fun hc2013 => ?_) (fun hc2013 => ?_)
  ·have hp2014 : ((k : Nat) : Int) < (l.length : Int) := by first | simpa using hc2013 | (have e := hc2013; simp at e; omega)
   refine cw_skip (thenQ_n (?_))
   refine cw_seq (?_)
   refine cw_block (?_)
   refine cw_seq (?_)
   cases hb2015 : (((l[k]!).device) == o.device)
   ·have hp2016 : (l[k]!).device ≠ o.device := by first | simpa using hb2015 | (have e := hb2015; simp at e; omega)
    refine cw_draw' 16 _ _ [fun (vT : Value) (wT : World) => RdL Enc.devop wT (Bl0 ++ O) vT (l), isV (vI ((k : Nat) : Int)), fun (vT : Value) (wT : World) => ∃ aT, vT = .pointer (some aT) ∧ PT Enc.devop wT (Bl0 ++ O) (.pointer (some aT)) (l[k]!), fun (vT : Value) (wT : World) => ∃ aT, vT = .pointer (some aT) ∧ PT Enc.int wT (Bl0 ++ O) (.pointer (some aT)) ((l[k]!).device), isV (vI ((l[k]!).device)), fun (vT : Value) (wT : World) => ∃ aT, vT = .pointer (some aT) ∧ PT Enc.int wT (Bl0 ++ O) (.pointer (some aT)) (o.device), isV (vI o.device), isV (Value.bool false), isV (Value.bool false), isV undef, isV undef, isV undef, isV undef, isV undef, isV undef, isV undef] (by kernel_rfl) (by kernel_rfl) (by kernel_rfl) (by kernel_rfl) rfl rfl ⟨fun _ _ _ h k => h.mv (Mv.of_keep k), kI, fun _ _ _ ⟨a, e, h⟩ k => ⟨a, e, h.mv (Mv.of_keep k)⟩, fun _ _ _ ⟨a, e, h⟩ k => ⟨a, e, h.mv (Mv.of_keep k)⟩, kI, fun _ _ _ ⟨a, e, h⟩ k => ⟨a, e, h.mv (Mv.of_keep k)⟩, kI, kI, kI, kI, kI, kI, kI, kI, kI, kI, trivial⟩ ⟨?_, ?_, ?_, ?_, ?_, ?_, ?_, ?_, ?_, ?_, ?_, ?_, ?_, ?_, ?_, ?_, trivial⟩ ?_
    ·intro F1 w1 k1 hf hd
     have k0 := (Keep.drew [] wl0).trans k1
     have m1 : Mv Bl0 wl0 Bl0 w1 := Mv.of_keep k0
     have h_l := h_l.mv m1
     obtain ⟨F2, rfl⟩ := lit_of (F := F1) [(0, l_v)] ⟨hf 0 (by kernel_rfl), trivial⟩
     exact sp_plain rfl ((o_move (l_v) rfl (⟨(Keep.refl _ _), h_l⟩)))
    ·intro F1 w1 k1 hf hd
     obtain ⟨F2, rfl⟩ := lit_of (F := F1) [(5, vI ((k : Nat) : Int))] ⟨hf 5 (by kernel_rfl), trivial⟩
     exact sp_plain rfl ((o_move (vI ((k : Nat) : Int)) rfl (⟨(Keep.refl _ _), rfl⟩)))
    ·intro F1 w1 k1 hf hd
     obtain ⟨v2017, e2019, hl2018⟩ : ∃ v, F1 12 = v ∧ RdL Enc.devop w1 (Bl0 ++ O) v (l) := ⟨_, rfl, hd 0 12 (by kernel_rfl)⟩
     have := hl2018.len_le
     obtain ⟨F2, rfl⟩ := lit_of (F := F1) [(12, v2017), (13, vI ((k : Nat) : Int))] ⟨e2019, hd 1 13 (by kernel_rfl), trivial⟩
     exact sp_plain rfl ((o_idx Try.underlying26 s_40 .i64 ((k : Nat) : Int) k rfl rfl rfl hl2018 (by omega) fun a2020 hp2021 => (⟨(Keep.refl _ _), ⟨a2020, rfl, hp2021⟩⟩)))
    ·intro F1 w1 k1 hf hd
     obtain ⟨a2022, e2024, hp2023⟩ : ∃ aX_, F1 14 = .pointer (some aX_) ∧ PT Enc.devop w1 (Bl0 ++ O) (.pointer (some aX_)) (l[k]!) := hd 2 14 (by kernel_rfl)
     obtain ⟨F2, rfl⟩ := lit_of (F := F1) [(14, Value.pointer (some a2022))] ⟨e2024, trivial⟩
     exact sp_plain rfl ((o_fieldR 0 f_40_0 ((l[k]!).device) rfl hp2023 (fun _ _ _ h => Enc_devop_f0 h) fun a2025 hp2026 => (⟨(Keep.refl _ _), ⟨a2025, rfl, hp2026⟩⟩)))
    ·intro F1 w1 k1 hf hd
     obtain ⟨a2027, e2029, hp2028⟩ : ∃ aX_, F1 15 = .pointer (some aX_) ∧ PT Enc.int w1 (Bl0 ++ O) (.pointer (some aX_)) ((l[k]!).device) := hd 3 15 (by kernel_rfl)
     obtain ⟨F2, rfl⟩ := lit_of (F := F1) [(15, Value.pointer (some a2027))] ⟨e2029, trivial⟩
     exact sp_plain rfl ((o_loadI Try.underlying3 rfl rfl hp2028 (⟨(Keep.refl _ _), rfl⟩)))
    ·intro F1 w1 k1 hf hd
     have k0 := (Keep.drew [] wl0).trans k1
     have m1 : Mv Bl0 wl0 Bl0 w1 := Mv.of_keep k0
     have hp2012 := hp2012.mv m1
     obtain ⟨F2, rfl⟩ := lit_of (F := F1) [(3, Value.pointer (some a2007))] ⟨hf 3 (by kernel_rfl), trivial⟩
     exact sp_plain rfl ((o_fieldR 0 f_40_0 (o.device) rfl hp2012 (fun _ _ _ h => Enc_devop_f0 h) fun a2030 hp2031 => (⟨(Keep.refl _ _), ⟨a2030, rfl, hp2031⟩⟩)))
    ·intro F1 w1 k1 hf hd
     obtain ⟨a2032, e2034, hp2033⟩ : ∃ aX_, F1 17 = .pointer (some aX_) ∧ PT Enc.int w1 (Bl0 ++ O) (.pointer (some aX_)) (o.device) := hd 5 17 (by kernel_rfl)
     obtain ⟨F2, rfl⟩ := lit_of (F := F1) [(17, Value.pointer (some a2032))] ⟨e2034, trivial⟩
     exact sp_plain rfl ((o_loadI Try.underlying3 rfl rfl hp2033 (⟨(Keep.refl _ _), rfl⟩)))
    ·intro F1 w1 k1 hf hd
     obtain ⟨F2, rfl⟩ := lit_of (F := F1) [(16, vI ((l[k]!).device)), (18, vI o.device)] ⟨hd 4 16 (by kernel_rfl), hd 6 18 (by kernel_rfl), trivial⟩
     refine sp_plain rfl ((o_eql .i64 ((l[k]!).device) o.device rfl rfl (?_)))
     exact ⟨(Keep.refl _ _), congrArg Value.bool (hb2015)⟩
    ·intro F1 w1 k1 hf hd
     obtain ⟨F2, rfl⟩ := lit_of (F := F1) [(19, Value.bool false)] ⟨hd 7 19 (by kernel_rfl), trivial⟩
     exact sp_plain rfl ((o_move (Value.bool false) rfl (⟨(Keep.refl _ _), rfl⟩)))
    ·intro F1 w1 k1 hf hd
     exact sp_skipD rfl rfl (hd 8 20 (by kernel_rfl)) rfl rfl
    ·intro F1 w1 k1 hf hd
     exact sp_skipD rfl rfl (hd 8 20 (by kernel_rfl)) rfl rfl
    ·intro F1 w1 k1 hf hd
     exact sp_skipD rfl rfl (hd 8 20 (by kernel_rfl)) rfl rfl
    ·intro F1 w1 k1 hf hd
     exact sp_skipD rfl rfl (hd 8 20 (by kernel_rfl)) rfl rfl
    ·intro F1 w1 k1 hf hd
     exact sp_skipD rfl rfl (hd 8 20 (by kernel_rfl)) rfl rfl
    ·intro F1 w1 k1 hf hd
     exact sp_skipD rfl rfl (hd 8 20 (by kernel_rfl)) rfl rfl
    ·intro F1 w1 k1 hf hd
     exact sp_skipD rfl rfl (hd 8 20 (by kernel_rfl)) rfl rfl
    intro F2036 w2037 k2035 hT2038 hF2039
    have s2040 := sl0.call k2035
    have m2041 : Mv Bl0 wl0 Bl0 w2037 := Mv.of_keep k2035
    have h_l := h_l.mv m2041
    have hp2012 := hp2012.mv m2041
    obtain ⟨F2, rfl⟩ := lit_of (F := F2036) [(0, l_v), (3, Value.pointer (some a2007)), (5, vI ((k : Nat) : Int)), (30, undef), (20, Value.bool false)] ⟨hF2039 0 (by kernel_rfl), hF2039 3 (by kernel_rfl), hF2039 5 (by kernel_rfl), hF2039 30 (by kernel_rfl), hT2038 8 20 (by kernel_rfl) (by decide), trivial⟩
    clear hT2038 hF2039
    refine wl_k rfl (wl_s (o_pickF (Value.bool false) rfl rfl (wl_nil (thenQ_n (?_)))))
    refine cw_cond false rfl rfl (fun h => by cases h) (fun _ => ?_)
    refine cw_skip (blockQ_n (thenQ_n (?_)))
    refine cw_region (by kernel_rfl) (wl_s (o_move (vI ((k : Nat) : Int)) rfl (wl_s (o_add .i64 ((k : Nat) : Int) (1 : Int) (((k + 1 : Nat) : Int)) rfl rfl (w64 (by omega) (by omega)) (wl_s (o_assign (vI ((k + 1 : Nat) : Int)) rfl (wl_nil (thenQ_n (?_)))))))))
    exact ⟨_, (by omega), (k + 1), Bl0, (by omega), (nn_step hr0_1 (by first | exact num_ne1 (by assumption) | exact num_ne2 (by assumption))), rfl, ⟨_, upds_self _ ⟨rfl, rfl, (by first | rfl | exact congrArg (Value.int _) (by first | omega | (simp))), rfl, trivial⟩⟩, s2040, h_l, hp2012⟩
   ·have hp2044 : (l[k]!).device = o.device := by first | simpa using hb2015 | (have e := hb2015; simp at e; omega)
    refine cw_draw' 16 _ _ [fun (vT : Value) (wT : World) => RdL Enc.devop wT (Bl0 ++ O) vT (l), isV (vI ((k : Nat) : Int)), fun (vT : Value) (wT : World) => ∃ aT, vT = .pointer (some aT) ∧ PT Enc.devop wT (Bl0 ++ O) (.pointer (some aT)) (l[k]!), fun (vT : Value) (wT : World) => ∃ aT, vT = .pointer (some aT) ∧ PT Enc.int wT (Bl0 ++ O) (.pointer (some aT)) ((l[k]!).device), isV (vI ((l[k]!).device)), fun (vT : Value) (wT : World) => ∃ aT, vT = .pointer (some aT) ∧ PT Enc.int wT (Bl0 ++ O) (.pointer (some aT)) (o.device), isV (vI o.device), isV (Value.bool true), isV (Value.bool true), fun (vT : Value) (wT : World) => RdL Enc.devop wT (Bl0 ++ O) vT (l), isV (vI ((k : Nat) : Int)), fun (vT : Value) (wT : World) => ∃ aT, vT = .pointer (some aT) ∧ PT Enc.devop wT (Bl0 ++ O) (.pointer (some aT)) (l[k]!), fun (vT : Value) (wT : World) => ∃ aT, vT = .pointer (some aT) ∧ PT Enc.int wT (Bl0 ++ O) (.pointer (some aT)) ((l[k]!).no), isV (vI ((l[k]!).no)), fun (vT : Value) (wT : World) => ∃ aT, vT = .pointer (some aT) ∧ PT Enc.int wT (Bl0 ++ O) (.pointer (some aT)) (o.no), isV (vI o.no)] (by kernel_rfl) (by kernel_rfl) (by kernel_rfl) (by kernel_rfl) rfl rfl ⟨fun _ _ _ h k => h.mv (Mv.of_keep k), kI, fun _ _ _ ⟨a, e, h⟩ k => ⟨a, e, h.mv (Mv.of_keep k)⟩, fun _ _ _ ⟨a, e, h⟩ k => ⟨a, e, h.mv (Mv.of_keep k)⟩, kI, fun _ _ _ ⟨a, e, h⟩ k => ⟨a, e, h.mv (Mv.of_keep k)⟩, kI, kI, kI, fun _ _ _ h k => h.mv (Mv.of_keep k), kI, fun _ _ _ ⟨a, e, h⟩ k => ⟨a, e, h.mv (Mv.of_keep k)⟩, fun _ _ _ ⟨a, e, h⟩ k => ⟨a, e, h.mv (Mv.of_keep k)⟩, kI, fun _ _ _ ⟨a, e, h⟩ k => ⟨a, e, h.mv (Mv.of_keep k)⟩, kI, trivial⟩ ⟨?_, ?_, ?_, ?_, ?_, ?_, ?_, ?_, ?_, ?_, ?_, ?_, ?_, ?_, ?_, ?_, trivial⟩ ?_
    ·intro F1 w1 k1 hf hd
     have k0 := (Keep.drew [] wl0).trans k1
     have m1 : Mv Bl0 wl0 Bl0 w1 := Mv.of_keep k0
     have h_l := h_l.mv m1
     obtain ⟨F2, rfl⟩ := lit_of (F := F1) [(0, l_v)] ⟨hf 0 (by kernel_rfl), trivial⟩
     exact sp_plain rfl ((o_move (l_v) rfl (⟨(Keep.refl _ _), h_l⟩)))
    ·intro F1 w1 k1 hf hd
     obtain ⟨F2, rfl⟩ := lit_of (F := F1) [(5, vI ((k : Nat) : Int))] ⟨hf 5 (by kernel_rfl), trivial⟩
     exact sp_plain rfl ((o_move (vI ((k : Nat) : Int)) rfl (⟨(Keep.refl _ _), rfl⟩)))
    ·intro F1 w1 k1 hf hd
     obtain ⟨v2045, e2047, hl2046⟩ : ∃ v, F1 12 = v ∧ RdL Enc.devop w1 (Bl0 ++ O) v (l) := ⟨_, rfl, hd 0 12 (by kernel_rfl)⟩
     have := hl2046.len_le
     obtain ⟨F2, rfl⟩ := lit_of (F := F1) [(12, v2045), (13, vI ((k : Nat) : Int))] ⟨e2047, hd 1 13 (by kernel_rfl), trivial⟩
     exact sp_plain rfl ((o_idx Try.underlying26 s_40 .i64 ((k : Nat) : Int) k rfl rfl rfl hl2046 (by omega) fun a2048 hp2049 => (⟨(Keep.refl _ _), ⟨a2048, rfl, hp2049⟩⟩)))
    ·intro F1 w1 k1 hf hd
     obtain ⟨a2050, e2052, hp2051⟩ : ∃ aX_, F1 14 = .pointer (some aX_) ∧ PT Enc.devop w1 (Bl0 ++ O) (.pointer (some aX_)) (l[k]!) := hd 2 14 (by kernel_rfl)
     obtain ⟨F2, rfl⟩ := lit_of (F := F1) [(14, Value.pointer (some a2050))] ⟨e2052, trivial⟩
     exact sp_plain rfl ((o_fieldR 0 f_40_0 ((l[k]!).device) rfl hp2051 (fun _ _ _ h => Enc_devop_f0 h) fun a2053 hp2054 => (⟨(Keep.refl _ _), ⟨a2053, rfl, hp2054⟩⟩)))
    ·intro F1 w1 k1 hf hd
     obtain ⟨a2055, e2057, hp2056⟩ : ∃ aX_, F1 15 = .pointer (some aX_) ∧ PT Enc.int w1 (Bl0 ++ O) (.pointer (some aX_)) ((l[k]!).device) := hd 3 15 (by kernel_rfl)
     obtain ⟨F2, rfl⟩ := lit_of (F := F1) [(15, Value.pointer (some a2055))] ⟨e2057, trivial⟩
     exact sp_plain rfl ((o_loadI Try.underlying3 rfl rfl hp2056 (⟨(Keep.refl _ _), rfl⟩)))
    ·intro F1 w1 k1 hf hd
     have k0 := (Keep.drew [] wl0).trans k1
     have m1 : Mv Bl0 wl0 Bl0 w1 := Mv.of_keep k0
     have hp2012 := hp2012.mv m1
     obtain ⟨F2, rfl⟩ := lit_of (F := F1) [(3, Value.pointer (some a2007))] ⟨hf 3 (by kernel_rfl), trivial⟩
     exact sp_plain rfl ((o_fieldR 0 f_40_0 (o.device) rfl hp2012 (fun _ _ _ h => Enc_devop_f0 h) fun a2058 hp2059 => (⟨(Keep.refl _ _), ⟨a2058, rfl, hp2059⟩⟩)))
    ·intro F1 w1 k1 hf hd
     obtain ⟨a2060, e2062, hp2061⟩ : ∃ aX_, F1 17 = .pointer (some aX_) ∧ PT Enc.int w1 (Bl0 ++ O) (.pointer (some aX_)) (o.device) := hd 5 17 (by kernel_rfl)
     obtain ⟨F2, rfl⟩ := lit_of (F := F1) [(17, Value.pointer (some a2060))] ⟨e2062, trivial⟩
     exact sp_plain rfl ((o_loadI Try.underlying3 rfl rfl hp2061 (⟨(Keep.refl _ _), rfl⟩)))
    ·intro F1 w1 k1 hf hd
     obtain ⟨F2, rfl⟩ := lit_of (F := F1) [(16, vI ((l[k]!).device)), (18, vI o.device)] ⟨hd 4 16 (by kernel_rfl), hd 6 18 (by kernel_rfl), trivial⟩
     refine sp_plain rfl ((o_eql .i64 ((l[k]!).device) o.device rfl rfl (?_)))
     exact ⟨(Keep.refl _ _), congrArg Value.bool (hb2015)⟩
    ·intro F1 w1 k1 hf hd
     obtain ⟨F2, rfl⟩ := lit_of (F := F1) [(19, Value.bool true)] ⟨hd 7 19 (by kernel_rfl), trivial⟩
     exact sp_plain rfl ((o_move (Value.bool true) rfl (⟨(Keep.refl _ _), rfl⟩)))
    ·intro F1 w1 k1 hf hd
     have k0 := (Keep.drew [] wl0).trans k1
     have m1 : Mv Bl0 wl0 Bl0 w1 := Mv.of_keep k0
     have h_l := h_l.mv m1
     obtain ⟨F2, rfl⟩ := lit_of (F := F1) [(0, l_v), (20, Value.bool true)] ⟨hf 0 (by kernel_rfl), hd 8 20 (by kernel_rfl), trivial⟩
     exact sp_take rfl rfl ((o_move (l_v) rfl (⟨(Keep.refl _ _), h_l⟩)))
    ·intro F1 w1 k1 hf hd
     obtain ⟨F2, rfl⟩ := lit_of (F := F1) [(5, vI ((k : Nat) : Int)), (20, Value.bool true)] ⟨hf 5 (by kernel_rfl), hd 8 20 (by kernel_rfl), trivial⟩
     exact sp_take rfl rfl ((o_move (vI ((k : Nat) : Int)) rfl (⟨(Keep.refl _ _), rfl⟩)))
    ·intro F1 w1 k1 hf hd
     obtain ⟨v2063, e2065, hl2064⟩ : ∃ v, F1 21 = v ∧ RdL Enc.devop w1 (Bl0 ++ O) v (l) := ⟨_, rfl, hd 9 21 (by kernel_rfl)⟩
     have := hl2064.len_le
     obtain ⟨F2, rfl⟩ := lit_of (F := F1) [(20, Value.bool true), (21, v2063), (22, vI ((k : Nat) : Int))] ⟨hd 8 20 (by kernel_rfl), e2065, hd 10 22 (by kernel_rfl), trivial⟩
     exact sp_take rfl rfl ((o_idx Try.underlying26 s_40 .i64 ((k : Nat) : Int) k rfl rfl rfl hl2064 (by omega) fun a2066 hp2067 => (⟨(Keep.refl _ _), ⟨a2066, rfl, hp2067⟩⟩)))
    ·intro F1 w1 k1 hf hd
     obtain ⟨a2068, e2070, hp2069⟩ : ∃ aX_, F1 23 = .pointer (some aX_) ∧ PT Enc.devop w1 (Bl0 ++ O) (.pointer (some aX_)) (l[k]!) := hd 11 23 (by kernel_rfl)
     obtain ⟨F2, rfl⟩ := lit_of (F := F1) [(20, Value.bool true), (23, Value.pointer (some a2068))] ⟨hd 8 20 (by kernel_rfl), e2070, trivial⟩
     exact sp_take rfl rfl ((o_fieldR 1 f_40_1 ((l[k]!).no) rfl hp2069 (fun _ _ _ h => Enc_devop_f1 h) fun a2071 hp2072 => (⟨(Keep.refl _ _), ⟨a2071, rfl, hp2072⟩⟩)))
    ·intro F1 w1 k1 hf hd
     obtain ⟨a2073, e2075, hp2074⟩ : ∃ aX_, F1 24 = .pointer (some aX_) ∧ PT Enc.int w1 (Bl0 ++ O) (.pointer (some aX_)) ((l[k]!).no) := hd 12 24 (by kernel_rfl)
     obtain ⟨F2, rfl⟩ := lit_of (F := F1) [(20, Value.bool true), (24, Value.pointer (some a2073))] ⟨hd 8 20 (by kernel_rfl), e2075, trivial⟩
     exact sp_take rfl rfl ((o_loadI Try.underlying3 rfl rfl hp2074 (⟨(Keep.refl _ _), rfl⟩)))
    ·intro F1 w1 k1 hf hd
     have k0 := (Keep.drew [] wl0).trans k1
     have m1 : Mv Bl0 wl0 Bl0 w1 := Mv.of_keep k0
     have hp2012 := hp2012.mv m1
     obtain ⟨F2, rfl⟩ := lit_of (F := F1) [(3, Value.pointer (some a2007)), (20, Value.bool true)] ⟨hf 3 (by kernel_rfl), hd 8 20 (by kernel_rfl), trivial⟩
     exact sp_take rfl rfl ((o_fieldR 1 f_40_1 (o.no) rfl hp2012 (fun _ _ _ h => Enc_devop_f1 h) fun a2076 hp2077 => (⟨(Keep.refl _ _), ⟨a2076, rfl, hp2077⟩⟩)))
    ·intro F1 w1 k1 hf hd
     obtain ⟨a2078, e2080, hp2079⟩ : ∃ aX_, F1 26 = .pointer (some aX_) ∧ PT Enc.int w1 (Bl0 ++ O) (.pointer (some aX_)) (o.no) := hd 14 26 (by kernel_rfl)
     obtain ⟨F2, rfl⟩ := lit_of (F := F1) [(20, Value.bool true), (26, Value.pointer (some a2078))] ⟨hd 8 20 (by kernel_rfl), e2080, trivial⟩
     exact sp_take rfl rfl ((o_loadI Try.underlying3 rfl rfl hp2079 (⟨(Keep.refl _ _), rfl⟩)))
    intro F2082 w2083 k2081 hT2084 hF2085
    have s2086 := sl0.call k2081
    have m2087 : Mv Bl0 wl0 Bl0 w2083 := Mv.of_keep k2081
    have h_l := h_l.mv m2087
    have hp2012 := hp2012.mv m2087
    obtain ⟨F2, rfl⟩ := lit_of (F := F2082) [(0, l_v), (3, Value.pointer (some a2007)), (5, vI ((k : Nat) : Int)), (30, undef), (20, Value.bool true), (25, vI ((l[k]!).no)), (27, vI o.no)] ⟨hF2085 0 (by kernel_rfl), hF2085 3 (by kernel_rfl), hF2085 5 (by kernel_rfl), hF2085 30 (by kernel_rfl), hT2084 8 20 (by kernel_rfl) (by decide), hT2084 13 25 (by kernel_rfl) (by decide), hT2084 15 27 (by kernel_rfl) (by decide), trivial⟩
    clear hT2084 hF2085
    refine wl_t rfl (o_eql .i64 ((l[k]!).no) o.no rfl rfl (wl_s (o_pickT (Value.bool (((l[k]!).no) == o.no)) rfl rfl (wl_nil (thenQ_n (?_))))))
    refine cw_cond (((l[k]!).no) == o.no) rfl rfl (fun hc2090 => ?_) (fun hc2090 => ?_)
    ·have hp2091 : (l[k]!).no = o.no := by first | simpa using hc2090 | (have e := hc2090; simp at e; omega)
     refine cw_seq (?_)
     refine cw_region (by kernel_rfl) (wl_s (o_assign (Value.bool true) rfl (wl_nil (thenQ_n (?_)))))
     refine cw_ret (blockQ_r (thenQ_r (thenQ_r (blockQ_r (thenQ_r (end_r rfl (res1 rfl rfl rfl) (?_)))))))
     have e : (clashM l o) = true := by first | exact clash_yes (k := k) (by omega) (by assumption) (by assumption) | exact clash_no hr0_1
     exact ⟨_, rfl, s2086.keep, (by first | exact congrArg Value.bool e.symm | rfl)⟩
    ·have hp2092 : (l[k]!).no ≠ o.no := by first | simpa using hc2090 | (have e := hc2090; simp at e; omega)
     refine cw_skip (blockQ_n (thenQ_n (?_)))
     refine cw_region (by kernel_rfl) (wl_s (o_move (vI ((k : Nat) : Int)) rfl (wl_s (o_add .i64 ((k : Nat) : Int) (1 : Int) (((k + 1 : Nat) : Int)) rfl rfl (w64 (by omega) (by omega)) (wl_s (o_assign (vI ((k + 1 : Nat) : Int)) rfl (wl_nil (thenQ_n (?_)))))))))
     exact ⟨_, (by omega), (k + 1), Bl0, (by omega), (nn_step hr0_1 (by first | exact num_ne1 (by assumption) | exact num_ne2 (by assumption))), rfl, ⟨_, upds_self _ ⟨rfl, rfl, (by first | rfl | exact congrArg (Value.int _) (by first | omega | (simp))), rfl, trivial⟩⟩, s2086, h_l, hp2012⟩
  ·have hp2093 : (l.length : Int) ≤ ((k : Nat) : Int) := by first | simpa using hc2013 | (have e := hc2013; simp at e; omega)
   obtain rfl : k = l.length := by omega
   refine cw_exit (thenQ_x (thenQ_x (blockQ_x (thenQ_n (?_)))))
   refine cw_seq (?_)
   refine cw_region (by kernel_rfl) (wl_s (o_assign (Value.bool false) rfl (wl_nil (thenQ_n (?_)))))
   refine cw_ret (end_r rfl (res1 rfl rfl rfl) (?_))
   have e : (clashM l o) = false := by first | exact clash_yes (k := k) (by omega) (by assumption) (by assumption) | exact clash_no hr0_1
   exact ⟨_, rfl, sl0.keep, (by first | exact congrArg Value.bool e.symm | rfl)⟩
set_option maxHeartbeats 4000000 in
set_option maxRecDepth 100000 in
theorem c_refIns {O : List Nat} (l_v : Value) (l : List DeviceOp) (o_cs : List Value) (o : DeviceOp) (w : World) (h_l : RdL Enc.devop w O l_v l) (h_o : Enc.devop.rd w O o_cs o) (hpre0 : l.length ≤ 1000000) (hO : ∀ b ∈ O, b < w.heap.size) : CallsK Try.prog 69 [l_v, .agg o_cs.toArray] w (fun v w' => ∃ (x0 : Value), v = x0 ∧ RdL Enc.devop w' (O) x0 (insM l o)) :=  by
 have lim_l := h_l.len_le
 have h_l : RdL Enc.devop w ([] ++ O) l_v l := h_l
 obtain rfl := h_o
 have s0 : St w O w [] := St.start hO
 refine callsK_of 32 Try.func69 rfl rfl (of_decide_eq_true rfl) (fun F0 => ?_)
 refine cw_seq (?_)
 refine cw_region (by kernel_rfl) (wl_s (o_boxR (E := Enc.devop) (Value.agg #[vI o.device, vI o.no, vI o.kind, vI o.copy, vI o.to, vI o.token]) ([vI o.device, vI o.no, vI o.kind, vI o.copy, vI o.to, vI o.token]) o rfl rfl rfl s0 fun a2094 w2095 s2096 m2097 k2098 hp2099 => (?_)))
 have h_l := h_l.mv m2097
 refine wl_s (o_assign (Value.slice none 0 0) rfl (wl_nil (thenQ_n (?_))))
 refine cw_seq (?_)
 refine cw_region (by kernel_rfl) (wl_s (o_assign (vI (0 : Int)) rfl (wl_nil (thenQ_n (?_)))))
 refine cw_cut (fun FI wI => ∃ (n : Nat) (B : List Nat), n ≤ l.length ∧ twM l o = n ∧ True ∧ (∃ F1, FI = upds F1 [(0, l_v), (3, Value.pointer (some a2094)), (5, vI ((n : Nat) : Int)), (32, undef)]) ∧ St w O wI B ∧ RdL Enc.devop wI (B ++ O) (l_v) (l) ∧ PT Enc.devop wI (B ++ O) (.pointer (some a2094)) (o)) ?_ ?_
 ·refine cw_block (?_)
  refine cw_loop (fun mI FI wI => ∃ (k : Nat) (B : List Nat), k ≤ l.length ∧ (∀ q, q < k → cmpM l[q]! o < 0) ∧ mI = l.length - k ∧ (∃ F1, FI = upds F1 [(0, l_v), (3, Value.pointer (some a2094)), (5, vI ((k : Nat) : Int)), (32, undef)]) ∧ St w O wI B ∧ RdL Enc.devop wI (B ++ O) (l_v) (l) ∧ PT Enc.devop wI (B ++ O) (.pointer (some a2094)) (o)) (l.length - (0)) ?_ ?_
  ·exact ⟨(0), [], (by omega), (fun q hq => by omega), rfl, ⟨_, upds_self _ ⟨rfl, rfl, (by first | rfl | exact congrArg (Value.int _) (by first | omega | (simp))), rfl, trivial⟩⟩, s2096, h_l, hp2099⟩
  ·intro ml0 F wl0 hI
   clear h_l hp2099
   obtain ⟨k, Bl0, hr0_0, hr0_1, hm0, ⟨Fl0, rfl⟩, sl0, h_l, hp2099⟩ := hI
   refine cw_seq (?_)
   refine cw_seq (?_)
   cases hb2100 : (decide (((k : Nat) : Int) < (l.length : Int)))
   ·have hp2101 : (l.length : Int) ≤ ((k : Nat) : Int) := by first | simpa using hb2100 | (have e := hb2100; simp at e; omega)
    refine cw_draw' 10 _ _ [isV (vI ((k : Nat) : Int)), fun (vT : Value) (wT : World) => RdL Enc.devop wT (Bl0 ++ O) vT (l), isV (vI (l.length : Int)), isV (Value.bool false), isV (Value.bool false), isV undef, isV undef, isV undef, isV undef, isV undef] (by kernel_rfl) (by kernel_rfl) (by kernel_rfl) (by kernel_rfl) rfl rfl ⟨kI, fun _ _ _ h k => h.mv (Mv.of_keep k), kI, kI, kI, kI, kI, kI, kI, kI, trivial⟩ ⟨?_, ?_, ?_, ?_, ?_, ?_, ?_, ?_, ?_, ?_, trivial⟩ ?_
    ·intro F1 w1 k1 hf hd
     obtain ⟨F2, rfl⟩ := lit_of (F := F1) [(5, vI ((k : Nat) : Int))] ⟨hf 5 (by kernel_rfl), trivial⟩
     exact sp_plain rfl ((o_move (vI ((k : Nat) : Int)) rfl (⟨(Keep.refl _ _), rfl⟩)))
    ·intro F1 w1 k1 hf hd
     have k0 := (Keep.drew [] wl0).trans k1
     have m1 : Mv Bl0 wl0 Bl0 w1 := Mv.of_keep k0
     have h_l := h_l.mv m1
     obtain ⟨F2, rfl⟩ := lit_of (F := F1) [(0, l_v)] ⟨hf 0 (by kernel_rfl), trivial⟩
     exact sp_plain rfl ((o_move (l_v) rfl (⟨(Keep.refl _ _), h_l⟩)))
    ·intro F1 w1 k1 hf hd
     obtain ⟨v2102, e2104, hl2103⟩ : ∃ v, F1 7 = v ∧ RdL Enc.devop w1 (Bl0 ++ O) v (l) := ⟨_, rfl, hd 1 7 (by kernel_rfl)⟩
     have := hl2103.len_le
     obtain ⟨F2, rfl⟩ := lit_of (F := F1) [(7, v2102)] ⟨e2104, trivial⟩
     exact sp_plain rfl ((o_lenR Try.underlying26 rfl hl2103 (⟨(Keep.refl _ _), rfl⟩)))
    ·intro F1 w1 k1 hf hd
     obtain ⟨F2, rfl⟩ := lit_of (F := F1) [(6, vI ((k : Nat) : Int)), (8, vI (l.length : Int))] ⟨hd 0 6 (by kernel_rfl), hd 2 8 (by kernel_rfl), trivial⟩
     refine sp_plain rfl ((o_lss .i64 ((k : Nat) : Int) (l.length : Int) rfl rfl (?_)))
     exact ⟨(Keep.refl _ _), congrArg Value.bool (hb2100)⟩
    ·intro F1 w1 k1 hf hd
     obtain ⟨F2, rfl⟩ := lit_of (F := F1) [(9, Value.bool false)] ⟨hd 3 9 (by kernel_rfl), trivial⟩
     exact sp_plain rfl ((o_move (Value.bool false) rfl (⟨(Keep.refl _ _), rfl⟩)))
    ·intro F1 w1 k1 hf hd
     exact sp_skipD rfl rfl (hd 4 10 (by kernel_rfl)) rfl rfl
    ·intro F1 w1 k1 hf hd
     exact sp_skipD rfl rfl (hd 4 10 (by kernel_rfl)) rfl rfl
    ·intro F1 w1 k1 hf hd
     exact sp_skipD rfl rfl (hd 4 10 (by kernel_rfl)) rfl rfl
    ·intro F1 w1 k1 hf hd
     exact sp_skipD rfl rfl (hd 4 10 (by kernel_rfl)) rfl rfl
    ·intro F1 w1 k1 hf hd
     exact sp_skipD rfl rfl (hd 4 10 (by kernel_rfl)) rfl rfl
    intro F2106 w2107 k2105 hT2108 hF2109
    have s2110 := sl0.call k2105
    have m2111 : Mv Bl0 wl0 Bl0 w2107 := Mv.of_keep k2105
    have h_l := h_l.mv m2111
    have hp2099 := hp2099.mv m2111
    obtain ⟨F2, rfl⟩ := lit_of (F := F2106) [(0, l_v), (3, Value.pointer (some a2094)), (5, vI ((k : Nat) : Int)), (32, undef), (10, Value.bool false)] ⟨hF2109 0 (by kernel_rfl), hF2109 3 (by kernel_rfl), hF2109 5 (by kernel_rfl), hF2109 32 (by kernel_rfl), hT2108 4 10 (by kernel_rfl) (by decide), trivial⟩
    clear hT2108 hF2109
    refine wl_k rfl (wl_s (o_pickF (Value.bool false) rfl rfl (wl_nil (thenQ_n (?_)))))
    refine cw_cond false rfl rfl (fun h => by cases h) (fun _ => ?_)
    refine cw_exit (thenQ_x (thenQ_x (blockQ_x (thenQ_n (?_)))))
    exact ⟨(k), Bl0, (by omega), (tw_at (by omega) hr0_1 (fun h => by first | assumption | omega)), trivial, ⟨_, upds_self _ ⟨rfl, rfl, (by first | rfl | exact congrArg (Value.int _) (by first | omega | (simp))), rfl, trivial⟩⟩, s2110, h_l, hp2099⟩
   ·have hp2114 : ((k : Nat) : Int) < (l.length : Int) := by first | simpa using hb2100 | (have e := hb2100; simp at e; omega)
    refine cw_draw' 10 _ _ [isV (vI ((k : Nat) : Int)), fun (vT : Value) (wT : World) => RdL Enc.devop wT (Bl0 ++ O) vT (l), isV (vI (l.length : Int)), isV (Value.bool true), isV (Value.bool true), fun (vT : Value) (wT : World) => RdL Enc.devop wT (Bl0 ++ O) vT (l), isV (vI ((k : Nat) : Int)), fun (vT : Value) (wT : World) => ∃ aT, vT = .pointer (some aT) ∧ PT Enc.devop wT (Bl0 ++ O) (.pointer (some aT)) (l[k]!), isV (Value.agg #[vI ((l[k]!).device), vI ((l[k]!).no), vI ((l[k]!).kind), vI ((l[k]!).copy), vI ((l[k]!).to), vI ((l[k]!).token)]), isV (Value.agg #[vI o.device, vI o.no, vI o.kind, vI o.copy, vI o.to, vI o.token])] (by kernel_rfl) (by kernel_rfl) (by kernel_rfl) (by kernel_rfl) rfl rfl ⟨kI, fun _ _ _ h k => h.mv (Mv.of_keep k), kI, kI, kI, fun _ _ _ h k => h.mv (Mv.of_keep k), kI, fun _ _ _ ⟨a, e, h⟩ k => ⟨a, e, h.mv (Mv.of_keep k)⟩, kI, kI, trivial⟩ ⟨?_, ?_, ?_, ?_, ?_, ?_, ?_, ?_, ?_, ?_, trivial⟩ ?_
    ·intro F1 w1 k1 hf hd
     obtain ⟨F2, rfl⟩ := lit_of (F := F1) [(5, vI ((k : Nat) : Int))] ⟨hf 5 (by kernel_rfl), trivial⟩
     exact sp_plain rfl ((o_move (vI ((k : Nat) : Int)) rfl (⟨(Keep.refl _ _), rfl⟩)))
    ·intro F1 w1 k1 hf hd
     have k0 := (Keep.drew [] wl0).trans k1
     have m1 : Mv Bl0 wl0 Bl0 w1 := Mv.of_keep k0
     have h_l := h_l.mv m1
     obtain ⟨F2, rfl⟩ := lit_of (F := F1) [(0, l_v)] ⟨hf 0 (by kernel_rfl), trivial⟩
     exact sp_plain rfl ((o_move (l_v) rfl (⟨(Keep.refl _ _), h_l⟩)))
    ·intro F1 w1 k1 hf hd
     obtain ⟨v2115, e2117, hl2116⟩ : ∃ v, F1 7 = v ∧ RdL Enc.devop w1 (Bl0 ++ O) v (l) := ⟨_, rfl, hd 1 7 (by kernel_rfl)⟩
     have := hl2116.len_le
     obtain ⟨F2, rfl⟩ := lit_of (F := F1) [(7, v2115)] ⟨e2117, trivial⟩
     exact sp_plain rfl ((o_lenR Try.underlying26 rfl hl2116 (⟨(Keep.refl _ _), rfl⟩)))
    ·intro F1 w1 k1 hf hd
     obtain ⟨F2, rfl⟩ := lit_of (F := F1) [(6, vI ((k : Nat) : Int)), (8, vI (l.length : Int))] ⟨hd 0 6 (by kernel_rfl), hd 2 8 (by kernel_rfl), trivial⟩
     refine sp_plain rfl ((o_lss .i64 ((k : Nat) : Int) (l.length : Int) rfl rfl (?_)))
     exact ⟨(Keep.refl _ _), congrArg Value.bool (hb2100)⟩
    ·intro F1 w1 k1 hf hd
     obtain ⟨F2, rfl⟩ := lit_of (F := F1) [(9, Value.bool true)] ⟨hd 3 9 (by kernel_rfl), trivial⟩
     exact sp_plain rfl ((o_move (Value.bool true) rfl (⟨(Keep.refl _ _), rfl⟩)))
    ·intro F1 w1 k1 hf hd
     have k0 := (Keep.drew [] wl0).trans k1
     have m1 : Mv Bl0 wl0 Bl0 w1 := Mv.of_keep k0
     have h_l := h_l.mv m1
     obtain ⟨F2, rfl⟩ := lit_of (F := F1) [(0, l_v), (10, Value.bool true)] ⟨hf 0 (by kernel_rfl), hd 4 10 (by kernel_rfl), trivial⟩
     exact sp_take rfl rfl ((o_move (l_v) rfl (⟨(Keep.refl _ _), h_l⟩)))
    ·intro F1 w1 k1 hf hd
     obtain ⟨F2, rfl⟩ := lit_of (F := F1) [(5, vI ((k : Nat) : Int)), (10, Value.bool true)] ⟨hf 5 (by kernel_rfl), hd 4 10 (by kernel_rfl), trivial⟩
     exact sp_take rfl rfl ((o_move (vI ((k : Nat) : Int)) rfl (⟨(Keep.refl _ _), rfl⟩)))
    ·intro F1 w1 k1 hf hd
     obtain ⟨v2118, e2120, hl2119⟩ : ∃ v, F1 11 = v ∧ RdL Enc.devop w1 (Bl0 ++ O) v (l) := ⟨_, rfl, hd 5 11 (by kernel_rfl)⟩
     have := hl2119.len_le
     obtain ⟨F2, rfl⟩ := lit_of (F := F1) [(10, Value.bool true), (11, v2118), (12, vI ((k : Nat) : Int))] ⟨hd 4 10 (by kernel_rfl), e2120, hd 6 12 (by kernel_rfl), trivial⟩
     exact sp_take rfl rfl ((o_idx Try.underlying26 s_40 .i64 ((k : Nat) : Int) k rfl rfl rfl hl2119 (by omega) fun a2121 hp2122 => (⟨(Keep.refl _ _), ⟨a2121, rfl, hp2122⟩⟩)))
    ·intro F1 w1 k1 hf hd
     obtain ⟨a2123, e2125, hp2124⟩ : ∃ aX_, F1 13 = .pointer (some aX_) ∧ PT Enc.devop w1 (Bl0 ++ O) (.pointer (some aX_)) (l[k]!) := hd 7 13 (by kernel_rfl)
     obtain ⟨F2, rfl⟩ := lit_of (F := F1) [(10, Value.bool true), (13, Value.pointer (some a2123))] ⟨hd 4 10 (by kernel_rfl), e2125, trivial⟩
     refine sp_take rfl rfl ((o_loadS Try.underlying40 rfl s_40 rfl hp2124 fun cs2126 hs2127 => (?_)))
     obtain rfl := hs2127
     exact ⟨(Keep.refl _ _), rfl⟩
    ·intro F1 w1 k1 hf hd
     have k0 := (Keep.drew [] wl0).trans k1
     have m1 : Mv Bl0 wl0 Bl0 w1 := Mv.of_keep k0
     have hp2099 := hp2099.mv m1
     obtain ⟨F2, rfl⟩ := lit_of (F := F1) [(3, Value.pointer (some a2094)), (10, Value.bool true)] ⟨hf 3 (by kernel_rfl), hd 4 10 (by kernel_rfl), trivial⟩
     refine sp_take rfl rfl ((o_loadS Try.underlying40 rfl s_40 rfl hp2099 fun cs2128 hs2129 => (?_)))
     obtain rfl := hs2129
     exact ⟨(Keep.refl _ _), rfl⟩
    intro F2131 w2132 k2130 hT2133 hF2134
    have s2135 := sl0.call k2130
    have m2136 : Mv Bl0 wl0 Bl0 w2132 := Mv.of_keep k2130
    have h_l := h_l.mv m2136
    have hp2099 := hp2099.mv m2136
    obtain ⟨F2, rfl⟩ := lit_of (F := F2131) [(0, l_v), (3, Value.pointer (some a2094)), (5, vI ((k : Nat) : Int)), (32, undef), (10, Value.bool true), (14, Value.agg #[vI ((l[k]!).device), vI ((l[k]!).no), vI ((l[k]!).kind), vI ((l[k]!).copy), vI ((l[k]!).to), vI ((l[k]!).token)]), (15, Value.agg #[vI o.device, vI o.no, vI o.kind, vI o.copy, vI o.to, vI o.token])] ⟨hF2134 0 (by kernel_rfl), hF2134 3 (by kernel_rfl), hF2134 5 (by kernel_rfl), hF2134 32 (by kernel_rfl), hT2133 4 10 (by kernel_rfl) (by decide), hT2133 8 14 (by kernel_rfl) (by decide), hT2133 9 15 (by kernel_rfl) (by decide), trivial⟩
    clear hT2133 hF2134
    refine wl_t rfl (o_callK (vs := [Value.agg #[vI ((l[k]!).device), vI ((l[k]!).no), vI ((l[k]!).kind), vI ((l[k]!).copy), vI ((l[k]!).to), vI ((l[k]!).token)], Value.agg #[vI o.device, vI o.no, vI o.kind, vI o.copy, vI o.to, vI o.token]]) enter_71 (c_before (O := Bl0 ++ O) [vI ((l[k]!).device), vI ((l[k]!).no), vI ((l[k]!).kind), vI ((l[k]!).copy), vI ((l[k]!).to), vI ((l[k]!).token)] (l[k]!) [vI o.device, vI o.no, vI o.kind, vI o.copy, vI o.to, vI o.token] o w2132 rfl rfl s2135.lt) rfl s2135 fun v2139 w2140 s2141 m2142 k2143 r2144 => (?_))
    obtain rfl := r2144
    have h_l := h_l.mv m2142
    have hp2099 := hp2099.mv m2142
    refine wl_s (o_pickT (Value.bool (beforeM (l[k]!) o)) rfl rfl (wl_nil (thenQ_n (?_))))
    refine cw_cond (beforeM (l[k]!) o) rfl rfl (fun hc2145 => ?_) (fun hc2145 => ?_)
    ·have hp2146 : (beforeM (l[k]!) o) = true := by first | simpa using hc2145 | (have e := hc2145; simp at e; omega)
     refine cw_skip (thenQ_n (?_))
     refine cw_block (?_)
     refine cw_region (by kernel_rfl) (wl_s (o_move (vI ((k : Nat) : Int)) rfl (wl_s (o_add .i64 ((k : Nat) : Int) (1 : Int) (((k + 1 : Nat) : Int)) rfl rfl (w64 (by omega) (by omega)) (wl_s (o_assign (vI ((k + 1 : Nat) : Int)) rfl (wl_nil (blockQ_n (thenQ_n (?_))))))))))
     exact ⟨_, (by omega), (k + 1), Bl0, (by omega), (lt_step hr0_1 (by assumption)), rfl, ⟨_, upds_self _ ⟨rfl, rfl, (by first | rfl | exact congrArg (Value.int _) (by first | omega | (simp))), rfl, trivial⟩⟩, s2141, h_l, hp2099⟩
    ·have hp2147 : (beforeM (l[k]!) o) = false := by first | simpa using hc2145 | (have e := hc2145; simp at e; omega)
     refine cw_exit (thenQ_x (thenQ_x (blockQ_x (thenQ_n (?_)))))
     exact ⟨(k), Bl0, (by omega), (tw_at (by omega) hr0_1 (fun h => by first | assumption | omega)), trivial, ⟨_, upds_self _ ⟨rfl, rfl, (by first | rfl | exact congrArg (Value.int _) (by first | omega | (simp))), rfl, trivial⟩⟩, s2141, h_l, hp2099⟩
 ·intro F wlc20 hI
  clear h_l hp2099
  obtain ⟨n, Blc20, hrc20_0, hrc20_1, hmc20, ⟨Flc20, rfl⟩, slc20, h_l, hp2099⟩ := hI
  refine cw_seq (?_)
  refine cw_drawU 11 _ _ [TOw wlc20 w.heap.size O Enc.devop 40 ([]), fun _ => fun (vT : Value) (_ : World) => RdL Enc.devop wlc20 (Blc20 ++ O) vT (l), fun _ => isV (vI ((n : Nat) : Int)), fun _ => fun (vT : Value) (_ : World) => RdL Enc.devop wlc20 (Blc20 ++ O) vT ((l.take n)), TOw wlc20 w.heap.size O Enc.devop 40 ((l.take n)), fun _ => isV (Value.agg #[vI o.device, vI o.no, vI o.kind, vI o.copy, vI o.to, vI o.token]), fun (BT : List Nat) (vT : Value) (wT : World) => RdL Enc.devop wT (BT ++ O) vT ([o]), TOw wlc20 w.heap.size O Enc.devop 40 ((l.take n) ++ ([o])), fun _ => fun (vT : Value) (_ : World) => RdL Enc.devop wlc20 (Blc20 ++ O) vT (l), fun _ => isV (vI ((n : Nat) : Int)), fun _ => fun (vT : Value) (_ : World) => RdL Enc.devop wlc20 (Blc20 ++ O) vT ((l.drop n))] [⟨1, [], [], [], false, []⟩, ⟨0, [], [], [], false, []⟩, ⟨0, [], [], [], false, []⟩, ⟨0, [], [], [], false, [1, 2]⟩, ⟨1, [1], [], [0], true, [0, 3]⟩, ⟨0, [], [], [], false, []⟩, ⟨2, [], [], [], false, [5]⟩, ⟨1, [1, 2], [2], [0, 4, 6], true, [4, 6]⟩, ⟨0, [], [], [], false, []⟩, ⟨0, [], [], [], false, []⟩, ⟨0, [], [], [], false, [8, 9]⟩] Blc20 (by kernel_rfl) (by kernel_rfl) (by kernel_rfl) (by kernel_rfl) (by kernel_rfl) rfl rfl ⟨TOw.st, fun _ _ _ _ _ h => h, fun _ _ _ _ _ h => h, fun _ _ _ _ _ h => h, TOw.st, fun _ _ _ _ _ h => h, (show ∀ B B2 v w w2, (fun (BT : List Nat) (vT : Value) (wT : World) => RdL Enc.devop wT (BT ++ O) vT ([o])) B v w → Mv B w B2 w2 → (fun (BT : List Nat) (vT : Value) (wT : World) => RdL Enc.devop wT (BT ++ O) vT ([o])) B2 v w2 from fun _ _ _ _ _ h m => h.mv m), TOw.st, fun _ _ _ _ _ h => h, fun _ _ _ _ _ h => h, fun _ _ _ _ _ h => h, trivial⟩ ⟨?_, ?_, ?_, ?_, ?_, ?_, ?_, ?_, ?_, ?_, ?_, trivial⟩ ?_
  ·intro F1 w1 B1_ Bs_ k1 hs_ hl_ hr_ hsep_ hf hd
   have k0 := (Keep.drew [] wlc20).trans k1
   have s1 := slc20.adoptL k0 hl_
   obtain ⟨F2, rfl⟩ := lit_of (F := F1) [] trivial
   refine sp_plain rfl ((o_litO (E := Enc.devop) (xs := []) Try.underlying26 s_40 z_40 (by decide) [] [] [] rfl rfl rfl (Parts.nil _ _ _) (of_decide_eq_true rfl) s1 fun v2152 b2154 w2148 e2155 hb2156 s2149 m2150 k2151 hl2153 => (?_)))
   have lo2157 : wlc20.heap.size ≤ b2154 := by have := k0.size; omega
   have hi2158 := (hl2153.lt b2154 hb2156).2
   exact ⟨[], k2151, noC, TOw.one hb2156 lo2157 (by intro h; have := lt_of s1 _ h; omega) hl2153⟩
  ·intro F1 w1 B1_ Bs_ k1 hs_ hl_ hr_ hsep_ hf hd
   obtain ⟨F2, rfl⟩ := lit_of (F := F1) [(0, l_v)] ⟨hf 0 (by kernel_rfl), trivial⟩
   exact sp_plain rfl ((o_move (l_v) rfl (⟨[], (Keep.refl _ _), noC, h_l⟩)))
  ·intro F1 w1 B1_ Bs_ k1 hs_ hl_ hr_ hsep_ hf hd
   obtain ⟨F2, rfl⟩ := lit_of (F := F1) [(5, vI ((n : Nat) : Int))] ⟨hf 5 (by kernel_rfl), trivial⟩
   exact sp_plain rfl ((o_move (vI ((n : Nat) : Int)) rfl (⟨[], (Keep.refl _ _), noC, rfl⟩)))
  ·intro F1 w1 B1_ Bs_ k1 hs_ hl_ hr_ hsep_ hf hd
   obtain ⟨v2159, e2161, hl2160⟩ : ∃ v, F1 21 = v ∧ RdL Enc.devop wlc20 (Blc20 ++ O) v (l) := ⟨_, rfl, hd 1 21 (by kernel_rfl) (by kernel_rfl)⟩
   have := hl2160.len_le
   obtain ⟨F2, rfl⟩ := lit_of (F := F1) [(21, v2159), (22, vI ((n : Nat) : Int))] ⟨e2161, hd 2 22 (by kernel_rfl) (by kernel_rfl), trivial⟩
   refine sp_plain rfl ((o_sliceRU Try.underlying26 s_40 0 n rfl (.inl ⟨rfl, rfl⟩) (.inr ⟨.tmp 22, .i64, ((n : Nat) : Int), rfl, rfl, rfl⟩) (by omega) (by omega) hl2160 fun v2162 hl2163 => (?_)))
   rw [List.drop_zero] at hl2163
   exact ⟨[], (Keep.refl _ _), noC, hl2163⟩
  ·intro F1 w1 B1_ Bs_ k1 hs_ hl_ hr_ hsep_ hf hd
   have k0 := (Keep.drew [] wlc20).trans k1
   obtain ⟨v2164, e2167, hv2165, ho2166⟩ : ∃ v, F1 20 = v ∧ (TOw wlc20 w.heap.size O Enc.devop 40 ([])) (Bs_ 1) v w1 := ⟨_, rfl, hd 0 20 (by kernel_rfl) (by kernel_rfl)⟩
   have hi2168 : ∀ b, v2164.ownBlock = some b → b < w1.heap.size := fun b hb => (ho2166.lt b hb).2
   have hn2169 : ∀ b, v2164.ownBlock = some b → wlc20.heap.size ≤ b ∧ b ∉ B1_ := fun b hb => ⟨(hv2165 b hb).1, fun h => (hv2165 b hb).2 (hr_ 1 (by kernel_rfl) b h)⟩
   have s0_ := slc20.adoptL k0 hl_
   have hl2_ := own_l hn2169 hi2168 hl_
   have ho2171 := ho2166.mv ((Mv.at_ (hr_ 1 (by kernel_rfl))).app v2164.ownBlock.toList) (Keep.refl [] _) (by simp)
   have hB2170 : ∀ b2, v2164.ownBlock = some b2 → b2 ∈ (v2164.ownBlock.toList ++ B1_) := fun _ h => List.mem_append_left _ (by simp [h])
   have s1 := slc20.adoptL k0 hl2_
   have m1 : Mv Blc20 wlc20 (v2164.ownBlock.toList ++ B1_) w1 := Mv.adoptL k0 hl2_
   obtain ⟨v2172, e2174, hl2173⟩ : ∃ v, F1 23 = v ∧ RdL Enc.devop wlc20 (Blc20 ++ O) v ((l.take n)) := ⟨_, rfl, hd 3 23 (by kernel_rfl) (by kernel_rfl)⟩
   have := hl2173.len_le
   have hl2173 := hl2173.mv m1
   obtain ⟨F2, rfl⟩ := lit_of (F := F1) [(20, v2164), (23, v2172)] ⟨e2167, e2174, trivial⟩
   refine sp_plain rfl ((o_append (E := Enc.devop) (l := []) (m := (l.take n)) Try.underlying26 i_40 rfl (by decide) rfl rfl ho2171 hl2173 (fun _ hb => .inl hb) hB2170 (by simp only [List.length_append, List.length_cons, List.length_nil, List.length_take, List.length_drop]; omega) (by simp only [List.length_append, List.length_cons, List.length_nil, List.length_take, List.length_drop, maxLen]; omega) s1 fun v2179 w2175 B2181 hB2182 at2183 sub2184 s2176 m2177 k2178 ho2180 => (?_)))
   rw [List.nil_append] at ho2180
   exact ⟨_, k2178, wrote hn2169 hi2168, TOw.grow hn2169 k0.size (lt_of s0_) (at_app at2183) ho2180 hB2182 sub2184⟩
  ·intro F1 w1 B1_ Bs_ k1 hs_ hl_ hr_ hsep_ hf hd
   have k0 := (Keep.drew [] wlc20).trans k1
   obtain ⟨F2, rfl⟩ := lit_of (F := F1) [(3, Value.pointer (some a2094))] ⟨hf 3 (by kernel_rfl), trivial⟩
   refine sp_plain rfl ((o_loadSU Try.underlying40 rfl s_40 rfl hp2099 k0 fun cs2185 hs2186 => (?_)))
   obtain rfl := hs2186
   exact ⟨[], (Keep.refl _ _), noC, rfl⟩
  ·intro F1 w1 B1_ Bs_ k1 hs_ hl_ hr_ hsep_ hf hd
   have k0 := (Keep.drew [] wlc20).trans k1
   have s1 := slc20.adoptL k0 hl_
   obtain ⟨F2, rfl⟩ := lit_of (F := F1) [(25, Value.agg #[vI o.device, vI o.no, vI o.kind, vI o.copy, vI o.to, vI o.token])] ⟨hd 5 25 (by kernel_rfl) (by kernel_rfl), trivial⟩
   refine sp_plain rfl ((o_lit (E := Enc.devop) (xs := [.tmp 25]) Try.underlying26 s_40 z_40 (by decide) [.agg #[vI o.device, vI o.no, vI o.kind, vI o.copy, vI o.to, vI o.token]] [[vI o.device, vI o.no, vI o.kind, vI o.copy, vI o.to, vI o.token]] [o] rfl rfl rfl (Parts.cons rfl rfl (Parts.nil _ _ _)) (of_decide_eq_true rfl) s1 fun v2191 w2187 s2188 m2189 k2190 hl2192 => (?_)))
   have := hl2192.len_le
   exact ⟨[], k2190, noC, hl2192⟩
  ·intro F1 w1 B1_ Bs_ k1 hs_ hl_ hr_ hsep_ hf hd
   have k0 := (Keep.drew [] wlc20).trans k1
   obtain ⟨v2193, e2196, hv2194, ho2195⟩ : ∃ v, F1 24 = v ∧ (TOw wlc20 w.heap.size O Enc.devop 40 ((l.take n))) (Bs_ 1) v w1 := ⟨_, rfl, hd 4 24 (by kernel_rfl) (by kernel_rfl)⟩
   have hi2197 : ∀ b, v2193.ownBlock = some b → b < w1.heap.size := fun b hb => (ho2195.lt b hb).2
   have hn2198 : ∀ b, v2193.ownBlock = some b → wlc20.heap.size ≤ b ∧ b ∉ B1_ := fun b hb => ⟨(hv2194 b hb).1, fun h => (hv2194 b hb).2 (hr_ 1 (by kernel_rfl) b h)⟩
   have s0_ := slc20.adoptL k0 hl_
   have hl2_ := own_l hn2198 hi2197 hl_
   have ho2200 := ho2195.mv ((Mv.at_ (hr_ 1 (by kernel_rfl))).app v2193.ownBlock.toList) (Keep.refl [] _) (by simp)
   have hB2199 : ∀ b2, v2193.ownBlock = some b2 → b2 ∈ (v2193.ownBlock.toList ++ B1_) := fun _ h => List.mem_append_left _ (by simp [h])
   have s1 := slc20.adoptL k0 hl2_
   have hq2201 := own_q (B1 := B1_) hv2194 hi2197 (fun b h1 h2 h3 => hsep_ 1 2 b (by decide) h1 h2 h3) (hr_ 2 (by kernel_rfl))
   obtain ⟨v2202, e2204, hl2203⟩ : ∃ v, F1 26 = v ∧ RdL Enc.devop w1 ((Bs_ 2) ++ O) v ([o]) := ⟨_, rfl, hd 6 26 (by kernel_rfl) (by kernel_rfl)⟩
   have := hl2203.len_le
   have hl2203 := hl2203.mv (Mv.at_ hq2201)
   obtain ⟨F2, rfl⟩ := lit_of (F := F1) [(24, v2193), (26, v2202)] ⟨e2196, e2204, trivial⟩
   refine sp_plain rfl ((o_append (E := Enc.devop) (l := (l.take n)) (m := [o]) Try.underlying26 i_40 rfl (by decide) rfl rfl ho2200 hl2203 (fun _ hb => .inl hb) hB2199 (by simp only [List.length_append, List.length_cons, List.length_nil, List.length_take, List.length_drop]; omega) (by simp only [List.length_append, List.length_cons, List.length_nil, List.length_take, List.length_drop, maxLen]; omega) s1 fun v2209 w2205 B2211 hB2212 at2213 sub2214 s2206 m2207 k2208 ho2210 => (?_)))
   exact ⟨_, k2208, wrote hn2198 hi2197, TOw.grow hn2198 k0.size (lt_of s0_) (at_app at2213) ho2210 hB2212 sub2214⟩
  ·intro F1 w1 B1_ Bs_ k1 hs_ hl_ hr_ hsep_ hf hd
   obtain ⟨F2, rfl⟩ := lit_of (F := F1) [(0, l_v)] ⟨hf 0 (by kernel_rfl), trivial⟩
   exact sp_plain rfl ((o_move (l_v) rfl (⟨[], (Keep.refl _ _), noC, h_l⟩)))
  ·intro F1 w1 B1_ Bs_ k1 hs_ hl_ hr_ hsep_ hf hd
   obtain ⟨F2, rfl⟩ := lit_of (F := F1) [(5, vI ((n : Nat) : Int))] ⟨hf 5 (by kernel_rfl), trivial⟩
   exact sp_plain rfl ((o_move (vI ((n : Nat) : Int)) rfl (⟨[], (Keep.refl _ _), noC, rfl⟩)))
  ·intro F1 w1 B1_ Bs_ k1 hs_ hl_ hr_ hsep_ hf hd
   obtain ⟨v2215, e2217, hl2216⟩ : ∃ v, F1 28 = v ∧ RdL Enc.devop wlc20 (Blc20 ++ O) v (l) := ⟨_, rfl, hd 8 28 (by kernel_rfl) (by kernel_rfl)⟩
   have := hl2216.len_le
   obtain ⟨F2, rfl⟩ := lit_of (F := F1) [(28, v2215), (29, vI ((n : Nat) : Int))] ⟨e2217, hd 9 29 (by kernel_rfl) (by kernel_rfl), trivial⟩
   refine sp_plain rfl ((o_sliceRU Try.underlying26 s_40 n l.length rfl (.inr ⟨.tmp 29, .i64, ((n : Nat) : Int), rfl, rfl, rfl⟩) (.inl ⟨rfl, rfl⟩) (by omega) (by omega) hl2216 fun v2218 hl2219 => (?_)))
   rw [List.take_length] at hl2219
   exact ⟨[], (Keep.refl _ _), noC, hl2219⟩
  intro F2221 w2222 Bs2227 k2220 hB2228 hl2229 sep2230 hT2223 hF2224
  obtain ⟨v2231, e2232, hv2233, ho2234⟩ : ∃ v, F2221 27 = v ∧ (TOw wlc20 w.heap.size O Enc.devop 40 ((l.take n) ++ ([o]))) (Bs2227 1) v w2222 := ⟨_, rfl, hT2223 7 27 (by kernel_rfl) (by decide) (by kernel_rfl) (by kernel_rfl)⟩
  have hi2235 : ∀ b, v2231.ownBlock = some b → b < w2222.heap.size := fun b hb => (ho2234.lt b hb).2
  have hl2236 : ∀ x ∈ Blc20, x ∈ Blc20 ∨ (wlc20.heap.size ≤ x ∧ x < w2222.heap.size) := fun x hx => .inl hx
  have hsu2237 : ∀ x ∈ Blc20, x ∈ Blc20 := fun x hx => hx
  have hq2238 : ∀ x ∈ Blc20, x ∈ Bs2227 1 := fun x hx => hB2228 1 x hx
  obtain ⟨B2239, hBq2240⟩ : ∃ B_, B_ = v2231.ownBlock.toList ++ Blc20 := ⟨_, rfl⟩
  have hl2241 : ∀ x ∈ B2239, x ∈ Blc20 ∨ (wlc20.heap.size ≤ x ∧ x < w2222.heap.size) := by rw [hBq2240]; exact own_l hv2233 hi2235 hl2236
  have hsu2242 : ∀ x ∈ Blc20, x ∈ B2239 := fun x hx => by rw [hBq2240]; exact List.mem_append_right _ (hsu2237 x hx)
  have hB2243 : ∀ b, v2231.ownBlock = some b → b ∈ B2239 := fun b hb => by rw [hBq2240]; exact List.mem_append_left _ (by simp [hb])
  have hq2244 : ∀ x ∈ B2239, x ∈ v2231.ownBlock.toList ++ Bs2227 1 := by rw [hBq2240]; exact fun x hx => (List.mem_append.1 hx).elim (List.mem_append_left _) (fun h => List.mem_append_right _ (hq2238 x h))
  have s2225 := slc20.adoptL k2220 hl2241
  have m2226 : Mv Blc20 wlc20 B2239 w2222 := Mv.adoptL k2220 hl2241
  have ho2234 : Own Enc.devop 40 w.heap.size (B2239 ++ O) w2222 v2231 ((l.take n) ++ ([o])) := ho2234.sub (fun x hx => .inl ((List.mem_append.1 hx).elim (fun hx => List.mem_append_left _ (hq2244 x hx)) (fun h => List.mem_append_right _ h)))
  obtain ⟨v2245, e2247, hl2246⟩ : ∃ v, F2221 30 = v ∧ RdL Enc.devop wlc20 (Blc20 ++ O) v ((l.drop n)) := ⟨_, rfl, hT2223 10 30 (by kernel_rfl) (by decide) (by kernel_rfl) (by kernel_rfl)⟩
  have := hl2246.len_le
  have hl2246 := hl2246.mv m2226
  obtain ⟨F2, rfl⟩ := lit_of (F := F2221) [(32, undef), (27, v2231), (30, v2245)] ⟨hF2224 32 (by kernel_rfl), e2232, e2247, trivial⟩
  clear hT2223 hF2224 hB2228 hl2229 sep2230
  refine wl_s (o_append (E := Enc.devop) (l := (l.take n) ++ ([o])) (m := (l.drop n)) Try.underlying26 i_40 rfl (by decide) rfl rfl ho2234 hl2246 (fun _ hb => .inl hb) hB2243 (by simp only [List.length_append, List.length_cons, List.length_nil, List.length_take, List.length_drop]; omega) (by simp only [List.length_append, List.length_cons, List.length_nil, List.length_take, List.length_drop, maxLen]; omega) s2225 fun v2252 w2248 B2254 hB2255 at2256 sub2257 s2249 m2250 k2251 ho2253 => (?_))
  refine wl_s (o_assign (v2252) rfl (wl_nil (thenQ_n (?_))))
  refine cw_ret (end_r rfl (res1 rfl rfl rfl) (?_))
  have e : (insM l o) = (((l.take n) ++ ([o])) ++ (l.drop n)) := by unfold insM; rw [hrc20_1]
  exact ⟨_, rfl, s2249.keep, by rw [e]; first | done | exact ⟨v2252, rfl, ho2253.pub s2249⟩⟩

end Go.Proofs.Ytjpniibleelgiaa
