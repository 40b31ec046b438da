/- Walks, printed by gen.py. -/
import Derived.Test.YtpdekmknnpkmgaaWi
import Derived.Test.YtpdekmknnpkmgaaMgA
set_option linter.unusedSimpArgs false
set_option linter.unusedVariables false
namespace Go.Proofs.Ytpdekmknnpkmgaa
open Go.Fw Go.RowKit

set_option maxHeartbeats 4000000 in
set_option maxRecDepth 100000 in
theorem c_isNaN {O : List Nat} (x : Int) (w : World) (hO : ∀ b ∈ O, b < w.heap.size) : CallsK Try.prog 67 [vI x] w (fun v _ => v = .bool (false)) :=  by
 have s0 : St w O w [] := St.start hO
 refine callsK_of 6 Try.func67 rfl rfl (of_decide_eq_true rfl) (fun F0 => ?_)
 refine cw_seq (?_)
 refine cw_region (by kernel_rfl) (wl_s (o_assign (Value.bool false) rfl (wl_nil (thenQ_n (?_)))))
 refine cw_seq (?_)
 refine cw_region (by kernel_rfl) (wl_s (o_move (vI x) rfl (wl_s (o_move (vI x) rfl (wl_s (o_neq .i64 x x rfl rfl (wl_s (o_assign (Value.bool (x != x)) rfl (wl_nil (thenQ_n (?_)))))))))))
 refine cw_ret (end_r rfl (res1 rfl rfl rfl) (?_))
 have e : false = (x != x) := by simp
 exact ⟨_, rfl, s0.keep, by rw [e]; exact rfl⟩
set_option maxHeartbeats 4000000 in
set_option maxRecDepth 100000 in
theorem c_isNaN2 {O : List Nat} (x : Int) (w : World) (hO : ∀ b ∈ O, b < w.heap.size) : CallsK Try.prog 64 [vI x] w (fun v _ => v = .bool (false)) :=  by
 have s0 : St w O w [] := St.start hO
 refine callsK_of 6 Try.func64 rfl rfl (of_decide_eq_true rfl) (fun F0 => ?_)
 refine cw_seq (?_)
 refine cw_region (by kernel_rfl) (wl_s (o_assign (Value.bool false) rfl (wl_nil (thenQ_n (?_)))))
 refine cw_seq (?_)
 refine cw_region (by kernel_rfl) (wl_s (o_move (vI x) rfl (wl_s (o_move (vI x) rfl (wl_s (o_neq .i64 x x rfl rfl (wl_s (o_assign (Value.bool (x != x)) rfl (wl_nil (thenQ_n (?_)))))))))))
 refine cw_ret (end_r rfl (res1 rfl rfl rfl) (?_))
 have e : false = (x != x) := by simp
 exact ⟨_, rfl, s0.keep, by rw [e]; exact rfl⟩
set_option maxHeartbeats 4000000 in
set_option maxRecDepth 100000 in
theorem c_less {O : List Nat} (x : Int) (y : Int) (w : World) (hO : ∀ b ∈ O, b < w.heap.size) : CallsK Try.prog 63 [vI x, vI y] w (fun v _ => v = .bool (decide (x < y))) :=  by
 have s0 : St w O w [] := St.start hO
 refine callsK_of 17 Try.func63 rfl rfl (of_decide_eq_true rfl) (fun F0 => ?_)
 refine cw_seq (?_)
 refine cw_region (by kernel_rfl) (wl_s (o_assign (Value.bool false) rfl (wl_nil (thenQ_n (?_)))))
 refine cw_seq (?_)
 refine cw_region (by kernel_rfl) (wl_s (o_move (vI x) rfl (wl_s (o_callK (vs := [vI x]) enter_67 (c_isNaN (O := [] ++ O) x w s0.lt) rfl s0 fun v77 w78 s79 m80 k81 r82 => (?_)))))
 obtain rfl := r82
 refine wl_s (o_move (Value.bool false) rfl (wl_k rfl (wl_k rfl (wl_k rfl (wl_s (o_pickF (Value.bool false) rfl rfl (wl_s (o_move (Value.bool false) rfl (wl_t rfl (o_move (vI x) rfl (wl_t rfl (o_move (vI y) rfl (wl_t rfl (o_lss .i64 x y rfl rfl (wl_s (o_pickF (Value.bool (decide (x < y))) rfl rfl (wl_s (o_assign (Value.bool (decide (x < y))) rfl (wl_nil (thenQ_n (?_)))))))))))))))))))))
 refine cw_ret (end_r rfl (res1 rfl rfl rfl) (?_))
 exact ⟨_, rfl, s79.keep, rfl⟩
set_option maxHeartbeats 4000000 in
set_option maxRecDepth 100000 in
theorem c_bs {O : List Nat} (l_v : Value) (l : List Int) (x : Int) (w : World) (h_l : RdL Enc.int w O l_v l) (hpre0 : ∀ p q, p < q → q < l.length → l[p]! < l[q]!) (hpre1 : l.length ≤ 4611686018427387903) (hO : ∀ b ∈ O, b < w.heap.size) : CallsK Try.prog 61 [l_v, vI x] w (fun v _ => v = .tuple #[vI ((tw l x : Nat) : Int), .bool (bsF l x)]) :=  by
 have lim_l := h_l.len_le
 have h_l : RdL Enc.int w ([] ++ O) l_v l := h_l
 have s0 : St w O w [] := St.start hO
 refine callsK_of 54 Try.func61 rfl rfl (of_decide_eq_true rfl) (fun F0 => ?_)
 refine cw_seq (?_)
 refine cw_region (by kernel_rfl) (wl_s (o_assign (vI (0 : Int)) rfl (wl_s (o_assign (Value.bool false) rfl (wl_nil (thenQ_n (?_)))))))
 refine cw_seq (?_)
 refine cw_region (by kernel_rfl) (wl_s (o_move (l_v) rfl (wl_s (o_lenR Try.underlying22 rfl h_l (wl_s (o_assign (vI (l.length : Int)) rfl (wl_nil (thenQ_n (?_)))))))))
 refine cw_seq (?_)
 refine cw_region (by kernel_rfl) (wl_s (o_move (vI (l.length : Int)) rfl (wl_s (o_assign (vI (0 : Int)) rfl (wl_s (o_assign (vI (l.length : Int)) rfl (wl_nil (thenQ_n (?_)))))))))
 refine cw_seq (?_)
 refine cw_block (?_)
 refine cw_loop (fun mI FI wI => ∃ (lo : Nat) (hi : Nat) (B : List Nat), lo ≤ hi ∧ hi ≤ l.length ∧ (∀ q, q < lo → l[q]! < x) ∧ (∀ q, hi ≤ q → q < l.length → x ≤ l[q]!) ∧ mI = hi - lo ∧ (∃ F1, FI = upds F1 [(0, l_v), (1, vI x), (6, vI (l.length : Int)), (7, vI ((lo : Nat) : Int)), (8, vI ((hi : Nat) : Int)), (54, undef)]) ∧ St w O wI B ∧ RdL Enc.int wI (B ++ O) (l_v) (l)) ((l.length) - (0)) ?_ ?_
 ·exact ⟨(0), (l.length), [], (by first | omega | (simp; done) | (simp; omega) | simp_all), (by first | omega | (simp; done) | (simp; omega) | simp_all), (fun q hq => by omega), (fun q h1 h2 => by omega), rfl, ⟨_, upds_self _ ⟨rfl, rfl, rfl, (by first | rfl | exact congrArg (Value.int _) (by first | omega | (simp))), (by first | rfl | exact congrArg (Value.int _) (by first | omega | (simp))), rfl, trivial⟩⟩, s0, h_l⟩
 ·intro ml0 F wl0 hI
  clear h_l
  obtain ⟨lo, hi, Bl0, hr0_0, hr0_1, hr0_2, hr0_3, hm0, ⟨Fl0, rfl⟩, sl0, h_l⟩ := hI
  refine cw_seq (?_)
  refine cw_seq (?_)
  refine cw_region (by kernel_rfl) (wl_s (o_move (vI ((lo : Nat) : Int)) rfl (wl_s (o_move (vI ((hi : Nat) : Int)) rfl (wl_s (o_lss .i64 ((lo : Nat) : Int) ((hi : Nat) : Int) rfl rfl (wl_nil (thenQ_n (?_)))))))))
  refine cw_cond (decide (((lo : Nat) : Int) < ((hi : Nat) : Int))) rfl rfl (fun hc83 => ?_) (fun hc83 => ?_)
  ·have hp84 : ((lo : Nat) : Int) < ((hi : Nat) : Int) := by first | simpa using hc83 | (have e := hc83; simp at e; omega)
   refine cw_skip (thenQ_n (?_))
   refine cw_block (?_)
   refine cw_seq (?_)
   refine cw_region (by kernel_rfl) (wl_s (o_move (vI ((lo : Nat) : Int)) rfl (wl_s (o_move (vI ((hi : Nat) : Int)) rfl (wl_s (o_add .i64 ((lo : Nat) : Int) ((hi : Nat) : Int) (((lo + hi : Nat) : Int)) rfl rfl (w64 (by omega) (by omega)) (wl_s (o_conv .i64 .u64 Try.underlying3 Try.underlying85 ((lo + hi : Nat) : Int) (((lo + hi) : Nat) : Int) rfl (wrap_u64 (by omega)) (wl_s (o_shrU .u64 (lo + hi) 1 (by omega) rfl rfl (wl_s (o_conv .u64 .i64 Try.underlying85 Try.underlying3 (((lo + hi) / 2 ^ 1 : Nat) : Int) ((((lo + hi) / 2 ^ 1) : Nat) : Int) rfl (w64 (by omega) rfl) (wl_s (o_assign (vI (((lo + hi) / 2 ^ 1 : Nat) : Int)) rfl (wl_nil (thenQ_n (?_)))))))))))))))))
   refine cw_seq (?_)
   refine cw_region (by kernel_rfl) (wl_s (o_move (l_v) rfl (wl_s (o_move (vI (((lo + hi) / 2 ^ 1 : Nat) : Int)) rfl (wl_s (o_idx Try.underlying22 s_3 .i64 (((lo + hi) / 2 ^ 1 : Nat) : Int) ((lo + hi) / 2 ^ 1) rfl rfl rfl h_l (by omega) fun a85 hp86 => (wl_s (o_loadI Try.underlying3 rfl rfl hp86 (wl_s (o_move (vI x) rfl (wl_s (o_callK (vs := [vI (l[(lo + hi) / 2 ^ 1]!), vI x]) enter_63 (c_less (O := Bl0 ++ O) (l[(lo + hi) / 2 ^ 1]!) x wl0 sl0.lt) rfl sl0 fun v87 w88 s89 m90 k91 r92 => (?_)))))))))))))
   obtain rfl := r92
   have h_l := h_l.mv m90
   refine wl_nil (thenQ_n (?_))
   refine cw_cond (decide (l[(lo + hi) / 2 ^ 1]! < x)) rfl rfl (fun hc93 => ?_) (fun hc93 => ?_)
   ·have hp94 : l[(lo + hi) / 2 ^ 1]! < x := by first | simpa using hc93 | (have e := hc93; simp at e; omega)
    refine cw_region (by kernel_rfl) (wl_s (o_move (vI (((lo + hi) / 2 ^ 1 : Nat) : Int)) rfl (wl_s (o_add .i64 (((lo + hi) / 2 ^ 1 : Nat) : Int) (1 : Int) ((((lo + hi) / 2 ^ 1 + 1 : Nat) : Int)) rfl rfl (w64 (by omega) (by omega)) (wl_s (o_assign (vI (((lo + hi) / 2 ^ 1 + 1 : Nat) : Int)) rfl (wl_nil (blockQ_n (thenQ_n (?_))))))))))
    exact ⟨_, (by omega), ((lo + hi) / 2 ^ 1 + 1), (hi), Bl0, (by omega), (by omega), (by first | exact hr0_2 | exact bs_lo hpre0 (by assumption) (by omega)), (by first | exact hr0_3 | exact bs_hi hpre0 (by assumption)), rfl, ⟨_, upds_self _ ⟨rfl, rfl, rfl, (by first | rfl | exact congrArg (Value.int _) (by first | omega | (simp))), (by first | rfl | exact congrArg (Value.int _) (by first | omega | (simp))), rfl, trivial⟩⟩, s89, h_l⟩
   ·have hp95 : x ≤ l[(lo + hi) / 2 ^ 1]! := by first | simpa using hc93 | (have e := hc93; simp at e; omega)
    refine cw_region (by kernel_rfl) (wl_s (o_move (vI (((lo + hi) / 2 ^ 1 : Nat) : Int)) rfl (wl_s (o_assign (vI (((lo + hi) / 2 ^ 1 : Nat) : Int)) rfl (wl_nil (blockQ_n (thenQ_n (?_))))))))
    exact ⟨_, (by omega), (lo), ((lo + hi) / 2 ^ 1), Bl0, (by omega), (by omega), (by first | exact hr0_2 | exact bs_lo hpre0 (by assumption) (by omega)), (by first | exact hr0_3 | exact bs_hi hpre0 (by assumption)), rfl, ⟨_, upds_self _ ⟨rfl, rfl, rfl, (by first | rfl | exact congrArg (Value.int _) (by first | omega | (simp))), (by first | rfl | exact congrArg (Value.int _) (by first | omega | (simp))), rfl, trivial⟩⟩, s89, h_l⟩
  ·have hp96 : ((hi : Nat) : Int) ≤ ((lo : Nat) : Int) := by first | simpa using hc83 | (have e := hc83; simp at e; omega)
   obtain rfl : lo = hi := by omega
   have htw : tw l x = lo := tw_eq (by omega) hr0_2 (fun h => hr0_3 lo (by omega) h)
   refine cw_exit (thenQ_x (thenQ_x (blockQ_x (thenQ_n (?_)))))
   refine cw_seq (?_)
   refine cw_region (by kernel_rfl) (wl_s (o_move (vI ((lo : Nat) : Int)) rfl (wl_s (o_move (vI ((lo : Nat) : Int)) rfl (wl_s (o_move (vI (l.length : Int)) rfl (wl_s (o_lss .i64 ((lo : Nat) : Int) (l.length : Int) rfl rfl (wl_s (o_move (Value.bool (decide (((lo : Nat) : Int) < (l.length : Int)))) rfl (?_)))))))))))
   cases hb97 : (decide (((lo : Nat) : Int) < (l.length : Int)))
   ·have hp98 : (l.length : Int) ≤ ((lo : Nat) : Int) := by first | simpa using hb97 | (have e := hb97; simp at e; omega)
    refine wl_k rfl (wl_k rfl (wl_k rfl (wl_k rfl (wl_k rfl (wl_k rfl (wl_k rfl (wl_u rfl (wl_u rfl (wl_u rfl (wl_u rfl (wl_u rfl (wl_u rfl (wl_u rfl (wl_u rfl (wl_u rfl (wl_k rfl (wl_s (o_pickF (Value.bool false) rfl rfl (wl_s (o_assign (vI ((lo : Nat) : Int)) rfl (wl_s (o_assign (Value.bool false) rfl (wl_nil (thenQ_n (?_)))))))))))))))))))))))))
    refine cw_ret (end_r rfl (res2 rfl rfl rfl rfl) (?_))
    have e99 : (tw l x) = lo := by first | exact htw | exact bsF_1 htw (by omega) | exact bsF_2 htw (by assumption) | exact bsF_t htw (by omega) (by assumption)
    have e100 : (bsF l x) = false := by first | exact htw | exact bsF_1 htw (by omega) | exact bsF_2 htw (by assumption) | exact bsF_t htw (by omega) (by assumption)
    exact ⟨_, rfl, sl0.keep, by rw [e99, e100]; exact rfl⟩
   ·have hp101 : ((lo : Nat) : Int) < (l.length : Int) := by first | simpa using hb97 | (have e := hb97; simp at e; omega)
    refine wl_t rfl (o_move (l_v) rfl (wl_t rfl (o_move (vI ((lo : Nat) : Int)) rfl (wl_t rfl (o_idx Try.underlying22 s_3 .i64 ((lo : Nat) : Int) lo rfl rfl rfl h_l (by omega) fun a102 hp103 => (wl_t rfl (o_loadI Try.underlying3 rfl rfl hp103 (wl_t rfl (o_move (vI x) rfl (wl_t rfl (o_eql .i64 (l[lo]!) x rfl rfl (wl_t rfl (o_move (Value.bool ((l[lo]!) == x)) rfl (?_))))))))))))))
    cases hb104 : ((l[lo]!) == x)
    ·have hp105 : l[lo]! ≠ x := by first | simpa using hb104 | (have e := hb104; simp at e; omega)
     refine wl_t rfl (o_move (l_v) rfl (wl_t rfl (o_move (vI ((lo : Nat) : Int)) rfl (wl_t rfl (o_idx Try.underlying22 s_3 .i64 ((lo : Nat) : Int) lo rfl rfl rfl h_l (by omega) fun a106 hp107 => (wl_t rfl (o_loadI Try.underlying3 rfl rfl hp107 (wl_t rfl (o_callK (vs := [vI (l[lo]!)]) enter_64 (c_isNaN2 (O := Bl0 ++ O) (l[lo]!) wl0 sl0.lt) rfl sl0 fun v108 w109 s110 m111 k112 r113 => (?_))))))))))
     obtain rfl := r113
     refine wl_t rfl (o_move (Value.bool false) rfl (wl_k rfl (wl_k rfl (wl_t rfl (o_pickF (Value.bool false) rfl rfl (wl_t rfl (o_pickF (Value.bool false) rfl rfl (wl_s (o_pickT (Value.bool false) rfl rfl (wl_s (o_assign (vI ((lo : Nat) : Int)) rfl (wl_s (o_assign (Value.bool false) rfl (wl_nil (thenQ_n (?_))))))))))))))))
     refine cw_ret (end_r rfl (res2 rfl rfl rfl rfl) (?_))
     have e114 : (tw l x) = lo := by first | exact htw | exact bsF_1 htw (by omega) | exact bsF_2 htw (by assumption) | exact bsF_t htw (by omega) (by assumption)
     have e115 : (bsF l x) = false := by first | exact htw | exact bsF_1 htw (by omega) | exact bsF_2 htw (by assumption) | exact bsF_t htw (by omega) (by assumption)
     exact ⟨_, rfl, s110.keep, by rw [e114, e115]; exact rfl⟩
    ·have hp116 : l[lo]! = x := by first | simpa using hb104 | (have e := hb104; simp at e; omega)
     refine wl_k rfl (wl_k rfl (wl_k rfl (wl_k rfl (wl_k rfl (wl_k rfl (wl_u rfl (wl_u rfl (wl_k rfl (wl_t rfl (o_pickT (Value.bool true) rfl rfl (wl_s (o_pickT (Value.bool true) rfl rfl (wl_s (o_assign (vI ((lo : Nat) : Int)) rfl (wl_s (o_assign (Value.bool true) rfl (wl_nil (thenQ_n (?_)))))))))))))))))))
     refine cw_ret (end_r rfl (res2 rfl rfl rfl rfl) (?_))
     have e117 : (tw l x) = lo := by first | exact htw | exact bsF_1 htw (by omega) | exact bsF_2 htw (by assumption) | exact bsF_t htw (by omega) (by assumption)
     have e118 : (bsF l x) = true := by first | exact htw | exact bsF_1 htw (by omega) | exact bsF_2 htw (by assumption) | exact bsF_t htw (by omega) (by assumption)
     exact ⟨_, rfl, sl0.keep, by rw [e117, e118]; exact rfl⟩
set_option maxHeartbeats 4000000 in
set_option maxRecDepth 100000 in
theorem c_idx {O : List Nat} (l_v : Value) (l : List Int) (x : Int) (w : World) (h_l : RdL Enc.int w O l_v l) (hO : ∀ b ∈ O, b < w.heap.size) : CallsK Try.prog 60 [l_v, vI x] w (fun v _ => v = vI (idxI l x)) :=  by
 have lim_l := h_l.len_le
 have h_l : RdL Enc.int w ([] ++ O) l_v l := h_l
 have s0 : St w O w [] := St.start hO
 refine callsK_of 19 Try.func60 rfl rfl (of_decide_eq_true rfl) (fun F0 => ?_)
 refine cw_seq (?_)
 refine cw_region (by kernel_rfl) (wl_s (o_assign (vI (0 : Int)) rfl (wl_nil (thenQ_n (?_)))))
 refine cw_seq (?_)
 refine cw_seq (?_)
 refine cw_region (by kernel_rfl) (wl_s (o_move (l_v) rfl (wl_s (o_lenR Try.underlying22 rfl h_l (wl_s (o_move (vI (0 : Int)) rfl (wl_nil (thenQ_n (?_)))))))))
 refine cw_block (?_)
 refine cw_loop (fun mI FI wI => ∃ (k : Nat), k ≤ l.length ∧ idxI l x = scan (fun k => if x == l[k]! then some (k : Int) else none) (-1) k (l.length - k) ∧ mI = l.length - k ∧ (∃ F1, FI = upds F1 [(0, l_v), (1, vI x), (7, vI (l.length : Int)), (8, vI ((k : Nat) : Int)), (19, undef)]) ∧ w = wI) (l.length - (0)) ?_ ?_
 ·exact ⟨(0), (by first | omega | (simp; done) | (simp; omega) | simp_all), rfl, rfl, ⟨_, upds_self _ ⟨rfl, rfl, rfl, (by first | rfl | exact congrArg (Value.int _) (by first | omega | (simp))), rfl, trivial⟩⟩, rfl⟩
 ·rintro ml0 F wl0 ⟨k, hr0_0, hr0_1, hm0, ⟨Fl0, rfl⟩, rfl⟩
  refine cw_seq (?_)
  refine cw_region (by kernel_rfl) (wl_s (o_lss .i64 ((k : Nat) : Int) (l.length : Int) rfl rfl (wl_nil (thenQ_n (?_)))))
  refine cw_seq (?_)
  refine cw_cond (decide (((k : Nat) : Int) < (l.length : Int))) rfl rfl (fun hc119 => ?_) (fun hc119 => ?_)
  ·have hp120 : ((k : Nat) : Int) < (l.length : Int) := by first | simpa using hc119 | (have e := hc119; simp at e; omega)
   refine cw_skip (thenQ_n (?_))
   refine cw_seq (?_)
   refine cw_block (?_)
   refine cw_seq (?_)
   refine cw_region (by kernel_rfl) (wl_s (o_move (vI ((k : Nat) : Int)) rfl (wl_s (o_assign (vI ((k : Nat) : Int)) rfl (wl_nil (thenQ_n (?_)))))))
   refine cw_seq (?_)
   refine cw_region (by kernel_rfl) (wl_s (o_move (vI x) rfl (wl_s (o_move (l_v) rfl (wl_s (o_move (vI ((k : Nat) : Int)) rfl (wl_s (o_idx Try.underlying22 s_3 .i64 ((k : Nat) : Int) k rfl rfl rfl h_l (by omega) fun a121 hp122 => (wl_s (o_loadI Try.underlying3 rfl rfl hp122 (wl_s (o_eql .i64 x (l[k]!) rfl rfl (wl_nil (thenQ_n (?_)))))))))))))))
   refine cw_cond (x == (l[k]!)) rfl rfl (fun hc123 => ?_) (fun hc123 => ?_)
   ·have hp124 : x = l[k]! := by first | simpa using hc123 | (have e := hc123; simp at e; omega)
    refine cw_seq (?_)
    refine cw_region (by kernel_rfl) (wl_s (o_move (vI ((k : Nat) : Int)) rfl (wl_s (o_assign (vI ((k : Nat) : Int)) rfl (wl_nil (thenQ_n (?_)))))))
    refine cw_ret (blockQ_r (thenQ_r (thenQ_r (blockQ_r (thenQ_r (end_r rfl (res1 rfl rfl rfl) (?_)))))))
    have e : (idxI l x) = ((k : Nat) : Int) := by first | (rw [hr0_1]; exact scan_some (by omega) (by ((repeat (first | (refine (if_pos ?_).trans ?_; solve | omega | assumption | (simp only [dbs]; first | done | (repeat (first | omega | assumption | (right; first | omega | assumption | (constructor <;> first | omega | assumption)) | left))) | (rw [Bool.not_eq_true]; simp only [dbs]; first | done | omega | assumption | ((repeat' apply And.intro) <;> first | omega | assumption)) | (simp only [*, dbs]; done)) | (refine (if_neg ?_).trans ?_; solve | omega | assumption | (simp only [dbs]; first | done | (repeat (first | omega | assumption | (right; first | omega | assumption | (constructor <;> first | omega | assumption)) | left))) | (rw [Bool.not_eq_true]; simp only [dbs]; first | done | omega | assumption | ((repeat' apply And.intro) <;> first | omega | assumption)) | (simp only [*, dbs]; done)))); rfl))) | (rw [hr0_1]; exact scan_end (by omega)) | (unfold idxI; ((repeat (first | (refine (if_pos ?_).trans ?_; solve | omega | assumption | (simp only [dbs]; first | done | (repeat (first | omega | assumption | (right; first | omega | assumption | (constructor <;> first | omega | assumption)) | left))) | (rw [Bool.not_eq_true]; simp only [dbs]; first | done | omega | assumption | ((repeat' apply And.intro) <;> first | omega | assumption)) | (simp only [*, dbs]; done)) | (refine (if_neg ?_).trans ?_; solve | omega | assumption | (simp only [dbs]; first | done | (repeat (first | omega | assumption | (right; first | omega | assumption | (constructor <;> first | omega | assumption)) | left))) | (rw [Bool.not_eq_true]; simp only [dbs]; first | done | omega | assumption | ((repeat' apply And.intro) <;> first | omega | assumption)) | (simp only [*, dbs]; done)))); rfl))
    exact ⟨_, rfl, s0.keep, by rw [e]; exact rfl⟩
   ·have hp125 : x ≠ l[k]! := by first | simpa using hc123 | (have e := hc123; simp at e; omega)
    refine cw_skip (blockQ_n (thenQ_n (?_)))
    refine cw_region (by kernel_rfl) (wl_s (o_add .i64 ((k : Nat) : Int) (1 : Int) (((k + 1 : Nat) : Int)) rfl rfl (w64 (by omega) (by omega)) (wl_s (o_move (vI ((k + 1 : Nat) : Int)) rfl (wl_nil (thenQ_n (?_)))))))
    exact ⟨_, (by omega), (k + 1), (by first | omega | (simp; done) | (simp; omega) | simp_all), (hr0_1.trans (scan_none (by omega) (by ((repeat (first | (refine (if_pos ?_).trans ?_; solve | omega | assumption | (simp only [dbs]; first | done | (repeat (first | omega | assumption | (right; first | omega | assumption | (constructor <;> first | omega | assumption)) | left))) | (rw [Bool.not_eq_true]; simp only [dbs]; first | done | omega | assumption | ((repeat' apply And.intro) <;> first | omega | assumption)) | (simp only [*, dbs]; done)) | (refine (if_neg ?_).trans ?_; solve | omega | assumption | (simp only [dbs]; first | done | (repeat (first | omega | assumption | (right; first | omega | assumption | (constructor <;> first | omega | assumption)) | left))) | (rw [Bool.not_eq_true]; simp only [dbs]; first | done | omega | assumption | ((repeat' apply And.intro) <;> first | omega | assumption)) | (simp only [*, dbs]; done)))); rfl)))), rfl, ⟨_, upds_self _ ⟨rfl, rfl, rfl, (by first | rfl | exact congrArg (Value.int _) (by first | omega | (simp))), rfl, trivial⟩⟩, rfl⟩
  ·have hp126 : (l.length : Int) ≤ ((k : Nat) : Int) := by first | simpa using hc119 | (have e := hc119; simp at e; omega)
   refine cw_exit (thenQ_x (thenQ_x (blockQ_x (thenQ_n (?_)))))
   refine cw_seq (?_)
   refine cw_region (by kernel_rfl) (wl_s (o_assign (vI (-1 : Int)) rfl (wl_nil (thenQ_n (?_)))))
   refine cw_ret (end_r rfl (res1 rfl rfl rfl) (?_))
   have e : (idxI l x) = (-1 : Int) := by first | (rw [hr0_1]; exact scan_some (by omega) (by ((repeat (first | (refine (if_pos ?_).trans ?_; solve | omega | assumption | (simp only [dbs]; first | done | (repeat (first | omega | assumption | (right; first | omega | assumption | (constructor <;> first | omega | assumption)) | left))) | (rw [Bool.not_eq_true]; simp only [dbs]; first | done | omega | assumption | ((repeat' apply And.intro) <;> first | omega | assumption)) | (simp only [*, dbs]; done)) | (refine (if_neg ?_).trans ?_; solve | omega | assumption | (simp only [dbs]; first | done | (repeat (first | omega | assumption | (right; first | omega | assumption | (constructor <;> first | omega | assumption)) | left))) | (rw [Bool.not_eq_true]; simp only [dbs]; first | done | omega | assumption | ((repeat' apply And.intro) <;> first | omega | assumption)) | (simp only [*, dbs]; done)))); rfl))) | (rw [hr0_1]; exact scan_end (by omega)) | (unfold idxI; ((repeat (first | (refine (if_pos ?_).trans ?_; solve | omega | assumption | (simp only [dbs]; first | done | (repeat (first | omega | assumption | (right; first | omega | assumption | (constructor <;> first | omega | assumption)) | left))) | (rw [Bool.not_eq_true]; simp only [dbs]; first | done | omega | assumption | ((repeat' apply And.intro) <;> first | omega | assumption)) | (simp only [*, dbs]; done)) | (refine (if_neg ?_).trans ?_; solve | omega | assumption | (simp only [dbs]; first | done | (repeat (first | omega | assumption | (right; first | omega | assumption | (constructor <;> first | omega | assumption)) | left))) | (rw [Bool.not_eq_true]; simp only [dbs]; first | done | omega | assumption | ((repeat' apply And.intro) <;> first | omega | assumption)) | (simp only [*, dbs]; done)))); rfl))
   exact ⟨_, rfl, s0.keep, by rw [e]; exact rfl⟩
set_option maxHeartbeats 4000000 in
set_option maxRecDepth 100000 in
theorem c_contains {O : List Nat} (l_v : Value) (l : List Int) (x : Int) (w : World) (h_l : RdL Enc.int w O l_v l) (hO : ∀ b ∈ O, b < w.heap.size) : CallsK Try.prog 44 [l_v, vI x] w (fun v _ => v = .bool (l.contains x)) :=  by
 have lim_l := h_l.len_le
 have h_l : RdL Enc.int w ([] ++ O) l_v l := h_l
 have s0 : St w O w [] := St.start hO
 refine callsK_of 9 Try.func44 rfl rfl (of_decide_eq_true rfl) (fun F0 => ?_)
 refine cw_seq (?_)
 refine cw_region (by kernel_rfl) (wl_s (o_assign (Value.bool false) rfl (wl_nil (thenQ_n (?_)))))
 refine cw_seq (?_)
 refine cw_region (by kernel_rfl) (wl_s (o_move (l_v) rfl (wl_s (o_move (vI x) rfl (wl_s (o_callK (vs := [l_v, vI x]) enter_60 (c_idx (O := [] ++ O) l_v l x w h_l s0.lt) rfl s0 fun v127 w128 s129 m130 k131 r132 => (?_)))))))
 obtain rfl := r132
 refine wl_s (o_geq .i64 (idxI l x) (0 : Int) rfl rfl (wl_s (o_assign (Value.bool (decide ((0 : Int) ≤ idxI l x))) rfl (wl_nil (thenQ_n (?_))))))
 refine cw_ret (end_r rfl (res1 rfl rfl rfl) (?_))
 have e : (l.contains x) = (decide ((0 : Int) ≤ idxI l x)) := by exact (idxI_pos _ _).symm
 exact ⟨_, rfl, s129.keep, by rw [e]; exact rfl⟩
set_option maxHeartbeats 4000000 in
set_option maxRecDepth 100000 in
theorem c_isDay {O : List Nat} (day : Int) (frm : Int) (w : World) (hO : ∀ b ∈ O, b < w.heap.size) : CallsK Try.prog 30 [vI day, vI frm] w (fun v _ => v = .bool (isDayM day frm)) :=  by
 have s0 : St w O w [] := St.start hO
 refine callsK_of 12 Try.func30 rfl rfl (of_decide_eq_true rfl) (fun F0 => ?_)
 refine cw_seq (?_)
 refine cw_region (by kernel_rfl) (wl_s (o_assign (Value.bool false) rfl (wl_nil (thenQ_n (?_)))))
 refine cw_seq (?_)
 refine cw_region (by kernel_rfl) (wl_s (o_move (vI day) rfl (wl_s (o_move (vI frm) rfl (wl_s (o_geq .i64 day frm rfl rfl (wl_s (o_move (Value.bool (decide (frm ≤ day))) rfl (?_)))))))))
 cases hb133 : (decide (frm ≤ day))
 ·have hp134 : day < frm := by first | simpa using hb133 | (have e := hb133; simp at e; omega)
  refine wl_k rfl (wl_k rfl (wl_s (o_pickF (Value.bool false) rfl rfl (wl_s (o_assign (Value.bool false) rfl (wl_nil (thenQ_n (?_))))))))
  refine cw_ret (end_r rfl (res1 rfl rfl rfl) (?_))
  have e : (isDayM day frm) = false := by simp [isDayM, *]
  exact ⟨_, rfl, s0.keep, by rw [e]; exact rfl⟩
 ·have hp135 : frm ≤ day := by first | simpa using hb133 | (have e := hb133; simp at e; omega)
  refine wl_t rfl (o_move (vI day) rfl (wl_t rfl (o_lss .i64 day (1024 : Int) rfl rfl (wl_s (o_pickT (Value.bool (decide (day < (1024 : Int)))) rfl rfl (wl_s (o_assign (Value.bool (decide (day < (1024 : Int)))) rfl (wl_nil (thenQ_n (?_))))))))))
  refine cw_ret (end_r rfl (res1 rfl rfl rfl) (?_))
  have e : (isDayM day frm) = (decide (day < (1024 : Int))) := by simp [isDayM, *]
  exact ⟨_, rfl, s0.keep, by rw [e]; exact rfl⟩
set_option maxHeartbeats 4000000 in
set_option maxRecDepth 100000 in
theorem c_incr {O : List Nat} (l_v : Value) (l : List Int) (w : World) (h_l : RdL Enc.int w O l_v l) (hO : ∀ b ∈ O, b < w.heap.size) : CallsK Try.prog 33 [l_v] w (fun v _ => v = .bool (incM l)) :=  by
 have lim_l := h_l.len_le
 have h_l : RdL Enc.int w ([] ++ O) l_v l := h_l
 have s0 : St w O w [] := St.start hO
 refine callsK_of 21 Try.func33 rfl rfl (of_decide_eq_true rfl) (fun F0 => ?_)
 refine cw_seq (?_)
 refine cw_region (by kernel_rfl) (wl_s (o_assign (Value.bool false) rfl (wl_nil (thenQ_n (?_)))))
 refine cw_seq (?_)
 refine cw_region (by kernel_rfl) (wl_s (o_assign (vI (-1 : Int)) rfl (wl_nil (thenQ_n (?_)))))
 refine cw_seq (?_)
 refine cw_seq (?_)
 refine cw_region (by kernel_rfl) (wl_s (o_move (l_v) rfl (wl_s (o_lenR Try.underlying22 rfl h_l (wl_s (o_move (vI (0 : Int)) rfl (wl_nil (thenQ_n (?_)))))))))
 refine cw_block (?_)
 refine cw_loop (fun mI FI wI => ∃ (k : Nat), k ≤ l.length ∧ incM l = scan (fun k => if incBad l k then some false else none) true k (l.length - k) ∧ mI = l.length - k ∧ (∃ F1, FI = upds F1 [(3, vI (lastOf l k)), (6, l_v), (7, vI (l.length : Int)), (8, vI ((k : Nat) : Int)), (21, undef)]) ∧ w = wI) (l.length - (0)) ?_ ?_
 ·exact ⟨(0), (by first | omega | (simp; done) | (simp; omega) | simp_all), (by unfold incM; ((repeat (first | (refine (if_pos ?_).trans ?_; solve | omega | assumption | (simp only [incBad, dbs]; first | done | (repeat (first | omega | assumption | (right; first | omega | assumption | (constructor <;> first | omega | assumption)) | left))) | (rw [Bool.not_eq_true]; simp only [incBad, dbs]; first | done | omega | assumption | ((repeat' apply And.intro) <;> first | omega | assumption)) | (simp only [*, dbs]; done)) | (refine (if_neg ?_).trans ?_; solve | omega | assumption | (simp only [incBad, dbs]; first | done | (repeat (first | omega | assumption | (right; first | omega | assumption | (constructor <;> first | omega | assumption)) | left))) | (rw [Bool.not_eq_true]; simp only [incBad, dbs]; first | done | omega | assumption | ((repeat' apply And.intro) <;> first | omega | assumption)) | (simp only [*, dbs]; done)))); rfl)), rfl, ⟨_, upds_self _ ⟨(by first | rfl | exact congrArg (Value.int _) (by first | omega | (rfl))), rfl, rfl, (by first | rfl | exact congrArg (Value.int _) (by first | omega | (simp))), rfl, trivial⟩⟩, rfl⟩
 ·rintro ml0 F wl0 ⟨k, hr0_0, hr0_1, hm0, ⟨Fl0, rfl⟩, rfl⟩
  refine cw_seq (?_)
  refine cw_region (by kernel_rfl) (wl_s (o_lss .i64 ((k : Nat) : Int) (l.length : Int) rfl rfl (wl_nil (thenQ_n (?_)))))
  refine cw_seq (?_)
  refine cw_cond (decide (((k : Nat) : Int) < (l.length : Int))) rfl rfl (fun hc136 => ?_) (fun hc136 => ?_)
  ·have hp137 : ((k : Nat) : Int) < (l.length : Int) := by first | simpa using hc136 | (have e := hc136; simp at e; omega)
   refine cw_skip (thenQ_n (?_))
   refine cw_seq (?_)
   refine cw_block (?_)
   refine cw_seq (?_)
   refine cw_region (by kernel_rfl) (wl_s (o_idx Try.underlying22 s_3 .i64 ((k : Nat) : Int) k rfl rfl rfl h_l (by omega) fun a138 hp139 => (wl_s (o_loadI Try.underlying3 rfl rfl hp139 (wl_s (o_assign (vI (l[k]!)) rfl (wl_nil (thenQ_n (?_)))))))))
   refine cw_seq (?_)
   refine cw_seq (?_)
   refine cw_region (by kernel_rfl) (wl_s (o_move (vI (l[k]!)) rfl (wl_s (o_move (vI (lastOf l k)) rfl (wl_s (o_leq .i64 (l[k]!) (lastOf l k) rfl rfl (wl_s (o_move (Value.bool (decide (l[k]! ≤ lastOf l k))) rfl (?_)))))))))
   cases hb140 : (decide (l[k]! ≤ lastOf l k))
   ·have hp141 : lastOf l k < l[k]! := by first | simpa using hb140 | (have e := hb140; simp at e; omega)
    refine wl_t rfl (o_move (vI (l[k]!)) rfl (wl_t rfl (o_geq .i64 (l[k]!) (4096 : Int) rfl rfl (wl_s (o_pickF (Value.bool (decide ((4096 : Int) ≤ l[k]!))) rfl rfl (wl_nil (thenQ_n (?_))))))))
    refine cw_cond (decide ((4096 : Int) ≤ l[k]!)) rfl rfl (fun hc142 => ?_) (fun hc142 => ?_)
    ·have hp143 : (4096 : Int) ≤ l[k]! := by first | simpa using hc142 | (have e := hc142; simp at e; omega)
     refine cw_seq (?_)
     refine cw_region (by kernel_rfl) (wl_s (o_assign (Value.bool false) rfl (wl_nil (thenQ_n (?_)))))
     refine cw_ret (thenQ_r (blockQ_r (thenQ_r (thenQ_r (blockQ_r (thenQ_r (end_r rfl (res1 rfl rfl rfl) (?_))))))))
     have e : (incM l) = false := by first | (rw [hr0_1]; exact scan_some (by omega) (by ((repeat (first | (refine (if_pos ?_).trans ?_; solve | omega | assumption | (simp only [incBad, dbs]; first | done | (repeat (first | omega | assumption | (right; first | omega | assumption | (constructor <;> first | omega | assumption)) | left))) | (rw [Bool.not_eq_true]; simp only [incBad, dbs]; first | done | omega | assumption | ((repeat' apply And.intro) <;> first | omega | assumption)) | (simp only [*, dbs]; done)) | (refine (if_neg ?_).trans ?_; solve | omega | assumption | (simp only [incBad, dbs]; first | done | (repeat (first | omega | assumption | (right; first | omega | assumption | (constructor <;> first | omega | assumption)) | left))) | (rw [Bool.not_eq_true]; simp only [incBad, dbs]; first | done | omega | assumption | ((repeat' apply And.intro) <;> first | omega | assumption)) | (simp only [*, dbs]; done)))); rfl))) | (rw [hr0_1]; exact scan_end (by omega)) | (unfold incM; ((repeat (first | (refine (if_pos ?_).trans ?_; solve | omega | assumption | (simp only [incBad, dbs]; first | done | (repeat (first | omega | assumption | (right; first | omega | assumption | (constructor <;> first | omega | assumption)) | left))) | (rw [Bool.not_eq_true]; simp only [incBad, dbs]; first | done | omega | assumption | ((repeat' apply And.intro) <;> first | omega | assumption)) | (simp only [*, dbs]; done)) | (refine (if_neg ?_).trans ?_; solve | omega | assumption | (simp only [incBad, dbs]; first | done | (repeat (first | omega | assumption | (right; first | omega | assumption | (constructor <;> first | omega | assumption)) | left))) | (rw [Bool.not_eq_true]; simp only [incBad, dbs]; first | done | omega | assumption | ((repeat' apply And.intro) <;> first | omega | assumption)) | (simp only [*, dbs]; done)))); rfl))
     exact ⟨_, rfl, s0.keep, by rw [e]; exact rfl⟩
    ·have hp144 : l[k]! < (4096 : Int) := by first | simpa using hc142 | (have e := hc142; simp at e; omega)
     refine cw_skip (thenQ_n (?_))
     refine cw_region (by kernel_rfl) (wl_s (o_move (vI (l[k]!)) rfl (wl_s (o_assign (vI (l[k]!)) rfl (wl_nil (blockQ_n (thenQ_n (?_))))))))
     refine cw_region (by kernel_rfl) (wl_s (o_add .i64 ((k : Nat) : Int) (1 : Int) (((k + 1 : Nat) : Int)) rfl rfl (w64 (by omega) (by omega)) (wl_s (o_move (vI ((k + 1 : Nat) : Int)) rfl (wl_nil (thenQ_n (?_)))))))
     exact ⟨_, (by omega), (k + 1), (by first | omega | (simp; done) | (simp; omega) | simp_all), (hr0_1.trans (scan_none (by omega) (by ((repeat (first | (refine (if_pos ?_).trans ?_; solve | omega | assumption | (simp only [incBad, dbs]; first | done | (repeat (first | omega | assumption | (right; first | omega | assumption | (constructor <;> first | omega | assumption)) | left))) | (rw [Bool.not_eq_true]; simp only [incBad, dbs]; first | done | omega | assumption | ((repeat' apply And.intro) <;> first | omega | assumption)) | (simp only [*, dbs]; done)) | (refine (if_neg ?_).trans ?_; solve | omega | assumption | (simp only [incBad, dbs]; first | done | (repeat (first | omega | assumption | (right; first | omega | assumption | (constructor <;> first | omega | assumption)) | left))) | (rw [Bool.not_eq_true]; simp only [incBad, dbs]; first | done | omega | assumption | ((repeat' apply And.intro) <;> first | omega | assumption)) | (simp only [*, dbs]; done)))); rfl)))), rfl, ⟨_, upds_self _ ⟨(by first | rfl | exact congrArg (Value.int _) (by first | omega | (simp [lastOf]))), rfl, rfl, (by first | rfl | exact congrArg (Value.int _) (by first | omega | (simp))), rfl, trivial⟩⟩, rfl⟩
   ·have hp145 : l[k]! ≤ lastOf l k := by first | simpa using hb140 | (have e := hb140; simp at e; omega)
    refine wl_k rfl (wl_k rfl (wl_s (o_pickT (Value.bool true) rfl rfl (wl_nil (thenQ_n (?_))))))
    refine cw_cond true rfl rfl (fun _ => ?_) (fun h => by cases h)
    refine cw_seq (?_)
    refine cw_region (by kernel_rfl) (wl_s (o_assign (Value.bool false) rfl (wl_nil (thenQ_n (?_)))))
    refine cw_ret (thenQ_r (blockQ_r (thenQ_r (thenQ_r (blockQ_r (thenQ_r (end_r rfl (res1 rfl rfl rfl) (?_))))))))
    have e : (incM l) = false := by first | (rw [hr0_1]; exact scan_some (by omega) (by ((repeat (first | (refine (if_pos ?_).trans ?_; solve | omega | assumption | (simp only [incBad, dbs]; first | done | (repeat (first | omega | assumption | (right; first | omega | assumption | (constructor <;> first | omega | assumption)) | left))) | (rw [Bool.not_eq_true]; simp only [incBad, dbs]; first | done | omega | assumption | ((repeat' apply And.intro) <;> first | omega | assumption)) | (simp only [*, dbs]; done)) | (refine (if_neg ?_).trans ?_; solve | omega | assumption | (simp only [incBad, dbs]; first | done | (repeat (first | omega | assumption | (right; first | omega | assumption | (constructor <;> first | omega | assumption)) | left))) | (rw [Bool.not_eq_true]; simp only [incBad, dbs]; first | done | omega | assumption | ((repeat' apply And.intro) <;> first | omega | assumption)) | (simp only [*, dbs]; done)))); rfl))) | (rw [hr0_1]; exact scan_end (by omega)) | (unfold incM; ((repeat (first | (refine (if_pos ?_).trans ?_; solve | omega | assumption | (simp only [incBad, dbs]; first | done | (repeat (first | omega | assumption | (right; first | omega | assumption | (constructor <;> first | omega | assumption)) | left))) | (rw [Bool.not_eq_true]; simp only [incBad, dbs]; first | done | omega | assumption | ((repeat' apply And.intro) <;> first | omega | assumption)) | (simp only [*, dbs]; done)) | (refine (if_neg ?_).trans ?_; solve | omega | assumption | (simp only [incBad, dbs]; first | done | (repeat (first | omega | assumption | (right; first | omega | assumption | (constructor <;> first | omega | assumption)) | left))) | (rw [Bool.not_eq_true]; simp only [incBad, dbs]; first | done | omega | assumption | ((repeat' apply And.intro) <;> first | omega | assumption)) | (simp only [*, dbs]; done)))); rfl))
    exact ⟨_, rfl, s0.keep, by rw [e]; exact rfl⟩
  ·have hp146 : (l.length : Int) ≤ ((k : Nat) : Int) := by first | simpa using hc136 | (have e := hc136; simp at e; omega)
   refine cw_exit (thenQ_x (thenQ_x (blockQ_x (thenQ_n (?_)))))
   refine cw_seq (?_)
   refine cw_region (by kernel_rfl) (wl_s (o_assign (Value.bool true) rfl (wl_nil (thenQ_n (?_)))))
   refine cw_ret (end_r rfl (res1 rfl rfl rfl) (?_))
   have e : (incM l) = true := by first | (rw [hr0_1]; exact scan_some (by omega) (by ((repeat (first | (refine (if_pos ?_).trans ?_; solve | omega | assumption | (simp only [incBad, dbs]; first | done | (repeat (first | omega | assumption | (right; first | omega | assumption | (constructor <;> first | omega | assumption)) | left))) | (rw [Bool.not_eq_true]; simp only [incBad, dbs]; first | done | omega | assumption | ((repeat' apply And.intro) <;> first | omega | assumption)) | (simp only [*, dbs]; done)) | (refine (if_neg ?_).trans ?_; solve | omega | assumption | (simp only [incBad, dbs]; first | done | (repeat (first | omega | assumption | (right; first | omega | assumption | (constructor <;> first | omega | assumption)) | left))) | (rw [Bool.not_eq_true]; simp only [incBad, dbs]; first | done | omega | assumption | ((repeat' apply And.intro) <;> first | omega | assumption)) | (simp only [*, dbs]; done)))); rfl))) | (rw [hr0_1]; exact scan_end (by omega)) | (unfold incM; ((repeat (first | (refine (if_pos ?_).trans ?_; solve | omega | assumption | (simp only [incBad, dbs]; first | done | (repeat (first | omega | assumption | (right; first | omega | assumption | (constructor <;> first | omega | assumption)) | left))) | (rw [Bool.not_eq_true]; simp only [incBad, dbs]; first | done | omega | assumption | ((repeat' apply And.intro) <;> first | omega | assumption)) | (simp only [*, dbs]; done)) | (refine (if_neg ?_).trans ?_; solve | omega | assumption | (simp only [incBad, dbs]; first | done | (repeat (first | omega | assumption | (right; first | omega | assumption | (constructor <;> first | omega | assumption)) | left))) | (rw [Bool.not_eq_true]; simp only [incBad, dbs]; first | done | omega | assumption | ((repeat' apply And.intro) <;> first | omega | assumption)) | (simp only [*, dbs]; done)))); rfl))
   exact ⟨_, rfl, s0.keep, by rw [e]; exact rfl⟩
set_option maxHeartbeats 4000000 in
set_option maxRecDepth 100000 in
theorem c_recOK {O : List Nat} (r_cs : List Value) (r : Recovery) (w : World) (h_r : Enc.recovery.rd w O r_cs r) (hO : ∀ b ∈ O, b < w.heap.size) : CallsK Try.prog 34 [.agg r_cs.toArray] w (fun v _ => v = .bool (recOKM r)) :=  by
 have h_r : Enc.recovery.rd w ([] ++ O) r_cs r := h_r
 have s0 : St w O w [] := St.start hO
 refine callsK_of 37 Try.func34 rfl rfl (of_decide_eq_true rfl) (fun F0 => ?_)
 refine cw_seq (?_)
 refine cw_region (by kernel_rfl) (wl_s (o_boxR (E := Enc.recovery) (Value.agg r_cs.toArray) (r_cs) r rfl rfl h_r s0 fun a147 w148 s149 m150 k151 hp152 => (?_)))
 refine wl_s (o_assign (Value.bool false) rfl (wl_nil (thenQ_n (?_))))
 refine cw_seq (?_)
 refine cw_seq (?_)
 refine cw_region (by kernel_rfl) (wl_s (o_fieldR 2 f_47_2 (r.state) rfl hp152 (fun _ _ _ h => Enc_recovery_f2 h) fun a153 hp154 => (wl_s (o_loadI Try.underlying3 rfl rfl hp154 (wl_s (o_lss .i64 r.state (0 : Int) rfl rfl (wl_s (o_move (Value.bool (decide (r.state < (0 : Int)))) rfl (?_)))))))))
 cases hb155 : (decide (r.state < (0 : Int)))
 ·have hp156 : (0 : Int) ≤ r.state := by first | simpa using hb155 | (have e := hb155; simp at e; omega)
  refine wl_t rfl (o_fieldR 2 f_47_2 (r.state) rfl hp152 (fun _ _ _ h => Enc_recovery_f2 h) fun a157 hp158 => (wl_t rfl (o_loadI Try.underlying3 rfl rfl hp158 (wl_t rfl (o_gtr .i64 r.state (2 : Int) rfl rfl (wl_s (o_pickF (Value.bool (decide ((2 : Int) < r.state))) rfl rfl (wl_s (o_move (Value.bool (decide ((2 : Int) < r.state))) rfl (?_))))))))))
  cases hb159 : (decide ((2 : Int) < r.state))
  ·have hp160 : r.state ≤ (2 : Int) := by first | simpa using hb159 | (have e := hb159; simp at e; omega)
   refine wl_t rfl (o_fieldR 3 f_47_3 (r.approved) rfl hp152 (fun _ _ _ h => Enc_recovery_f3 h) fun a161 hp162 => (wl_t rfl (o_loadL Try.underlying22 rfl rfl hp162 fun v163 hl164 => (?_))))
   have := hl164.len_le
   refine wl_t rfl (o_callK (vs := [v163]) enter_33 (c_incr (O := [] ++ O) v163 r.approved w148 hl164 s149.lt) rfl s149 fun v165 w166 s167 m168 k169 r170 => (?_))
   obtain rfl := r170
   have hp152 := hp152.mv m168
   refine wl_t rfl (o_not (incM r.approved) rfl (wl_s (o_pickF (Value.bool (!(incM r.approved))) rfl rfl (wl_nil (thenQ_n (?_))))))
   refine cw_cond (!(incM r.approved)) rfl rfl (fun hc171 => ?_) (fun hc171 => ?_)
   ·have hp172 : (incM r.approved) = false := by first | simpa using hc171 | (have e := hc171; simp at e; omega)
    refine cw_seq (?_)
    refine cw_region (by kernel_rfl) (wl_s (o_assign (Value.bool false) rfl (wl_nil (thenQ_n (?_)))))
    refine cw_ret (thenQ_r (end_r rfl (res1 rfl rfl rfl) (?_)))
    have e : (recOKM r) = false := by first | (unfold recOKM; ((repeat (first | (refine (if_pos ?_).trans ?_; solve | omega | assumption | (simp only [dbs]; first | done | (repeat (first | omega | assumption | (right; first | omega | assumption | (constructor <;> first | omega | assumption)) | left))) | (rw [Bool.not_eq_true]; simp only [dbs]; first | done | omega | assumption | ((repeat' apply And.intro) <;> first | omega | assumption)) | (simp only [*, dbs]; done)) | (refine (if_neg ?_).trans ?_; solve | omega | assumption | (simp only [dbs]; first | done | (repeat (first | omega | assumption | (right; first | omega | assumption | (constructor <;> first | omega | assumption)) | left))) | (rw [Bool.not_eq_true]; simp only [dbs]; first | done | omega | assumption | ((repeat' apply And.intro) <;> first | omega | assumption)) | (simp only [*, dbs]; done)))); rfl)) | (simp_all [recOKM]; done) | (simp [recOKM, *]; omega)
    exact ⟨_, rfl, s167.keep, by rw [e]; exact rfl⟩
   ·have hp173 : (incM r.approved) = true := by first | simpa using hc171 | (have e := hc171; simp at e; omega)
    refine cw_skip (thenQ_n (?_))
    refine cw_seq (?_)
    refine cw_seq (?_)
    refine cw_region (by kernel_rfl) (wl_s (o_fieldR 2 f_47_2 (r.state) rfl hp152 (fun _ _ _ h => Enc_recovery_f2 h) fun a174 hp175 => (wl_s (o_loadI Try.underlying3 rfl rfl hp175 (wl_s (o_eql .i64 r.state (2 : Int) rfl rfl (wl_nil (thenQ_n (?_)))))))))
    refine cw_cond (r.state == (2 : Int)) rfl rfl (fun hc176 => ?_) (fun hc176 => ?_)
    ·have hp177 : r.state = (2 : Int) := by first | simpa using hc176 | (have e := hc176; simp at e; omega)
     refine cw_seq (?_)
     cases hb178 : ((r.vetoed.length : Int) == (1 : Int))
     ·have hp179 : (r.vetoed.length : Int) ≠ (1 : Int) := by first | simpa using hb178 | (have e := hb178; simp at e; omega)
      refine cw_draw' 11 _ _ [fun (vT : Value) (wT : World) => ∃ aT, vT = .pointer (some aT) ∧ PT (Enc.slice Enc.int) wT ([] ++ O) (.pointer (some aT)) (r.vetoed), fun (vT : Value) (wT : World) => RdL Enc.int wT ([] ++ O) vT (r.vetoed), isV (vI (r.vetoed.length : Int)), isV (Value.bool false), isV (Value.bool false), isV undef, isV undef, isV undef, isV undef, isV undef, isV undef] (by kernel_rfl) (by kernel_rfl) (by kernel_rfl) (by kernel_rfl) rfl rfl ⟨fun _ _ _ ⟨a, e, h⟩ k => ⟨a, e, h.mv (Mv.of_keep k)⟩, fun _ _ _ h k => h.mv (Mv.of_keep k), kI, kI, kI, kI, kI, kI, kI, kI, kI, trivial⟩ ⟨?_, ?_, ?_, ?_, ?_, ?_, ?_, ?_, ?_, ?_, ?_, trivial⟩ ?_
      ·intro F1 w1 k1 hf hd
       have k0 := (Keep.drew [] w166).trans k1
       have m1 : Mv ([]) w166 ([]) w1 := Mv.of_keep k0
       have hp152 := hp152.mv m1
       obtain ⟨F2, rfl⟩ := lit_of (F := F1) [(1, Value.pointer (some a147))] ⟨hf 1 (by kernel_rfl), trivial⟩
       exact sp_plain rfl ((o_fieldR 4 f_47_4 (r.vetoed) rfl hp152 (fun _ _ _ h => Enc_recovery_f4 h) fun a180 hp181 => (⟨(Keep.refl _ _), ⟨a180, rfl, hp181⟩⟩)))
      ·intro F1 w1 k1 hf hd
       obtain ⟨a182, e184, hp183⟩ : ∃ a, F1 20 = .pointer (some a) ∧ PT (Enc.slice Enc.int) w1 ([] ++ O) (.pointer (some a)) (r.vetoed) := hd 0 20 (by kernel_rfl)
       obtain ⟨F2, rfl⟩ := lit_of (F := F1) [(20, Value.pointer (some a182))] ⟨e184, trivial⟩
       refine sp_plain rfl ((o_loadL Try.underlying22 rfl rfl hp183 fun v185 hl186 => (?_)))
       have := hl186.len_le
       exact ⟨(Keep.refl _ _), hl186⟩
      ·intro F1 w1 k1 hf hd
       obtain ⟨v187, e189, hl188⟩ : ∃ v, F1 21 = v ∧ RdL Enc.int w1 ([] ++ O) v (r.vetoed) := ⟨_, rfl, hd 1 21 (by kernel_rfl)⟩
       have := hl188.len_le
       obtain ⟨F2, rfl⟩ := lit_of (F := F1) [(21, v187)] ⟨e189, trivial⟩
       exact sp_plain rfl ((o_lenR Try.underlying22 rfl hl188 (⟨(Keep.refl _ _), rfl⟩)))
      ·intro F1 w1 k1 hf hd
       obtain ⟨F2, rfl⟩ := lit_of (F := F1) [(22, vI (r.vetoed.length : Int))] ⟨hd 2 22 (by kernel_rfl), trivial⟩
       refine sp_plain rfl ((o_eql .i64 (r.vetoed.length : Int) (1 : Int) rfl rfl (?_)))
       exact ⟨(Keep.refl _ _), congrArg Value.bool (hb178)⟩
      ·intro F1 w1 k1 hf hd
       obtain ⟨F2, rfl⟩ := lit_of (F := F1) [(23, Value.bool false)] ⟨hd 3 23 (by kernel_rfl), trivial⟩
       exact sp_plain rfl ((o_move (Value.bool false) rfl (⟨(Keep.refl _ _), rfl⟩)))
      ·intro F1 w1 k1 hf hd
       exact sp_skipD rfl rfl (hd 4 24 (by kernel_rfl)) rfl rfl
      ·intro F1 w1 k1 hf hd
       exact sp_skipD rfl rfl (hd 4 24 (by kernel_rfl)) rfl rfl
      ·intro F1 w1 k1 hf hd
       exact sp_skipD rfl rfl (hd 4 24 (by kernel_rfl)) rfl rfl
      ·intro F1 w1 k1 hf hd
       exact sp_skipD rfl rfl (hd 4 24 (by kernel_rfl)) rfl rfl
      ·intro F1 w1 k1 hf hd
       exact sp_skipD rfl rfl (hd 4 24 (by kernel_rfl)) rfl rfl
      ·intro F1 w1 k1 hf hd
       exact sp_skipD rfl rfl (hd 4 24 (by kernel_rfl)) rfl rfl
      intro F191 w192 k190 hT193 hF194
      have s195 := s167.call k190
      obtain ⟨F2, rfl⟩ := lit_of (F := F191) [(2, Value.bool false), (37, undef), (24, Value.bool false)] ⟨hF194 2 (by kernel_rfl), hF194 37 (by kernel_rfl), hT193 4 24 (by kernel_rfl) (by decide), trivial⟩
      clear hT193 hF194
      refine wl_k rfl (wl_s (o_pickF (Value.bool false) rfl rfl (wl_s (o_assign (Value.bool false) rfl (wl_nil (thenQ_n (?_)))))))
      refine cw_ret (thenQ_r (end_r rfl (res1 rfl rfl rfl) (?_)))
      have e : (recOKM r) = false := by first | (unfold recOKM; ((repeat (first | (refine (if_pos ?_).trans ?_; solve | omega | assumption | (simp only [dbs]; first | done | (repeat (first | omega | assumption | (right; first | omega | assumption | (constructor <;> first | omega | assumption)) | left))) | (rw [Bool.not_eq_true]; simp only [dbs]; first | done | omega | assumption | ((repeat' apply And.intro) <;> first | omega | assumption)) | (simp only [*, dbs]; done)) | (refine (if_neg ?_).trans ?_; solve | omega | assumption | (simp only [dbs]; first | done | (repeat (first | omega | assumption | (right; first | omega | assumption | (constructor <;> first | omega | assumption)) | left))) | (rw [Bool.not_eq_true]; simp only [dbs]; first | done | omega | assumption | ((repeat' apply And.intro) <;> first | omega | assumption)) | (simp only [*, dbs]; done)))); rfl)) | (simp_all [recOKM]; done) | (simp [recOKM, *]; omega)
      exact ⟨_, rfl, s195.keep, by rw [e]; exact rfl⟩
     ·have hp198 : (r.vetoed.length : Int) = (1 : Int) := by first | simpa using hb178 | (have e := hb178; simp at e; omega)
      refine cw_draw' 11 _ _ [fun (vT : Value) (wT : World) => ∃ aT, vT = .pointer (some aT) ∧ PT (Enc.slice Enc.int) wT ([] ++ O) (.pointer (some aT)) (r.vetoed), fun (vT : Value) (wT : World) => RdL Enc.int wT ([] ++ O) vT (r.vetoed), isV (vI (r.vetoed.length : Int)), isV (Value.bool true), isV (Value.bool true), fun (vT : Value) (wT : World) => ∃ aT, vT = .pointer (some aT) ∧ PT (Enc.slice Enc.int) wT ([] ++ O) (.pointer (some aT)) (r.vetoed), fun (vT : Value) (wT : World) => RdL Enc.int wT ([] ++ O) vT (r.vetoed), fun (vT : Value) (wT : World) => ∃ aT, vT = .pointer (some aT) ∧ PT Enc.int wT ([] ++ O) (.pointer (some aT)) (r.vetoed[0]!), isV (vI (r.vetoed[0]!)), fun (vT : Value) (wT : World) => ∃ aT, vT = .pointer (some aT) ∧ PT Enc.int wT ([] ++ O) (.pointer (some aT)) (r.asked), isV (vI r.asked)] (by kernel_rfl) (by kernel_rfl) (by kernel_rfl) (by kernel_rfl) rfl rfl ⟨fun _ _ _ ⟨a, e, h⟩ k => ⟨a, e, h.mv (Mv.of_keep k)⟩, fun _ _ _ h k => h.mv (Mv.of_keep k), kI, kI, kI, fun _ _ _ ⟨a, e, h⟩ k => ⟨a, e, h.mv (Mv.of_keep k)⟩, fun _ _ _ h k => h.mv (Mv.of_keep k), fun _ _ _ ⟨a, e, h⟩ k => ⟨a, e, h.mv (Mv.of_keep k)⟩, kI, fun _ _ _ ⟨a, e, h⟩ k => ⟨a, e, h.mv (Mv.of_keep k)⟩, kI, trivial⟩ ⟨?_, ?_, ?_, ?_, ?_, ?_, ?_, ?_, ?_, ?_, ?_, trivial⟩ ?_
      ·intro F1 w1 k1 hf hd
       have k0 := (Keep.drew [] w166).trans k1
       have m1 : Mv ([]) w166 ([]) w1 := Mv.of_keep k0
       have hp152 := hp152.mv m1
       obtain ⟨F2, rfl⟩ := lit_of (F := F1) [(1, Value.pointer (some a147))] ⟨hf 1 (by kernel_rfl), trivial⟩
       exact sp_plain rfl ((o_fieldR 4 f_47_4 (r.vetoed) rfl hp152 (fun _ _ _ h => Enc_recovery_f4 h) fun a199 hp200 => (⟨(Keep.refl _ _), ⟨a199, rfl, hp200⟩⟩)))
      ·intro F1 w1 k1 hf hd
       obtain ⟨a201, e203, hp202⟩ : ∃ a, F1 20 = .pointer (some a) ∧ PT (Enc.slice Enc.int) w1 ([] ++ O) (.pointer (some a)) (r.vetoed) := hd 0 20 (by kernel_rfl)
       obtain ⟨F2, rfl⟩ := lit_of (F := F1) [(20, Value.pointer (some a201))] ⟨e203, trivial⟩
       refine sp_plain rfl ((o_loadL Try.underlying22 rfl rfl hp202 fun v204 hl205 => (?_)))
       have := hl205.len_le
       exact ⟨(Keep.refl _ _), hl205⟩
      ·intro F1 w1 k1 hf hd
       obtain ⟨v206, e208, hl207⟩ : ∃ v, F1 21 = v ∧ RdL Enc.int w1 ([] ++ O) v (r.vetoed) := ⟨_, rfl, hd 1 21 (by kernel_rfl)⟩
       have := hl207.len_le
       obtain ⟨F2, rfl⟩ := lit_of (F := F1) [(21, v206)] ⟨e208, trivial⟩
       exact sp_plain rfl ((o_lenR Try.underlying22 rfl hl207 (⟨(Keep.refl _ _), rfl⟩)))
      ·intro F1 w1 k1 hf hd
       obtain ⟨F2, rfl⟩ := lit_of (F := F1) [(22, vI (r.vetoed.length : Int))] ⟨hd 2 22 (by kernel_rfl), trivial⟩
       refine sp_plain rfl ((o_eql .i64 (r.vetoed.length : Int) (1 : Int) rfl rfl (?_)))
       exact ⟨(Keep.refl _ _), congrArg Value.bool (hb178)⟩
      ·intro F1 w1 k1 hf hd
       obtain ⟨F2, rfl⟩ := lit_of (F := F1) [(23, Value.bool true)] ⟨hd 3 23 (by kernel_rfl), trivial⟩
       exact sp_plain rfl ((o_move (Value.bool true) rfl (⟨(Keep.refl _ _), rfl⟩)))
      ·intro F1 w1 k1 hf hd
       have k0 := (Keep.drew [] w166).trans k1
       have m1 : Mv ([]) w166 ([]) w1 := Mv.of_keep k0
       have hp152 := hp152.mv m1
       obtain ⟨F2, rfl⟩ := lit_of (F := F1) [(1, Value.pointer (some a147)), (24, Value.bool true)] ⟨hf 1 (by kernel_rfl), hd 4 24 (by kernel_rfl), trivial⟩
       exact sp_take rfl rfl ((o_fieldR 4 f_47_4 (r.vetoed) rfl hp152 (fun _ _ _ h => Enc_recovery_f4 h) fun a209 hp210 => (⟨(Keep.refl _ _), ⟨a209, rfl, hp210⟩⟩)))
      ·intro F1 w1 k1 hf hd
       obtain ⟨a211, e213, hp212⟩ : ∃ a, F1 25 = .pointer (some a) ∧ PT (Enc.slice Enc.int) w1 ([] ++ O) (.pointer (some a)) (r.vetoed) := hd 5 25 (by kernel_rfl)
       obtain ⟨F2, rfl⟩ := lit_of (F := F1) [(24, Value.bool true), (25, Value.pointer (some a211))] ⟨hd 4 24 (by kernel_rfl), e213, trivial⟩
       refine sp_take rfl rfl ((o_loadL Try.underlying22 rfl rfl hp212 fun v214 hl215 => (?_)))
       have := hl215.len_le
       exact ⟨(Keep.refl _ _), hl215⟩
      ·intro F1 w1 k1 hf hd
       obtain ⟨v216, e218, hl217⟩ : ∃ v, F1 26 = v ∧ RdL Enc.int w1 ([] ++ O) v (r.vetoed) := ⟨_, rfl, hd 6 26 (by kernel_rfl)⟩
       have := hl217.len_le
       obtain ⟨F2, rfl⟩ := lit_of (F := F1) [(24, Value.bool true), (26, v216)] ⟨hd 4 24 (by kernel_rfl), e218, trivial⟩
       exact sp_take rfl rfl ((o_idx Try.underlying22 s_3 .i64 (0 : Int) 0 rfl rfl rfl hl217 (by omega) fun a219 hp220 => (⟨(Keep.refl _ _), ⟨a219, rfl, hp220⟩⟩)))
      ·intro F1 w1 k1 hf hd
       obtain ⟨a221, e223, hp222⟩ : ∃ a, F1 27 = .pointer (some a) ∧ PT Enc.int w1 ([] ++ O) (.pointer (some a)) (r.vetoed[0]!) := hd 7 27 (by kernel_rfl)
       obtain ⟨F2, rfl⟩ := lit_of (F := F1) [(24, Value.bool true), (27, Value.pointer (some a221))] ⟨hd 4 24 (by kernel_rfl), e223, trivial⟩
       exact sp_take rfl rfl ((o_loadI Try.underlying3 rfl rfl hp222 (⟨(Keep.refl _ _), rfl⟩)))
      ·intro F1 w1 k1 hf hd
       have k0 := (Keep.drew [] w166).trans k1
       have m1 : Mv ([]) w166 ([]) w1 := Mv.of_keep k0
       have hp152 := hp152.mv m1
       obtain ⟨F2, rfl⟩ := lit_of (F := F1) [(1, Value.pointer (some a147)), (24, Value.bool true)] ⟨hf 1 (by kernel_rfl), hd 4 24 (by kernel_rfl), trivial⟩
       exact sp_take rfl rfl ((o_fieldR 1 f_47_1 (r.asked) rfl hp152 (fun _ _ _ h => Enc_recovery_f1 h) fun a224 hp225 => (⟨(Keep.refl _ _), ⟨a224, rfl, hp225⟩⟩)))
      ·intro F1 w1 k1 hf hd
       obtain ⟨a226, e228, hp227⟩ : ∃ a, F1 29 = .pointer (some a) ∧ PT Enc.int w1 ([] ++ O) (.pointer (some a)) (r.asked) := hd 9 29 (by kernel_rfl)
       obtain ⟨F2, rfl⟩ := lit_of (F := F1) [(24, Value.bool true), (29, Value.pointer (some a226))] ⟨hd 4 24 (by kernel_rfl), e228, trivial⟩
       exact sp_take rfl rfl ((o_loadI Try.underlying3 rfl rfl hp227 (⟨(Keep.refl _ _), rfl⟩)))
      intro F230 w231 k229 hT232 hF233
      have s234 := s167.call k229
      obtain ⟨F2, rfl⟩ := lit_of (F := F230) [(2, Value.bool false), (37, undef), (24, Value.bool true), (28, vI (r.vetoed[0]!)), (30, vI r.asked)] ⟨hF233 2 (by kernel_rfl), hF233 37 (by kernel_rfl), hT232 4 24 (by kernel_rfl) (by decide), hT232 8 28 (by kernel_rfl) (by decide), hT232 10 30 (by kernel_rfl) (by decide), trivial⟩
      clear hT232 hF233
      refine wl_t rfl (o_callK (vs := [vI (r.vetoed[0]!), vI r.asked]) enter_30 (c_isDay (O := [] ++ O) (r.vetoed[0]!) r.asked w231 s234.lt) rfl s234 fun v237 w238 s239 m240 k241 r242 => (?_))
      obtain rfl := r242
      refine wl_s (o_pickT (Value.bool (isDayM (r.vetoed[0]!) r.asked)) rfl rfl (wl_s (o_assign (Value.bool (isDayM (r.vetoed[0]!) r.asked)) rfl (wl_nil (thenQ_n (?_))))))
      refine cw_ret (thenQ_r (end_r rfl (res1 rfl rfl rfl) (?_)))
      have e : (recOKM r) = (isDayM (r.vetoed[0]!) r.asked) := by first | (unfold recOKM; ((repeat (first | (refine (if_pos ?_).trans ?_; solve | omega | assumption | (simp only [dbs]; first | done | (repeat (first | omega | assumption | (right; first | omega | assumption | (constructor <;> first | omega | assumption)) | left))) | (rw [Bool.not_eq_true]; simp only [dbs]; first | done | omega | assumption | ((repeat' apply And.intro) <;> first | omega | assumption)) | (simp only [*, dbs]; done)) | (refine (if_neg ?_).trans ?_; solve | omega | assumption | (simp only [dbs]; first | done | (repeat (first | omega | assumption | (right; first | omega | assumption | (constructor <;> first | omega | assumption)) | left))) | (rw [Bool.not_eq_true]; simp only [dbs]; first | done | omega | assumption | ((repeat' apply And.intro) <;> first | omega | assumption)) | (simp only [*, dbs]; done)))); rfl)) | (simp_all [recOKM]; done) | (simp [recOKM, *]; omega)
      exact ⟨_, rfl, s239.keep, by rw [e]; exact rfl⟩
    ·have hp243 : r.state ≠ (2 : Int) := by first | simpa using hc176 | (have e := hc176; simp at e; omega)
     refine cw_skip (thenQ_n (?_))
     refine cw_seq (?_)
     refine cw_region (by kernel_rfl) (wl_s (o_fieldR 4 f_47_4 (r.vetoed) rfl hp152 (fun _ _ _ h => Enc_recovery_f4 h) fun a244 hp245 => (wl_s (o_loadL Try.underlying22 rfl rfl hp245 fun v246 hl247 => (?_)))))
     have := hl247.len_le
     refine wl_s (o_lenR Try.underlying22 rfl hl247 (wl_s (o_eql .i64 (r.vetoed.length : Int) (0 : Int) rfl rfl (wl_s (o_assign (Value.bool ((r.vetoed.length : Int) == (0 : Int))) rfl (wl_nil (thenQ_n (?_))))))))
     refine cw_ret (end_r rfl (res1 rfl rfl rfl) (?_))
     have e : (recOKM r) = ((r.vetoed.length : Int) == (0 : Int)) := by first | (unfold recOKM; ((repeat (first | (refine (if_pos ?_).trans ?_; solve | omega | assumption | (simp only [dbs]; first | done | (repeat (first | omega | assumption | (right; first | omega | assumption | (constructor <;> first | omega | assumption)) | left))) | (rw [Bool.not_eq_true]; simp only [dbs]; first | done | omega | assumption | ((repeat' apply And.intro) <;> first | omega | assumption)) | (simp only [*, dbs]; done)) | (refine (if_neg ?_).trans ?_; solve | omega | assumption | (simp only [dbs]; first | done | (repeat (first | omega | assumption | (right; first | omega | assumption | (constructor <;> first | omega | assumption)) | left))) | (rw [Bool.not_eq_true]; simp only [dbs]; first | done | omega | assumption | ((repeat' apply And.intro) <;> first | omega | assumption)) | (simp only [*, dbs]; done)))); rfl)) | (simp_all [recOKM]; done) | (simp [recOKM, *]; omega)
     exact ⟨_, rfl, s167.keep, by rw [e]; exact rfl⟩
  ·have hp248 : (2 : Int) < r.state := by first | simpa using hb159 | (have e := hb159; simp at e; omega)
   refine wl_k rfl (wl_k rfl (wl_k rfl (wl_k rfl (wl_s (o_pickT (Value.bool true) rfl rfl (wl_nil (thenQ_n (?_))))))))
   refine cw_cond true rfl rfl (fun _ => ?_) (fun h => by cases h)
   refine cw_seq (?_)
   refine cw_region (by kernel_rfl) (wl_s (o_assign (Value.bool false) rfl (wl_nil (thenQ_n (?_)))))
   refine cw_ret (thenQ_r (end_r rfl (res1 rfl rfl rfl) (?_)))
   have e : (recOKM r) = false := by first | (unfold recOKM; ((repeat (first | (refine (if_pos ?_).trans ?_; solve | omega | assumption | (simp only [dbs]; first | done | (repeat (first | omega | assumption | (right; first | omega | assumption | (constructor <;> first | omega | assumption)) | left))) | (rw [Bool.not_eq_true]; simp only [dbs]; first | done | omega | assumption | ((repeat' apply And.intro) <;> first | omega | assumption)) | (simp only [*, dbs]; done)) | (refine (if_neg ?_).trans ?_; solve | omega | assumption | (simp only [dbs]; first | done | (repeat (first | omega | assumption | (right; first | omega | assumption | (constructor <;> first | omega | assumption)) | left))) | (rw [Bool.not_eq_true]; simp only [dbs]; first | done | omega | assumption | ((repeat' apply And.intro) <;> first | omega | assumption)) | (simp only [*, dbs]; done)))); rfl)) | (simp_all [recOKM]; done) | (simp [recOKM, *]; omega)
   exact ⟨_, rfl, s149.keep, by rw [e]; exact rfl⟩
 ·have hp249 : r.state < (0 : Int) := by first | simpa using hb155 | (have e := hb155; simp at e; omega)
  refine wl_k rfl (wl_k rfl (wl_k rfl (wl_s (o_pickT (Value.bool true) rfl rfl (wl_s (o_move (Value.bool true) rfl (wl_k rfl (wl_k rfl (wl_k rfl (wl_k rfl (wl_s (o_pickT (Value.bool true) rfl rfl (wl_nil (thenQ_n (?_)))))))))))))))
  refine cw_cond true rfl rfl (fun _ => ?_) (fun h => by cases h)
  refine cw_seq (?_)
  refine cw_region (by kernel_rfl) (wl_s (o_assign (Value.bool false) rfl (wl_nil (thenQ_n (?_)))))
  refine cw_ret (thenQ_r (end_r rfl (res1 rfl rfl rfl) (?_)))
  have e : (recOKM r) = false := by first | (unfold recOKM; ((repeat (first | (refine (if_pos ?_).trans ?_; solve | omega | assumption | (simp only [dbs]; first | done | (repeat (first | omega | assumption | (right; first | omega | assumption | (constructor <;> first | omega | assumption)) | left))) | (rw [Bool.not_eq_true]; simp only [dbs]; first | done | omega | assumption | ((repeat' apply And.intro) <;> first | omega | assumption)) | (simp only [*, dbs]; done)) | (refine (if_neg ?_).trans ?_; solve | omega | assumption | (simp only [dbs]; first | done | (repeat (first | omega | assumption | (right; first | omega | assumption | (constructor <;> first | omega | assumption)) | left))) | (rw [Bool.not_eq_true]; simp only [dbs]; first | done | omega | assumption | ((repeat' apply And.intro) <;> first | omega | assumption)) | (simp only [*, dbs]; done)))); rfl)) | (simp_all [recOKM]; done) | (simp [recOKM, *]; omega)
  exact ⟨_, rfl, s149.keep, by rw [e]; exact rfl⟩

end Go.Proofs.Ytpdekmknnpkmgaa
