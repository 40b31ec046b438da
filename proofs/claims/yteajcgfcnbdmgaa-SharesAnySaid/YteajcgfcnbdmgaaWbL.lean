/- Walks, printed by gen.py. -/
import Derived.Test.YteajcgfcnbdmgaaWbA
import Derived.Test.YteajcgfcnbdmgaaMaV
set_option linter.unusedSimpArgs false
set_option linter.unusedVariables false
namespace Go.Proofs.Yteajcgfcnbdmgaa
open Go.Fw Go.RowKit

set_option maxHeartbeats 4000000 in
set_option maxRecDepth 100000 in
theorem c_some {O : List Nat} (l_v : Value) (l : List Share) (mask : UInt8) (w : World) (h_l : RdL Enc.share w O l_v l) (hO : ∀ b ∈ O, b < w.heap.size) : CallsK Try.prog 41 [l_v, vB mask] w (fun v w' => ∃ (x0 : Value), v = x0 ∧ RdL Enc.share w' (O) x0 (someM l mask l.length)) :=  by
 have lim_l := h_l.len_le
 have h_l : RdL Enc.share w ([] ++ O) l_v l := h_l
 have s0 : St w O w [] := St.start hO
 refine callsK_of 30 Try.func41 rfl rfl (of_decide_eq_true rfl) (fun F0 => ?_)
 refine cw_seq (?_)
 refine cw_region (by kernel_rfl) (wl_s (o_assign (Value.slice none 0 0) rfl (wl_nil (thenQ_n (?_)))))
 refine cw_seq (?_)
 refine cw_region (by kernel_rfl) (wl_s (o_assign (.slice none 0 0) rfl (wl_nil (thenQ_n (?_)))))
 refine cw_seq (?_)
 refine cw_seq (?_)
 refine cw_region (by kernel_rfl) (wl_s (o_move (l_v) rfl (wl_s (o_lenR Try.underlying38 rfl h_l (wl_s (o_move (vI (0 : Int)) rfl (wl_nil (thenQ_n (?_)))))))))
 refine cw_block (?_)
 refine cw_loop (fun mI FI wI => ∃ (k : Nat) (vo0_5 : Value) (B : List Nat), k ≤ l.length ∧ mI = l.length - k ∧ (∃ F1, FI = upds F1 [(0, l_v), (1, vB mask), (5, vo0_5), (8, vI (l.length : Int)), (9, vI ((k : Nat) : Int)), (30, undef)]) ∧ St w O wI B ∧ Own Enc.share 53 w.heap.size (B ++ O) wI vo0_5 ((someM l mask k)) ∧ (∀ b, vo0_5.ownBlock = some b → b ∈ B) ∧ RdL Enc.share wI (B ++ O) (l_v) (l)) (l.length - (0)) ?_ ?_
 ·exact ⟨(0), (.slice none 0 0), [], (by first | omega | (simp; done) | (simp; omega) | simp_all), rfl, ⟨_, upds_self _ ⟨rfl, rfl, rfl, rfl, (by first | rfl | exact congrArg (Value.int _) (by first | omega | (simp))), rfl, trivial⟩⟩, s0, (by rw [show (someM l mask (0)) = [] from rfl]; exact (Own.nil Enc.share 53 _ _ _)), (by intro b hb; simp [Value.ownBlock] at hb), h_l⟩
 ·intro ml0 F wl0 hI
  clear h_l
  obtain ⟨k, vo0_5, Bl0, hr0_0, hm0, ⟨Fl0, rfl⟩, sl0, ho0_5, hB0_5, h_l⟩ := hI
  refine cw_seq (?_)
  refine cw_region (by kernel_rfl) (wl_s (o_lss .i64 ((k : Nat) : Int) (l.length : Int) rfl rfl (wl_nil (thenQ_n (?_)))))
  refine cw_seq (?_)
  refine cw_cond (decide (((k : Nat) : Int) < (l.length : Int))) rfl rfl (fun hc4316 => ?_) (fun hc4316 => ?_)
  ·have hp4317 : ((k : Nat) : Int) < (l.length : Int) := by first | simpa using hc4316 | (have e := hc4316; simp at e; omega)
   refine cw_skip (thenQ_n (?_))
   refine cw_seq (?_)
   refine cw_block (?_)
   refine cw_seq (?_)
   refine cw_region (by kernel_rfl) (wl_s (o_move (vI ((k : Nat) : Int)) rfl (wl_s (o_assign (vI ((k : Nat) : Int)) rfl (wl_nil (thenQ_n (?_)))))))
   refine cw_seq (?_)
   refine cw_region (by kernel_rfl) (wl_s (o_move (vI ((k : Nat) : Int)) rfl (wl_s (o_lss .i64 ((k : Nat) : Int) (8 : Int) rfl rfl (wl_s (o_move (Value.bool (decide (((k : Nat) : Int) < (8 : Int)))) rfl (?_)))))))
   cases hb4318 : (decide (((k : Nat) : Int) < (8 : Int)))
   ·have hp4319 : (8 : Int) ≤ ((k : Nat) : Int) := by first | simpa using hb4318 | (have e := hb4318; simp at e; omega)
    refine wl_k rfl (wl_k rfl (wl_k rfl (wl_k rfl (wl_k rfl (wl_s (o_pickF (Value.bool false) rfl rfl (wl_nil (thenQ_n (?_)))))))))
    refine cw_cond false rfl rfl (fun h => by cases h) (fun _ => ?_)
    refine cw_skip (blockQ_n (thenQ_n (?_)))
    refine cw_region (by kernel_rfl) (wl_s (o_add .i64 ((k : Nat) : Int) (1 : Int) (((k + 1 : Nat) : Int)) rfl rfl (w64 (by omega) (by omega)) (wl_s (o_move (vI ((k + 1 : Nat) : Int)) rfl (wl_nil (thenQ_n (?_)))))))
    exact ⟨_, (by omega), (k + 1), vo0_5, Bl0, (by first | omega | (simp; done) | (simp; omega) | simp_all), rfl, ⟨_, upds_self _ ⟨rfl, rfl, rfl, rfl, (by first | rfl | exact congrArg (Value.int _) (by first | omega | (simp))), rfl, trivial⟩⟩, sl0, (by rw [show (someM l mask (k + 1)) = (someM l mask k) from by first | exact someM_hit (by omega) (by assumption) | exact someM_miss (by omega) | exact someM_miss (fun hq => absurd hq.2 (by assumption))]; exact ho0_5), hB0_5, h_l⟩
   ·have hp4320 : ((k : Nat) : Int) < (8 : Int) := by first | simpa using hb4318 | (have e := hb4318; simp at e; omega)
    refine wl_t rfl (o_move (vB mask) rfl (wl_t rfl (o_move (vI ((k : Nat) : Int)) rfl (wl_t rfl (o_shr8 .i64 mask k (by omega) rfl rfl (wl_t rfl (o_and8 (mask >>> UInt8.ofNat k) (1 : UInt8) rfl rfl (wl_t rfl (o_eql8 ((mask >>> UInt8.ofNat k) &&& (1 : UInt8)) (1 : UInt8) rfl rfl (wl_s (o_pickT (Value.bool (((mask >>> UInt8.ofNat k) &&& (1 : UInt8)) == (1 : UInt8))) rfl rfl (wl_nil (thenQ_n (?_))))))))))))))
    refine cw_cond (((mask >>> UInt8.ofNat k) &&& (1 : UInt8)) == (1 : UInt8)) rfl rfl (fun hc4321 => ?_) (fun hc4321 => ?_)
    ·have hp4322 : (mask >>> UInt8.ofNat k) &&& (1 : UInt8) = (1 : UInt8) := by first | simpa using hc4321 | (have e := hc4321; simp at e; omega)
     refine cw_region (by kernel_rfl) (wl_s (o_move (vo0_5) rfl (wl_s (o_move (l_v) rfl (wl_s (o_move (vI ((k : Nat) : Int)) rfl (wl_s (o_idx Try.underlying38 s_53 .i64 ((k : Nat) : Int) k rfl rfl rfl h_l (by omega) fun a4323 hp4324 => (wl_s (o_loadS Try.underlying53 rfl s_53 rfl hp4324 fun cs4325 hs4326 => (wl_s (o_lit (E := Enc.share) (xs := [.tmp 25]) Try.underlying38 s_53 z_53 (by decide) [Value.agg cs4325.toArray] [cs4325] [l[k]!] rfl rfl rfl (Parts.cons rfl hs4326 (Parts.nil _ _ _)) (of_decide_eq_true rfl) sl0 fun v4331 w4327 s4328 m4329 k4330 hl4332 => (?_)))))))))))))
     have h_l := h_l.mv m4329
     have ho0_5 := ho0_5.mv m4329 k4330 (by simp)
     have := hl4332.len_le
     refine wl_s (o_append (E := Enc.share) (l := (someM l mask k)) (m := [l[k]!]) Try.underlying38 i_53 rfl (by decide) rfl rfl ho0_5 hl4332 (fun _ hb => .inl hb) hB0_5 (by have := someM_le l mask k; simp; omega) (by have := someM_le l mask k; simp [maxLen]; omega) s4328 fun v4337 w4333 B4339 hB4340 at4341 sub4342 s4334 m4335 k4336 ho4338 => (?_))
     have h_l := h_l.mv m4335
     refine wl_s (o_assign (v4337) rfl (wl_nil (blockQ_n (thenQ_n (?_)))))
     refine cw_region (by kernel_rfl) (wl_s (o_add .i64 ((k : Nat) : Int) (1 : Int) (((k + 1 : Nat) : Int)) rfl rfl (w64 (by omega) (by omega)) (wl_s (o_move (vI ((k + 1 : Nat) : Int)) rfl (wl_nil (thenQ_n (?_)))))))
     exact ⟨_, (by omega), (k + 1), v4337, B4339, (by first | omega | (simp; done) | (simp; omega) | simp_all), rfl, ⟨_, upds_self _ ⟨rfl, rfl, rfl, rfl, (by first | rfl | exact congrArg (Value.int _) (by first | omega | (simp))), rfl, trivial⟩⟩, s4334, (by rw [show (someM l mask (k + 1)) = (someM l mask k) ++ ([l[k]!]) from by first | exact someM_hit (by omega) (by assumption) | exact someM_miss (by omega) | exact someM_miss (fun hq => absurd hq.2 (by assumption))]; exact ho4338), hB4340, h_l⟩
    ·have hp4343 : (mask >>> UInt8.ofNat k) &&& (1 : UInt8) ≠ (1 : UInt8) := by first | simpa using hc4321 | (have e := hc4321; simp at e; omega)
     refine cw_skip (blockQ_n (thenQ_n (?_)))
     refine cw_region (by kernel_rfl) (wl_s (o_add .i64 ((k : Nat) : Int) (1 : Int) (((k + 1 : Nat) : Int)) rfl rfl (w64 (by omega) (by omega)) (wl_s (o_move (vI ((k + 1 : Nat) : Int)) rfl (wl_nil (thenQ_n (?_)))))))
     exact ⟨_, (by omega), (k + 1), vo0_5, Bl0, (by first | omega | (simp; done) | (simp; omega) | simp_all), rfl, ⟨_, upds_self _ ⟨rfl, rfl, rfl, rfl, (by first | rfl | exact congrArg (Value.int _) (by first | omega | (simp))), rfl, trivial⟩⟩, sl0, (by rw [show (someM l mask (k + 1)) = (someM l mask k) from by first | exact someM_hit (by omega) (by assumption) | exact someM_miss (by omega) | exact someM_miss (fun hq => absurd hq.2 (by assumption))]; exact ho0_5), hB0_5, h_l⟩
  ·have hp4344 : (l.length : Int) ≤ ((k : Nat) : Int) := by first | simpa using hc4316 | (have e := hc4316; simp at e; omega)
   obtain rfl : k = l.length := by omega
   refine cw_exit (thenQ_x (thenQ_x (blockQ_x (thenQ_n (?_)))))
   refine cw_seq (?_)
   refine cw_region (by kernel_rfl) (wl_s (o_move (vo0_5) rfl (wl_s (o_assign (vo0_5) rfl (wl_nil (thenQ_n (?_)))))))
   refine cw_ret (end_r rfl (res1 rfl rfl rfl) (?_))
   exact ⟨_, rfl, sl0.keep, ⟨vo0_5, rfl, ho0_5.pub sl0⟩⟩

end Go.Proofs.Yteajcgfcnbdmgaa
