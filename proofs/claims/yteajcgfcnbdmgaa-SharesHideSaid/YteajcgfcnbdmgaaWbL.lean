/- Walks, printed by gen.py. -/
import Derived.Test.YteajcgfcnbdmgaaWbJ
import Derived.Test.YteajcgfcnbdmgaaMaW
set_option linter.unusedSimpArgs false
set_option linter.unusedVariables false
namespace Go.Proofs.Yteajcgfcnbdmgaa
open Go.Fw Go.RowKit

set_option maxHeartbeats 4000000 in
set_option maxRecDepth 100000 in
theorem c_some {O : List Nat} (l_v : Value) (l : List Share) (mask : UInt8) (w : World) (h_l : RdL Enc.share w O l_v l) (hO : ∀ b ∈ O, b < w.heap.size) : CallsK Try.prog 41 [l_v, vB mask] w (fun v w' => ∃ (x0 : Value), v = x0 ∧ RdL Enc.share w' (O) x0 (someM l mask l.length)) :=  by
 have lim_l := h_l.len_le
 have h_l : RdL Enc.share w ([] ++ O) l_v l := h_l
 have s0 : St w O w [] := St.start hO
 refine callsK_of 30 Try.func41 rfl rfl (of_decide_eq_true rfl) (fun F0 => ?_)
 refine cw_seq (?_)
 refine cw_region (by kernel_rfl) (wl_s (o_assign (Value.slice none 0 0) rfl (wl_nil (thenQ_n (?_)))))
 refine cw_seq (?_)
 refine cw_region (by kernel_rfl) (wl_s (o_assign (.slice none 0 0) rfl (wl_nil (thenQ_n (?_)))))
 refine cw_seq (?_)
 refine cw_seq (?_)
 refine cw_region (by kernel_rfl) (wl_s (o_move (l_v) rfl (wl_s (o_lenR Try.underlying38 rfl h_l (wl_s (o_move (vI (0 : Int)) rfl (wl_nil (thenQ_n (?_)))))))))
 refine cw_block (?_)
 refine cw_loop (fun mI FI wI => ∃ (k : Nat) (vo0_5 : Value) (B : List Nat), k ≤ l.length ∧ mI = l.length - k ∧ (∃ F1, FI = upds F1 [(0, l_v), (1, vB mask), (5, vo0_5), (8, vI (l.length : Int)), (9, vI ((k : Nat) : Int)), (30, undef)]) ∧ St w O wI B ∧ Own Enc.share 53 w.heap.size (B ++ O) wI vo0_5 ((someM l mask k)) ∧ (∀ b, vo0_5.ownBlock = some b → b ∈ B) ∧ RdL Enc.share wI (B ++ O) (l_v) (l)) (l.length - (0)) ?_ ?_
 ·exact ⟨(0), (.slice none 0 0), [], (by first | omega | (simp; done) | (simp; omega) | simp_all), rfl, ⟨_, upds_self _ ⟨rfl, rfl, rfl, rfl, (by first | rfl | exact congrArg (Value.int _) (by first | omega | (simp))), rfl, trivial⟩⟩, s0, (by rw [show (someM l mask (0)) = [] from rfl]; exact (Own.nil Enc.share 53 _ _ _)), (by intro b hb; simp [Value.ownBlock] at hb), h_l⟩
 ·intro ml0 F wl0 hI
  clear h_l
  obtain ⟨k, vo0_5, Bl0, hr0_0, hm0, ⟨Fl0, rfl⟩, sl0, ho0_5, hB0_5, h_l⟩ := hI
  refine cw_seq (?_)
  refine cw_region (by kernel_rfl) (wl_s (o_lss .i64 ((k : Nat) : Int) (l.length : Int) rfl rfl (wl_nil (thenQ_n (?_)))))
  refine cw_seq (?_)
  refine cw_cond (decide (((k : Nat) : Int) < (l.length : Int))) rfl rfl (fun hc4316 => ?_) (fun hc4316 => ?_)
  ·have hp4317 : ((k : Nat) : Int) < (l.length : Int) := by first | simpa using hc4316 | (have e := hc4316; simp at e; omega)
   refine cw_skip (thenQ_n (?_))
   refine cw_seq (?_)
   refine cw_block (?_)
   refine cw_seq (?_)
   refine cw_region (by kernel_rfl) (wl_s (o_move (vI ((k : Nat) : Int)) rfl (wl_s (o_assign (vI ((k : Nat) : Int)) rfl (wl_nil (thenQ_n (?_)))))))
   refine cw_seq (?_)
   refine cw_region (by kernel_rfl) (wl_s (o_move (vI ((k : Nat) : Int)) rfl (wl_s (o_lss .i64 ((k : Nat) : Int) (8 : Int) rfl rfl (wl_s (o_move (Value.bool (decide (((k : Nat) : Int) < (8 : Int)))) rfl (?_)))))))
   cases hb4318 : (decide (((k : Nat) : Int) < (8 : Int)))
   ·have hp4319 : (8 : Int) ≤ ((k : Nat) : Int) := by first | simpa using hb4318 | (have e := hb4318; simp at e; omega)
    refine wl_k rfl (wl_k rfl (wl_k rfl (wl_k rfl (wl_k rfl (wl_s (o_pickF (Value.bool false) rfl rfl (wl_nil (thenQ_n (?_)))))))))
    refine cw_cond false rfl rfl (fun h => by cases h) (fun _ => ?_)
    refine cw_skip (blockQ_n (thenQ_n (?_)))
    refine cw_region (by kernel_rfl) (wl_s (o_add .i64 ((k : Nat) : Int) (1 : Int) (((k + 1 : Nat) : Int)) rfl rfl (w64 (by omega) (by omega)) (wl_s (o_move (vI ((k + 1 : Nat) : Int)) rfl (wl_nil (thenQ_n (?_)))))))
    exact ⟨_, (by omega), (k + 1), vo0_5, Bl0, (by first | omega | (simp; done) | (simp; omega) | simp_all), rfl, ⟨_, upds_self _ ⟨rfl, rfl, rfl, rfl, (by first | rfl | exact congrArg (Value.int _) (by first | omega | (simp))), rfl, trivial⟩⟩, sl0, (by rw [show (someM l mask (k + 1)) = (someM l mask k) from by first | exact someM_hit (by omega) (by assumption) | exact someM_miss (by omega) | exact someM_miss (fun hq => absurd hq.2 (by assumption))]; exact ho0_5), hB0_5, h_l⟩
   ·have hp4320 : ((k : Nat) : Int) < (8 : Int) := by first | simpa using hb4318 | (have e := hb4318; simp at e; omega)
    refine wl_t rfl (o_move (vB mask) rfl (wl_t rfl (o_move (vI ((k : Nat) : Int)) rfl (wl_t rfl (o_shr8 .i64 mask k (by omega) rfl rfl (wl_t rfl (o_and8 (mask >>> UInt8.ofNat k) (1 : UInt8) rfl rfl (wl_t rfl (o_eql8 ((mask >>> UInt8.ofNat k) &&& (1 : UInt8)) (1 : UInt8) rfl rfl (wl_s (o_pickT (Value.bool (((mask >>> UInt8.ofNat k) &&& (1 : UInt8)) == (1 : UInt8))) rfl rfl (wl_nil (thenQ_n (?_))))))))))))))
    refine cw_cond (((mask >>> UInt8.ofNat k) &&& (1 : UInt8)) == (1 : UInt8)) rfl rfl (fun hc4321 => ?_) (fun hc4321 => ?_)
    ·have hp4322 : (mask >>> UInt8.ofNat k) &&& (1 : UInt8) = (1 : UInt8) := by first | simpa using hc4321 | (have e := hc4321; simp at e; omega)
     refine cw_region (by kernel_rfl) (wl_s (o_move (vo0_5) rfl (wl_s (o_move (l_v) rfl (wl_s (o_move (vI ((k : Nat) : Int)) rfl (wl_s (o_idx Try.underlying38 s_53 .i64 ((k : Nat) : Int) k rfl rfl rfl h_l (by omega) fun a4323 hp4324 => (wl_s (o_loadS Try.underlying53 rfl s_53 rfl hp4324 fun cs4325 hs4326 => (wl_s (o_lit (E := Enc.share) (xs := [.tmp 25]) Try.underlying38 s_53 z_53 (by decide) [Value.agg cs4325.toArray] [cs4325] [l[k]!] rfl rfl rfl (Parts.cons rfl hs4326 (Parts.nil _ _ _)) (of_decide_eq_true rfl) sl0 fun v4331 w4327 s4328 m4329 k4330 hl4332 => (?_)))))))))))))
     have h_l := h_l.mv m4329
     have ho0_5 := ho0_5.mv m4329 k4330 (by simp)
     have := hl4332.len_le
     refine wl_s (o_append (E := Enc.share) (l := (someM l mask k)) (m := [l[k]!]) Try.underlying38 i_53 rfl (by decide) rfl rfl ho0_5 hl4332 (fun _ hb => .inl hb) hB0_5 (by have := someM_le l mask k; simp; omega) (by have := someM_le l mask k; simp [maxLen]; omega) s4328 fun v4337 w4333 B4339 hB4340 at4341 sub4342 s4334 m4335 k4336 ho4338 => (?_))
     have h_l := h_l.mv m4335
     refine wl_s (o_assign (v4337) rfl (wl_nil (blockQ_n (thenQ_n (?_)))))
     refine cw_region (by kernel_rfl) (wl_s (o_add .i64 ((k : Nat) : Int) (1 : Int) (((k + 1 : Nat) : Int)) rfl rfl (w64 (by omega) (by omega)) (wl_s (o_move (vI ((k + 1 : Nat) : Int)) rfl (wl_nil (thenQ_n (?_)))))))
     exact ⟨_, (by omega), (k + 1), v4337, B4339, (by first | omega | (simp; done) | (simp; omega) | simp_all), rfl, ⟨_, upds_self _ ⟨rfl, rfl, rfl, rfl, (by first | rfl | exact congrArg (Value.int _) (by first | omega | (simp))), rfl, trivial⟩⟩, s4334, (by rw [show (someM l mask (k + 1)) = (someM l mask k) ++ ([l[k]!]) from by first | exact someM_hit (by omega) (by assumption) | exact someM_miss (by omega) | exact someM_miss (fun hq => absurd hq.2 (by assumption))]; exact ho4338), hB4340, h_l⟩
    ·have hp4343 : (mask >>> UInt8.ofNat k) &&& (1 : UInt8) ≠ (1 : UInt8) := by first | simpa using hc4321 | (have e := hc4321; simp at e; omega)
     refine cw_skip (blockQ_n (thenQ_n (?_)))
     refine cw_region (by kernel_rfl) (wl_s (o_add .i64 ((k : Nat) : Int) (1 : Int) (((k + 1 : Nat) : Int)) rfl rfl (w64 (by omega) (by omega)) (wl_s (o_move (vI ((k + 1 : Nat) : Int)) rfl (wl_nil (thenQ_n (?_)))))))
     exact ⟨_, (by omega), (k + 1), vo0_5, Bl0, (by first | omega | (simp; done) | (simp; omega) | simp_all), rfl, ⟨_, upds_self _ ⟨rfl, rfl, rfl, rfl, (by first | rfl | exact congrArg (Value.int _) (by first | omega | (simp))), rfl, trivial⟩⟩, sl0, (by rw [show (someM l mask (k + 1)) = (someM l mask k) from by first | exact someM_hit (by omega) (by assumption) | exact someM_miss (by omega) | exact someM_miss (fun hq => absurd hq.2 (by assumption))]; exact ho0_5), hB0_5, h_l⟩
  ·have hp4344 : (l.length : Int) ≤ ((k : Nat) : Int) := by first | simpa using hc4316 | (have e := hc4316; simp at e; omega)
   obtain rfl : k = l.length := by omega
   refine cw_exit (thenQ_x (thenQ_x (blockQ_x (thenQ_n (?_)))))
   refine cw_seq (?_)
   refine cw_region (by kernel_rfl) (wl_s (o_move (vo0_5) rfl (wl_s (o_assign (vo0_5) rfl (wl_nil (thenQ_n (?_)))))))
   refine cw_ret (end_r rfl (res1 rfl rfl rfl) (?_))
   exact ⟨_, rfl, sl0.keep, ⟨vo0_5, rfl, ho0_5.pub sl0⟩⟩
set_option maxHeartbeats 4000000 in
set_option maxRecDepth 100000 in
theorem c_SharesHide {O : List Nat} (secret_v : Value) (secret : List UInt8) (other_v : Value) (other : List UInt8) (epoch : Int) (threshold : Int) (many : Int) (coins_v : Value) (coins : List UInt8) (mask : UInt8) (w : World) (h_secret : RdL Enc.u8 w O secret_v secret) (h_other : RdL Enc.u8 w O other_v other) (h_coins : RdL Enc.u8 w O coins_v coins) (hO : ∀ b ∈ O, b < w.heap.size) : CallsK Try.prog 13 [secret_v, other_v, vI epoch, vI threshold, vI many, coins_v, vB mask] w (fun v _ => v = .bool (true)) :=  by
 have lim_secret := h_secret.len_le
 have h_secret : RdL Enc.u8 w ([] ++ O) secret_v secret := h_secret
 have lim_other := h_other.len_le
 have h_other : RdL Enc.u8 w ([] ++ O) other_v other := h_other
 have lim_coins := h_coins.len_le
 have h_coins : RdL Enc.u8 w ([] ++ O) coins_v coins := h_coins
 have s0 : St w O w [] := St.start hO
 refine callsK_of 115 Try.func13 rfl rfl (of_decide_eq_true rfl) (fun F0 => ?_)
 refine cw_seq (?_)
 refine cw_region (by kernel_rfl) (wl_s (o_assign (Value.bool false) rfl (wl_nil (thenQ_n (?_)))))
 refine cw_seq (?_)
 refine cw_seq (?_)
 refine cw_region (by kernel_rfl) (wl_s (o_callK (vs := []) enter_28 (c_sane8 (O := [] ++ O) w s0.lt) rfl s0 fun v4345 w4346 s4347 m4348 k4349 r4350 => (?_)))
 obtain rfl := r4350
 have h_secret := h_secret.mv m4348
 have h_other := h_other.mv m4348
 have h_coins := h_coins.mv m4348
 refine wl_s (o_not true rfl (wl_nil (thenQ_n (?_))))
 refine cw_cond false rfl rfl (fun h => by cases h) (fun _ => ?_)
 refine cw_skip (thenQ_n (?_))
 refine cw_seq (?_)
 refine cw_seq (?_)
 refine cw_region (by kernel_rfl) (wl_s (o_move (secret_v) rfl (wl_s (o_lenR Try.underlying28 rfl h_secret (wl_s (o_gtr .i64 (secret.length : Int) (20 : Int) rfl rfl (wl_s (o_move (Value.bool (decide ((20 : Int) < (secret.length : Int)))) rfl (?_)))))))))
 cases hb4351 : (decide ((20 : Int) < (secret.length : Int)))
 ·have hp4352 : (secret.length : Int) ≤ (20 : Int) := by first | simpa using hb4351 | (have e := hb4351; simp at e; omega)
  refine wl_t rfl (o_move (coins_v) rfl (wl_t rfl (o_lenR Try.underlying28 rfl h_coins (wl_t rfl (o_gtr .i64 (coins.length : Int) (200 : Int) rfl rfl (wl_s (o_pickF (Value.bool (decide ((200 : Int) < (coins.length : Int)))) rfl rfl (wl_s (o_move (Value.bool (decide ((200 : Int) < (coins.length : Int)))) rfl (?_))))))))))
  cases hb4353 : (decide ((200 : Int) < (coins.length : Int)))
  ·have hp4354 : (coins.length : Int) ≤ (200 : Int) := by first | simpa using hb4353 | (have e := hb4353; simp at e; omega)
   refine wl_t rfl (o_move (other_v) rfl (wl_t rfl (o_lenR Try.underlying28 rfl h_other (wl_t rfl (o_move (secret_v) rfl (wl_t rfl (o_lenR Try.underlying28 rfl h_secret (wl_t rfl (o_neq .i64 (other.length : Int) (secret.length : Int) rfl rfl (wl_s (o_pickF (Value.bool ((other.length : Int) != (secret.length : Int))) rfl rfl (wl_nil (thenQ_n (?_))))))))))))))
   refine cw_cond ((other.length : Int) != (secret.length : Int)) rfl rfl (fun hc4355 => ?_) (fun hc4355 => ?_)
   ·have hp4356 : (other.length : Int) ≠ (secret.length : Int) := by first | simpa using hc4355 | (have e := hc4355; simp at e; omega)
    refine cw_seq (?_)
    refine cw_region (by kernel_rfl) (wl_s (o_assign (Value.bool true) rfl (wl_nil (thenQ_n (?_)))))
    refine cw_ret (thenQ_r (end_r rfl (res1 rfl rfl rfl) (?_)))
    exact ⟨_, rfl, s4347.keep, rfl⟩
   ·have hp4357 : (other.length : Int) = (secret.length : Int) := by first | simpa using hc4355 | (have e := hc4355; simp at e; omega)
    refine cw_skip (thenQ_n (?_))
    refine cw_seq (?_)
    refine cw_region (by kernel_rfl) (wl_s (o_move (secret_v) rfl (wl_s (o_move (vI epoch) rfl (wl_s (o_move (vI threshold) rfl (wl_s (o_move (vI many) rfl (wl_s (o_move (coins_v) rfl (wl_s (o_callK (vs := [secret_v, vI epoch, vI threshold, vI many, coins_v]) enter_30 (c_split (O := [] ++ O) secret_v secret epoch threshold many coins_v coins w4346 h_secret h_coins s4347.lt) rfl s4347 fun v4358 w4359 s4360 m4361 k4362 r4363 => (?_)))))))))))))
    obtain ⟨x4364, rfl, hl4365⟩ := r4363
    have := hl4365.len_le
    have h_secret := h_secret.mv m4361
    have h_other := h_other.mv m4361
    refine wl_s (o_move (Value.tuple #[x4364, vI ((splitM secret epoch threshold many coins).2)]) rfl (wl_s (o_extract (x4364) rfl rfl (wl_s (o_extract (vI ((splitM secret epoch threshold many coins).2)) rfl rfl (wl_s (o_assign (x4364) rfl (wl_s (o_assign (vI ((splitM secret epoch threshold many coins).2)) rfl (wl_nil (thenQ_n (?_))))))))))))
    refine cw_seq (?_)
    refine cw_seq (?_)
    refine cw_region (by kernel_rfl) (wl_s (o_move (vI ((splitM secret epoch threshold many coins).2)) rfl (wl_s (o_neq .i64 ((splitM secret epoch threshold many coins).2) (0 : Int) rfl rfl (wl_nil (thenQ_n (?_)))))))
    refine cw_cond (((splitM secret epoch threshold many coins).2) != (0 : Int)) rfl rfl (fun hc4366 => ?_) (fun hc4366 => ?_)
    ·have hp4367 : (splitM secret epoch threshold many coins).2 ≠ (0 : Int) := by first | simpa using hc4366 | (have e := hc4366; simp at e; omega)
     refine cw_seq (?_)
     refine cw_region (by kernel_rfl) (wl_s (o_move (x4364) rfl (wl_s (o_lenR Try.underlying38 rfl hl4365 (wl_s (o_eql .i64 (((splitM secret epoch threshold many coins).1).length : Int) (0 : Int) rfl rfl (wl_s (o_assign (Value.bool ((((splitM secret epoch threshold many coins).1).length : Int) == (0 : Int))) rfl (wl_nil (thenQ_n (?_)))))))))))
     refine cw_ret (thenQ_r (end_r rfl (res1 rfl rfl rfl) (?_)))
     have e : true = ((((splitM secret epoch threshold many coins).1).length : Int) == (0 : Int)) := by first | rfl | (rw [hS.many mask other (by omega) (by omega)]; rfl) | exact ((same_iff _ _).2 (hS.explain mask (by omega) (by omega) (by omega)).2.2).symm | exact ((same_iff _ _).2 (hS.explain mask (by omega) (by omega) (by omega)).2.2) | (rw [splitM_bad rfl (by rw [← splitM_snd]; assumption)]; rfl)
     exact ⟨_, rfl, s4360.keep, by rw [e]; exact rfl⟩
    ·have hp4368 : (splitM secret epoch threshold many coins).2 = (0 : Int) := by first | simpa using hc4366 | (have e := hc4366; simp at e; omega)
     have hS := spl_split hp4368
     have hS2 := hS.num.n64
     have hSl := hS.len
     have hS8 := hS.num.m8
     have hxl := someM_le (splitM secret epoch threshold many coins).1 mask (splitM secret epoch threshold many coins).1.length
     refine cw_skip (thenQ_n (?_))
     refine cw_seq (?_)
     refine cw_region (by kernel_rfl) (wl_s (o_move (x4364) rfl (wl_s (o_move (vB mask) rfl (wl_s (o_callK (vs := [x4364, vB mask]) enter_41 (c_some (O := [] ++ O) x4364 ((splitM secret epoch threshold many coins).1) mask w4359 hl4365 s4360.lt) rfl s4360 fun v4369 w4370 s4371 m4372 k4373 r4374 => (?_)))))))
     obtain ⟨_, rfl, hl4375⟩ := r4374
     have := hl4375.len_le
     have h_secret := h_secret.mv m4372
     have h_other := h_other.mv m4372
     refine wl_s (o_assign (v4369) rfl (wl_nil (thenQ_n (?_))))
     refine cw_seq (?_)
     refine cw_seq (?_)
     refine cw_region (by kernel_rfl) (wl_s (o_move (v4369) rfl (wl_s (o_lenR Try.underlying38 rfl hl4375 (wl_s (o_eql .i64 ((someM ((splitM secret epoch threshold many coins).1) mask ((splitM secret epoch threshold many coins).1).length).length : Int) (0 : Int) rfl rfl (wl_nil (thenQ_n (?_)))))))))
     refine cw_cond (((someM ((splitM secret epoch threshold many coins).1) mask ((splitM secret epoch threshold many coins).1).length).length : Int) == (0 : Int)) rfl rfl (fun hc4376 => ?_) (fun hc4376 => ?_)
     ·have hp4377 : ((someM ((splitM secret epoch threshold many coins).1) mask ((splitM secret epoch threshold many coins).1).length).length : Int) = (0 : Int) := by first | simpa using hc4376 | (have e := hc4376; simp at e; omega)
      refine cw_seq (?_)
      refine cw_region (by kernel_rfl) (wl_s (o_assign (Value.bool true) rfl (wl_nil (thenQ_n (?_)))))
      refine cw_ret (thenQ_r (end_r rfl (res1 rfl rfl rfl) (?_)))
      exact ⟨_, rfl, s4371.keep, rfl⟩
     ·have hp4378 : ((someM ((splitM secret epoch threshold many coins).1) mask ((splitM secret epoch threshold many coins).1).length).length : Int) ≠ (0 : Int) := by first | simpa using hc4376 | (have e := hc4376; simp at e; omega)
      refine cw_skip (thenQ_n (?_))
      refine cw_seq (?_)
      refine cw_region (by kernel_rfl) (wl_s (o_move (v4369) rfl (wl_s (o_callK (vs := [v4369]) enter_35 (c_join (O := [] ++ O) v4369 (someM ((splitM secret epoch threshold many coins).1) mask ((splitM secret epoch threshold many coins).1).length) w4370 hl4375 s4371.lt) rfl s4371 fun v4379 w4380 s4381 m4382 k4383 r4384 => (?_)))))
      obtain ⟨x4385, rfl, hl4386⟩ := r4384
      have := hl4386.len_le
      have h_secret := h_secret.mv m4382
      have h_other := h_other.mv m4382
      have hl4375 := hl4375.mv m4382
      refine wl_s (o_move (Value.tuple #[x4385, vI ((joinM (someM ((splitM secret epoch threshold many coins).1) mask ((splitM secret epoch threshold many coins).1).length)).2)]) rfl (wl_s (o_extract (x4385) rfl rfl (wl_s (o_extract (vI ((joinM (someM ((splitM secret epoch threshold many coins).1) mask ((splitM secret epoch threshold many coins).1).length)).2)) rfl rfl (wl_s (o_assign (x4385) rfl (wl_s (o_assign (vI ((joinM (someM ((splitM secret epoch threshold many coins).1) mask ((splitM secret epoch threshold many coins).1).length)).2)) rfl (wl_nil (thenQ_n (?_))))))))))))
      refine cw_seq (?_)
      refine cw_region (by kernel_rfl) (wl_s (o_move (v4369) rfl (wl_s (o_move (other_v) rfl (wl_s (o_callK (vs := [v4369, other_v]) enter_37 (c_explain (O := [] ++ O) v4369 (someM ((splitM secret epoch threshold many coins).1) mask ((splitM secret epoch threshold many coins).1).length) other_v other w4380 hl4375 h_other s4381.lt) rfl s4381 fun v4387 w4388 s4389 m4390 k4391 r4392 => (?_)))))))
      obtain ⟨x4393, rfl, hl4394⟩ := r4392
      have := hl4394.len_le
      have h_secret := h_secret.mv m4390
      have h_other := h_other.mv m4390
      have hl4375 := hl4375.mv m4390
      have hl4386 := hl4386.mv m4390
      refine wl_s (o_move (Value.tuple #[x4393, vI ((explainM (someM ((splitM secret epoch threshold many coins).1) mask ((splitM secret epoch threshold many coins).1).length) other).2)]) rfl (wl_s (o_extract (x4393) rfl rfl (wl_s (o_extract (vI ((explainM (someM ((splitM secret epoch threshold many coins).1) mask ((splitM secret epoch threshold many coins).1).length) other).2)) rfl rfl (wl_s (o_assign (x4393) rfl (wl_s (o_assign (vI ((explainM (someM ((splitM secret epoch threshold many coins).1) mask ((splitM secret epoch threshold many coins).1).length) other).2)) rfl (wl_nil (thenQ_n (?_))))))))))))
      refine cw_seq (?_)
      refine cw_seq (?_)
      refine cw_region (by kernel_rfl) (wl_s (o_move (v4369) rfl (wl_s (o_lenR Try.underlying38 rfl hl4375 (wl_s (o_move (vI threshold) rfl (wl_s (o_geq .i64 ((someM ((splitM secret epoch threshold many coins).1) mask ((splitM secret epoch threshold many coins).1).length).length : Int) threshold rfl rfl (wl_nil (thenQ_n (?_)))))))))))
      refine cw_cond (decide (threshold ≤ ((someM ((splitM secret epoch threshold many coins).1) mask ((splitM secret epoch threshold many coins).1).length).length : Int))) rfl rfl (fun hc4395 => ?_) (fun hc4395 => ?_)
      ·have hp4396 : threshold ≤ ((someM ((splitM secret epoch threshold many coins).1) mask ((splitM secret epoch threshold many coins).1).length).length : Int) := by first | simpa using hc4395 | (have e := hc4395; simp at e; omega)
       refine cw_seq (?_)
       refine cw_region (by kernel_rfl) (wl_s (o_move (vI ((joinM (someM ((splitM secret epoch threshold many coins).1) mask ((splitM secret epoch threshold many coins).1).length)).2)) rfl (wl_s (o_eql .i64 ((joinM (someM ((splitM secret epoch threshold many coins).1) mask ((splitM secret epoch threshold many coins).1).length)).2) (0 : Int) rfl rfl (wl_s (o_move (Value.bool (((joinM (someM ((splitM secret epoch threshold many coins).1) mask ((splitM secret epoch threshold many coins).1).length)).2) == (0 : Int))) rfl (?_)))))))
       have hb4397 : (((joinM (someM ((splitM secret epoch threshold many coins).1) mask ((splitM secret epoch threshold many coins).1).length)).2) == (0 : Int)) = true := (by rw [hS.join mask (by omega)]; rfl)
       rw [hb4397]
       refine wl_t rfl (o_move (x4385) rfl (wl_t rfl (o_bytes Try.underlying28 Try.underlying5 Try.underlying9 rfl hl4386 (wl_t rfl (o_move (secret_v) rfl (wl_t rfl (o_bytes Try.underlying28 Try.underlying5 Try.underlying9 rfl h_secret (wl_t rfl (o_eqlS ((joinM (someM ((splitM secret epoch threshold many coins).1) mask ((splitM secret epoch threshold many coins).1).length)).1) secret rfl rfl (wl_s (o_pickT (Value.bool (((joinM (someM ((splitM secret epoch threshold many coins).1) mask ((splitM secret epoch threshold many coins).1).length)).1) == secret)) rfl rfl (wl_s (o_move (Value.bool (((joinM (someM ((splitM secret epoch threshold many coins).1) mask ((splitM secret epoch threshold many coins).1).length)).1) == secret)) rfl (?_))))))))))))))
       have hb4398 : (((joinM (someM ((splitM secret epoch threshold many coins).1) mask ((splitM secret epoch threshold many coins).1).length)).1) == secret) = true := (by rw [hS.join mask (by omega)]; simp)
       rw [hb4398]
       refine wl_t rfl (o_move (vI ((explainM (someM ((splitM secret epoch threshold many coins).1) mask ((splitM secret epoch threshold many coins).1).length) other).2)) rfl (wl_t rfl (o_eql .i64 ((explainM (someM ((splitM secret epoch threshold many coins).1) mask ((splitM secret epoch threshold many coins).1).length) other).2) (80 : Int) rfl rfl (wl_s (o_pickT (Value.bool (((explainM (someM ((splitM secret epoch threshold many coins).1) mask ((splitM secret epoch threshold many coins).1).length) other).2) == (80 : Int))) rfl rfl (wl_s (o_assign (Value.bool (((explainM (someM ((splitM secret epoch threshold many coins).1) mask ((splitM secret epoch threshold many coins).1).length) other).2) == (80 : Int))) rfl (wl_nil (thenQ_n (?_))))))))))
       refine cw_ret (thenQ_r (end_r rfl (res1 rfl rfl rfl) (?_)))
       have e : true = (((explainM (someM ((splitM secret epoch threshold many coins).1) mask ((splitM secret epoch threshold many coins).1).length) other).2) == (80 : Int)) := by first | rfl | (rw [hS.many mask other (by omega) (by omega)]; rfl) | exact ((same_iff _ _).2 (hS.explain mask (by omega) (by omega) (by omega)).2.2).symm | exact ((same_iff _ _).2 (hS.explain mask (by omega) (by omega) (by omega)).2.2) | (rw [splitM_bad rfl (by rw [← splitM_snd]; assumption)]; rfl)
       exact ⟨_, rfl, s4389.keep, by rw [e]; exact rfl⟩
      ·have hp4399 : ((someM ((splitM secret epoch threshold many coins).1) mask ((splitM secret epoch threshold many coins).1).length).length : Int) < threshold := by first | simpa using hc4395 | (have e := hc4395; simp at e; omega)
       refine cw_skip (thenQ_n (?_))
       refine cw_seq (?_)
       refine cw_region (by kernel_rfl) (wl_s (o_move (other_v) rfl (wl_s (o_move (vI epoch) rfl (wl_s (o_move (vI threshold) rfl (wl_s (o_move (vI many) rfl (wl_s (o_move (x4393) rfl (wl_s (o_callK (vs := [other_v, vI epoch, vI threshold, vI many, x4393]) enter_30 (c_split (O := [] ++ O) other_v other epoch threshold many x4393 ((explainM (someM ((splitM secret epoch threshold many coins).1) mask ((splitM secret epoch threshold many coins).1).length) other).1) w4388 h_other hl4394 s4389.lt) rfl s4389 fun v4400 w4401 s4402 m4403 k4404 r4405 => (?_)))))))))))))
       obtain ⟨x4406, rfl, hl4407⟩ := r4405
       have := hl4407.len_le
       have hl4375 := hl4375.mv m4403
       refine wl_s (o_move (Value.tuple #[x4406, vI ((splitM other epoch threshold many ((explainM (someM ((splitM secret epoch threshold many coins).1) mask ((splitM secret epoch threshold many coins).1).length) other).1)).2)]) rfl (wl_s (o_extract (x4406) rfl rfl (wl_s (o_extract (vI ((splitM other epoch threshold many ((explainM (someM ((splitM secret epoch threshold many coins).1) mask ((splitM secret epoch threshold many coins).1).length) other).1)).2)) rfl rfl (wl_s (o_assign (x4406) rfl (wl_s (o_assign (vI ((splitM other epoch threshold many ((explainM (someM ((splitM secret epoch threshold many coins).1) mask ((splitM secret epoch threshold many coins).1).length) other).1)).2)) rfl (wl_nil (thenQ_n (?_))))))))))))
       refine cw_seq (?_)
       refine cw_region (by kernel_rfl) (wl_s (o_move (vI ((joinM (someM ((splitM secret epoch threshold many coins).1) mask ((splitM secret epoch threshold many coins).1).length)).2)) rfl (wl_s (o_eql .i64 ((joinM (someM ((splitM secret epoch threshold many coins).1) mask ((splitM secret epoch threshold many coins).1).length)).2) (80 : Int) rfl rfl (wl_s (o_move (Value.bool (((joinM (someM ((splitM secret epoch threshold many coins).1) mask ((splitM secret epoch threshold many coins).1).length)).2) == (80 : Int))) rfl (?_)))))))
       have hb4408 : (((joinM (someM ((splitM secret epoch threshold many coins).1) mask ((splitM secret epoch threshold many coins).1).length)).2) == (80 : Int)) = true := (by rw [hS.few mask (by omega) (by omega)]; rfl)
       rw [hb4408]
       refine wl_t rfl (o_move (vI ((explainM (someM ((splitM secret epoch threshold many coins).1) mask ((splitM secret epoch threshold many coins).1).length) other).2)) rfl (wl_t rfl (o_eql .i64 ((explainM (someM ((splitM secret epoch threshold many coins).1) mask ((splitM secret epoch threshold many coins).1).length) other).2) (0 : Int) rfl rfl (wl_s (o_pickT (Value.bool (((explainM (someM ((splitM secret epoch threshold many coins).1) mask ((splitM secret epoch threshold many coins).1).length) other).2) == (0 : Int))) rfl rfl (wl_s (o_move (Value.bool (((explainM (someM ((splitM secret epoch threshold many coins).1) mask ((splitM secret epoch threshold many coins).1).length) other).2) == (0 : Int))) rfl (?_))))))))
       have hb4409 : (((explainM (someM ((splitM secret epoch threshold many coins).1) mask ((splitM secret epoch threshold many coins).1).length) other).2) == (0 : Int)) = true := (by rw [(hS.explain mask (by omega) (by omega) (by omega)).1]; rfl)
       rw [hb4409]
       refine wl_t rfl (o_move (vI ((splitM other epoch threshold many ((explainM (someM ((splitM secret epoch threshold many coins).1) mask ((splitM secret epoch threshold many coins).1).length) other).1)).2)) rfl (wl_t rfl (o_eql .i64 ((splitM other epoch threshold many ((explainM (someM ((splitM secret epoch threshold many coins).1) mask ((splitM secret epoch threshold many coins).1).length) other).1)).2) (0 : Int) rfl rfl (wl_s (o_pickT (Value.bool (((splitM other epoch threshold many ((explainM (someM ((splitM secret epoch threshold many coins).1) mask ((splitM secret epoch threshold many coins).1).length) other).1)).2) == (0 : Int))) rfl rfl (wl_s (o_move (Value.bool (((splitM other epoch threshold many ((explainM (someM ((splitM secret epoch threshold many coins).1) mask ((splitM secret epoch threshold many coins).1).length) other).1)).2) == (0 : Int))) rfl (?_))))))))
       have hb4410 : (((splitM other epoch threshold many ((explainM (someM ((splitM secret epoch threshold many coins).1) mask ((splitM secret epoch threshold many coins).1).length) other).1)).2) == (0 : Int)) = true := (by rw [(hS.explain mask (by omega) (by omega) (by omega)).2.1]; rfl)
       rw [hb4410]
       refine wl_t rfl (o_move (x4406) rfl (wl_t rfl (o_move (vB mask) rfl (wl_t rfl (o_callK (vs := [x4406, vB mask]) enter_41 (c_some (O := [] ++ O) x4406 ((splitM other epoch threshold many ((explainM (someM ((splitM secret epoch threshold many coins).1) mask ((splitM secret epoch threshold many coins).1).length) other).1)).1) mask w4401 hl4407 s4402.lt) rfl s4402 fun v4411 w4412 s4413 m4414 k4415 r4416 => (?_))))))
       obtain ⟨_, rfl, hl4417⟩ := r4416
       have := hl4417.len_le
       have hl4375 := hl4375.mv m4414
       refine wl_t rfl (o_move (v4369) rfl (wl_t rfl (o_callK (vs := [v4411, v4369]) enter_34 (c_same8 (O := [] ++ O) v4411 (someM ((splitM other epoch threshold many ((explainM (someM ((splitM secret epoch threshold many coins).1) mask ((splitM secret epoch threshold many coins).1).length) other).1)).1) mask ((splitM other epoch threshold many ((explainM (someM ((splitM secret epoch threshold many coins).1) mask ((splitM secret epoch threshold many coins).1).length) other).1)).1).length) v4369 (someM ((splitM secret epoch threshold many coins).1) mask ((splitM secret epoch threshold many coins).1).length) w4412 hl4417 hl4375 s4413.lt) rfl s4413 fun v4418 w4419 s4420 m4421 k4422 r4423 => (?_))))
       obtain rfl := r4423
       refine wl_s (o_pickT (Value.bool (sameM (someM ((splitM other epoch threshold many ((explainM (someM ((splitM secret epoch threshold many coins).1) mask ((splitM secret epoch threshold many coins).1).length) other).1)).1) mask ((splitM other epoch threshold many ((explainM (someM ((splitM secret epoch threshold many coins).1) mask ((splitM secret epoch threshold many coins).1).length) other).1)).1).length) (someM ((splitM secret epoch threshold many coins).1) mask ((splitM secret epoch threshold many coins).1).length))) rfl rfl (wl_s (o_assign (Value.bool (sameM (someM ((splitM other epoch threshold many ((explainM (someM ((splitM secret epoch threshold many coins).1) mask ((splitM secret epoch threshold many coins).1).length) other).1)).1) mask ((splitM other epoch threshold many ((explainM (someM ((splitM secret epoch threshold many coins).1) mask ((splitM secret epoch threshold many coins).1).length) other).1)).1).length) (someM ((splitM secret epoch threshold many coins).1) mask ((splitM secret epoch threshold many coins).1).length))) rfl (wl_nil (thenQ_n (?_))))))
       refine cw_ret (end_r rfl (res1 rfl rfl rfl) (?_))
       have e : true = (sameM (someM ((splitM other epoch threshold many ((explainM (someM ((splitM secret epoch threshold many coins).1) mask ((splitM secret epoch threshold many coins).1).length) other).1)).1) mask ((splitM other epoch threshold many ((explainM (someM ((splitM secret epoch threshold many coins).1) mask ((splitM secret epoch threshold many coins).1).length) other).1)).1).length) (someM ((splitM secret epoch threshold many coins).1) mask ((splitM secret epoch threshold many coins).1).length)) := by first | rfl | (rw [hS.many mask other (by omega) (by omega)]; rfl) | exact ((same_iff _ _).2 (hS.explain mask (by omega) (by omega) (by omega)).2.2).symm | exact ((same_iff _ _).2 (hS.explain mask (by omega) (by omega) (by omega)).2.2) | (rw [splitM_bad rfl (by rw [← splitM_snd]; assumption)]; rfl)
       exact ⟨_, rfl, s4420.keep, by rw [e]; exact rfl⟩
  ·have hp4424 : (200 : Int) < (coins.length : Int) := by first | simpa using hb4353 | (have e := hb4353; simp at e; omega)
   refine wl_k rfl (wl_k rfl (wl_k rfl (wl_k rfl (wl_k rfl (wl_s (o_pickT (Value.bool true) rfl rfl (wl_nil (thenQ_n (?_)))))))))
   refine cw_cond true rfl rfl (fun _ => ?_) (fun h => by cases h)
   refine cw_seq (?_)
   refine cw_region (by kernel_rfl) (wl_s (o_assign (Value.bool true) rfl (wl_nil (thenQ_n (?_)))))
   refine cw_ret (thenQ_r (end_r rfl (res1 rfl rfl rfl) (?_)))
   exact ⟨_, rfl, s4347.keep, rfl⟩
 ·have hp4425 : (20 : Int) < (secret.length : Int) := by first | simpa using hb4351 | (have e := hb4351; simp at e; omega)
  refine wl_k rfl (wl_k rfl (wl_k rfl (wl_s (o_pickT (Value.bool true) rfl rfl (wl_s (o_move (Value.bool true) rfl (wl_k rfl (wl_k rfl (wl_k rfl (wl_k rfl (wl_k rfl (wl_s (o_pickT (Value.bool true) rfl rfl (wl_nil (thenQ_n (?_))))))))))))))))
  refine cw_cond true rfl rfl (fun _ => ?_) (fun h => by cases h)
  refine cw_seq (?_)
  refine cw_region (by kernel_rfl) (wl_s (o_assign (Value.bool true) rfl (wl_nil (thenQ_n (?_)))))
  refine cw_ret (thenQ_r (end_r rfl (res1 rfl rfl rfl) (?_)))
  exact ⟨_, rfl, s4347.keep, rfl⟩

end Go.Proofs.Yteajcgfcnbdmgaa
