/- Walks, printed by gen.py. -/
import Derived.Test.YteajcgfcnbdmgaaWbB
set_option linter.unusedSimpArgs false
set_option linter.unusedVariables false
namespace Go.Proofs.Yteajcgfcnbdmgaa
open Go.Fw Go.RowKit

set_option maxHeartbeats 4000000 in
set_option maxRecDepth 100000 in
theorem c_refSplit {O : List Nat} (secret_v : Value) (secret : List UInt8) (epoch : Int) (threshold : Int) (many : Int) (coins_v : Value) (coins : List UInt8) (w : World) (h_secret : RdL Enc.u8 w O secret_v secret) (h_coins : RdL Enc.u8 w O coins_v coins) (hO : ∀ b ∈ O, b < w.heap.size) : CallsK Try.prog 31 [secret_v, vI epoch, vI threshold, vI many, coins_v] w (fun v w' => ∃ (x0 : Value), v = .tuple #[x0, vI ((refSplitM secret epoch threshold many coins).2)] ∧ RdL Enc.share w' (O) x0 ((refSplitM secret epoch threshold many coins).1)) :=  by
 have lim_secret := h_secret.len_le
 have h_secret : RdL Enc.u8 w ([] ++ O) secret_v secret := h_secret
 have lim_coins := h_coins.len_le
 have h_coins : RdL Enc.u8 w ([] ++ O) coins_v coins := h_coins
 have s0 : St w O w [] := St.start hO
 refine callsK_of 92 Try.func31 rfl rfl (of_decide_eq_true rfl) (fun F0 => ?_)
 refine cw_seq (?_)
 refine cw_region (by kernel_rfl) (wl_s (o_assign (Value.slice none 0 0) rfl (wl_s (o_assign (vI (0 : Int)) rfl (wl_nil (thenQ_n (?_)))))))
 refine cw_seq (?_)
 refine cw_seq (?_)
 refine cw_region (by kernel_rfl) (wl_s (o_move (secret_v) rfl (wl_s (o_lenR Try.underlying28 rfl h_secret (wl_s (o_gtr .i64 (secret.length : Int) (64 : Int) rfl rfl (wl_nil (thenQ_n (?_)))))))))
 refine cw_cond (decide ((64 : Int) < (secret.length : Int))) rfl rfl (fun hc2575 => ?_) (fun hc2575 => ?_)
 ·have hp2576 : (64 : Int) < (secret.length : Int) := by first | simpa using hc2575 | (have e := hc2575; simp at e; omega)
  refine cw_seq (?_)
  refine cw_region (by kernel_rfl) (wl_s (o_assign (Value.slice none 0 0) rfl (wl_s (o_assign (vI (1 : Int)) rfl (wl_nil (thenQ_n (?_)))))))
  refine cw_ret (thenQ_r (end_r rfl (res2 rfl rfl rfl rfl) (?_)))
  have e : (refSplitM secret epoch threshold many coins) = ([], (1 : Int)) := by first | exact refSplitM_ok (by unfold splitBad; ((repeat (first | (refine (if_pos ?_).trans ?_; solve | omega | assumption | (simp only [dbs]; first | done | omega | assumption) | (simp only [*, dbs]; done)) | (refine (if_neg ?_).trans ?_; solve | omega | assumption | (simp only [dbs]; first | done | omega | assumption) | (simp only [*, dbs]; done)))); rfl)) rfl | exact refSplitM_bad (by unfold splitBad; ((repeat (first | (refine (if_pos ?_).trans ?_; solve | omega | assumption | (simp only [dbs]; first | done | omega | assumption) | (simp only [*, dbs]; done)) | (refine (if_neg ?_).trans ?_; solve | omega | assumption | (simp only [dbs]; first | done | omega | assumption) | (simp only [*, dbs]; done)))); rfl)) (by decide)
  exact ⟨_, rfl, s0.keep, by rw [e]; exact ⟨.slice none 0 0, rfl, RdL.nil _ _ _⟩⟩
 ·have hp2577 : (secret.length : Int) ≤ (64 : Int) := by first | simpa using hc2575 | (have e := hc2575; simp at e; omega)
  refine cw_skip (thenQ_n (?_))
  refine cw_seq (?_)
  refine cw_seq (?_)
  refine cw_region (by kernel_rfl) (wl_s (o_move (vI threshold) rfl (wl_s (o_lss .i64 threshold (1 : Int) rfl rfl (wl_s (o_move (Value.bool (decide (threshold < (1 : Int)))) rfl (?_)))))))
  cases hb2578 : (decide (threshold < (1 : Int)))
  ·have hp2579 : (1 : Int) ≤ threshold := by first | simpa using hb2578 | (have e := hb2578; simp at e; omega)
   refine wl_t rfl (o_move (vI threshold) rfl (wl_t rfl (o_move (vI many) rfl (wl_t rfl (o_gtr .i64 threshold many rfl rfl (wl_s (o_pickF (Value.bool (decide (many < threshold))) rfl rfl (wl_s (o_move (Value.bool (decide (many < threshold))) rfl (?_))))))))))
   cases hb2580 : (decide (many < threshold))
   ·have hp2581 : threshold ≤ many := by first | simpa using hb2580 | (have e := hb2580; simp at e; omega)
    refine wl_t rfl (o_move (vI many) rfl (wl_t rfl (o_gtr .i64 many (8 : Int) rfl rfl (wl_s (o_pickF (Value.bool (decide ((8 : Int) < many))) rfl rfl (wl_nil (thenQ_n (?_))))))))
    refine cw_cond (decide ((8 : Int) < many)) rfl rfl (fun hc2582 => ?_) (fun hc2582 => ?_)
    ·have hp2583 : (8 : Int) < many := by first | simpa using hc2582 | (have e := hc2582; simp at e; omega)
     refine cw_seq (?_)
     refine cw_region (by kernel_rfl) (wl_s (o_assign (Value.slice none 0 0) rfl (wl_s (o_assign (vI (80 : Int)) rfl (wl_nil (thenQ_n (?_)))))))
     refine cw_ret (thenQ_r (end_r rfl (res2 rfl rfl rfl rfl) (?_)))
     have e : (refSplitM secret epoch threshold many coins) = ([], (80 : Int)) := by first | exact refSplitM_ok (by unfold splitBad; ((repeat (first | (refine (if_pos ?_).trans ?_; solve | omega | assumption | (simp only [dbs]; first | done | omega | assumption) | (simp only [*, dbs]; done)) | (refine (if_neg ?_).trans ?_; solve | omega | assumption | (simp only [dbs]; first | done | omega | assumption) | (simp only [*, dbs]; done)))); rfl)) rfl | exact refSplitM_bad (by unfold splitBad; ((repeat (first | (refine (if_pos ?_).trans ?_; solve | omega | assumption | (simp only [dbs]; first | done | omega | assumption) | (simp only [*, dbs]; done)) | (refine (if_neg ?_).trans ?_; solve | omega | assumption | (simp only [dbs]; first | done | omega | assumption) | (simp only [*, dbs]; done)))); rfl)) (by decide)
     exact ⟨_, rfl, s0.keep, by rw [e]; exact ⟨.slice none 0 0, rfl, RdL.nil _ _ _⟩⟩
    ·have hp2584 : many ≤ (8 : Int) := by first | simpa using hc2582 | (have e := hc2582; simp at e; omega)
     refine cw_skip (thenQ_n (?_))
     refine cw_seq (?_)
     refine cw_seq (?_)
     refine cw_region (by kernel_rfl) (wl_s (o_move (vI epoch) rfl (wl_s (o_lss .i64 epoch (0 : Int) rfl rfl (wl_s (o_move (Value.bool (decide (epoch < (0 : Int)))) rfl (?_)))))))
     cases hb2585 : (decide (epoch < (0 : Int)))
     ·have hp2586 : (0 : Int) ≤ epoch := by first | simpa using hb2585 | (have e := hb2585; simp at e; omega)
      refine wl_t rfl (o_move (vI epoch) rfl (wl_t rfl (o_gtr .i64 epoch (1048576 : Int) rfl rfl (wl_s (o_pickF (Value.bool (decide ((1048576 : Int) < epoch))) rfl rfl (wl_nil (thenQ_n (?_))))))))
      refine cw_cond (decide ((1048576 : Int) < epoch)) rfl rfl (fun hc2587 => ?_) (fun hc2587 => ?_)
      ·have hp2588 : (1048576 : Int) < epoch := by first | simpa using hc2587 | (have e := hc2587; simp at e; omega)
       refine cw_seq (?_)
       refine cw_region (by kernel_rfl) (wl_s (o_assign (Value.slice none 0 0) rfl (wl_s (o_assign (vI (81 : Int)) rfl (wl_nil (thenQ_n (?_)))))))
       refine cw_ret (thenQ_r (end_r rfl (res2 rfl rfl rfl rfl) (?_)))
       have e : (refSplitM secret epoch threshold many coins) = ([], (81 : Int)) := by first | exact refSplitM_ok (by unfold splitBad; ((repeat (first | (refine (if_pos ?_).trans ?_; solve | omega | assumption | (simp only [dbs]; first | done | omega | assumption) | (simp only [*, dbs]; done)) | (refine (if_neg ?_).trans ?_; solve | omega | assumption | (simp only [dbs]; first | done | omega | assumption) | (simp only [*, dbs]; done)))); rfl)) rfl | exact refSplitM_bad (by unfold splitBad; ((repeat (first | (refine (if_pos ?_).trans ?_; solve | omega | assumption | (simp only [dbs]; first | done | omega | assumption) | (simp only [*, dbs]; done)) | (refine (if_neg ?_).trans ?_; solve | omega | assumption | (simp only [dbs]; first | done | omega | assumption) | (simp only [*, dbs]; done)))); rfl)) (by decide)
       exact ⟨_, rfl, s0.keep, by rw [e]; exact ⟨.slice none 0 0, rfl, RdL.nil _ _ _⟩⟩
      ·have hp2589 : epoch ≤ (1048576 : Int) := by first | simpa using hc2587 | (have e := hc2587; simp at e; omega)
       refine cw_skip (thenQ_n (?_))
       refine cw_seq (?_)
       refine cw_seq (?_)
       refine cw_region (by kernel_rfl) (wl_s (o_move (coins_v) rfl (wl_s (o_lenR Try.underlying28 rfl h_coins (wl_s (o_move (secret_v) rfl (wl_s (o_lenR Try.underlying28 rfl h_secret (wl_s (o_move (vI threshold) rfl (wl_s (o_sub .i64 threshold (1 : Int) (threshold - (1 : Int)) rfl rfl (w64 (by omega) (by omega)) (wl_s (o_mul .i64 (secret.length : Int) (threshold - (1 : Int)) ((secret.length : Int) * (threshold - (1 : Int))) rfl rfl (w64 (mulb (by omega) (by omega) (by omega) (by omega)) rfl) (wl_s (o_neq .i64 (coins.length : Int) ((secret.length : Int) * (threshold - (1 : Int))) rfl rfl (wl_nil (thenQ_n (?_)))))))))))))))))))
       refine cw_cond ((coins.length : Int) != ((secret.length : Int) * (threshold - (1 : Int)))) rfl rfl (fun hc2590 => ?_) (fun hc2590 => ?_)
       ·have hp2591 : (coins.length : Int) ≠ (secret.length : Int) * (threshold - (1 : Int)) := by first | simpa using hc2590 | (have e := hc2590; simp at e; omega)
        refine cw_seq (?_)
        refine cw_region (by kernel_rfl) (wl_s (o_assign (Value.slice none 0 0) rfl (wl_s (o_assign (vI (1 : Int)) rfl (wl_nil (thenQ_n (?_)))))))
        refine cw_ret (thenQ_r (end_r rfl (res2 rfl rfl rfl rfl) (?_)))
        have e : (refSplitM secret epoch threshold many coins) = ([], (1 : Int)) := by first | exact refSplitM_ok (by unfold splitBad; ((repeat (first | (refine (if_pos ?_).trans ?_; solve | omega | assumption | (simp only [dbs]; first | done | omega | assumption) | (simp only [*, dbs]; done)) | (refine (if_neg ?_).trans ?_; solve | omega | assumption | (simp only [dbs]; first | done | omega | assumption) | (simp only [*, dbs]; done)))); rfl)) rfl | exact refSplitM_bad (by unfold splitBad; ((repeat (first | (refine (if_pos ?_).trans ?_; solve | omega | assumption | (simp only [dbs]; first | done | omega | assumption) | (simp only [*, dbs]; done)) | (refine (if_neg ?_).trans ?_; solve | omega | assumption | (simp only [dbs]; first | done | omega | assumption) | (simp only [*, dbs]; done)))); rfl)) (by decide)
        exact ⟨_, rfl, s0.keep, by rw [e]; exact ⟨.slice none 0 0, rfl, RdL.nil _ _ _⟩⟩
       ·have hp2592 : (coins.length : Int) = (secret.length : Int) * (threshold - (1 : Int)) := by first | simpa using hc2590 | (have e := hc2590; simp at e; omega)
        have hcl : (coins.length : Int) = (secret.length : Int) * (threshold - 1) := hp2592
        have hpl := polyL (n := secret.length) (by omega) (by omega) (by omega) hcl
        refine cw_skip (thenQ_n (?_))
        refine cw_seq (?_)
        refine cw_region (by kernel_rfl) (wl_s (o_assign (.slice none 0 0) rfl (wl_nil (thenQ_n (?_)))))
        refine cw_seq (?_)
        refine cw_seq (?_)
        refine cw_region (by kernel_rfl) (wl_s (o_assign (vI (1 : Int)) rfl (wl_nil (thenQ_n (?_)))))
        refine cw_block (?_)
        refine cw_loop (fun mI FI wI => ∃ (i : Nat) (vo0_12 : Value) (B : List Nat), i ≤ many.toNat ∧ mI = many.toNat - i ∧ (∃ F1, FI = upds F1 [(0, secret_v), (1, vI epoch), (2, vI threshold), (3, vI many), (4, coins_v), (12, vo0_12), (13, vI ((i + 1 : Nat) : Int)), (92, undef)]) ∧ St w O wI B ∧ Own Enc.share 53 w.heap.size (B ++ O) wI vo0_12 ((refSplitL secret epoch threshold many coins i)) ∧ (∀ b, vo0_12.ownBlock = some b → b ∈ B) ∧ RdL Enc.u8 wI (B ++ O) (secret_v) (secret) ∧ RdL Enc.u8 wI (B ++ O) (coins_v) (coins)) (many.toNat - (0)) ?_ ?_
        ·exact ⟨(0), (.slice none 0 0), [], (by first | omega | (simp; done) | (simp; omega) | simp_all), rfl, ⟨_, upds_self _ ⟨rfl, rfl, rfl, rfl, rfl, rfl, (by first | rfl | exact congrArg (Value.int _) (by first | omega | (simp))), rfl, trivial⟩⟩, s0, (by rw [show (refSplitL secret epoch threshold many coins (0)) = [] from rfl]; exact (Own.nil Enc.share 53 _ _ _)), (by intro b hb; simp [Value.ownBlock] at hb), h_secret, h_coins⟩
        ·intro ml0 F wl0 hI
         clear h_secret h_coins
         obtain ⟨i, vo0_12, Bl0, hr0_0, hm0, ⟨Fl0, rfl⟩, sl0, ho0_12, hB0_12, h_secret, h_coins⟩ := hI
         refine cw_seq (?_)
         refine cw_seq (?_)
         refine cw_region (by kernel_rfl) (wl_s (o_move (vI ((i + 1 : Nat) : Int)) rfl (wl_s (o_move (vI many) rfl (wl_s (o_leq .i64 ((i + 1 : Nat) : Int) many rfl rfl (wl_nil (thenQ_n (?_)))))))))
         refine cw_cond (decide (((i + 1 : Nat) : Int) ≤ many)) rfl rfl (fun hc2593 => ?_) (fun hc2593 => ?_)
         ·have hp2594 : ((i + 1 : Nat) : Int) ≤ many := by first | simpa using hc2593 | (have e := hc2593; simp at e; omega)
          refine cw_skip (thenQ_n (?_))
          refine cw_seq (?_)
          refine cw_block (?_)
          refine cw_seq (?_)
          refine cw_region (by kernel_rfl) (wl_s (o_move (vI epoch) rfl (wl_s (o_move (vI ((i + 1 : Nat) : Int)) rfl (wl_s (o_move (vI threshold) rfl (wl_s (o_move (vI many) rfl (wl_s (o_build (l := [(0, .tmp 50), (1, .tmp 51), (2, .tmp 52), (3, .tmp 53)]) pl_53 z_53 rfl [(0, vI epoch, [vI epoch]), (1, vI ((i + 1 : Nat) : Int), [vI ((i + 1 : Nat) : Int)]), (2, vI threshold, [vI threshold]), (3, vI many, [vI many])] [vI epoch, vI ((i + 1 : Nat) : Int), vI threshold, vI many, Value.slice none 0 0] rfl ⟨_, rfl, rfl, (of_decide_eq_true rfl), ⟨_, rfl, rfl, (of_decide_eq_true rfl), ⟨_, rfl, rfl, (of_decide_eq_true rfl), ⟨_, rfl, rfl, (of_decide_eq_true rfl), rfl⟩⟩⟩⟩ (wl_s (o_alloc [vI (0 : Int), vI (0 : Int), vI (0 : Int), vI (0 : Int), Value.slice none 0 0] z_53 rfl sl0 fun b2595 w2596 e2601 s2597 m2598 k2599 bx2600 => (?_)))))))))))))
          have ne2602 : ∀ b, vo0_12.ownBlock = some b → b ≠ b2595 := fun b hb => by have := (ho0_12.lt b hb).2; omega
          have hB0_12 : ∀ b, vo0_12.ownBlock = some b → b ∈ (b2595 :: Bl0) := fun b hb => List.mem_cons_of_mem _ (hB0_12 b hb)
          clear e2601
          have h_secret := h_secret.mv m2598
          have h_coins := h_coins.mv m2598
          have ho0_12 := ho0_12.mv m2598 k2599 (by simp)
          refine wl_n (o_store (vs := [vI epoch, vI ((i + 1 : Nat) : Int), vI threshold, vI many, Value.slice none 0 0]) (.agg #[vI epoch, vI ((i + 1 : Nat) : Int), vI threshold, vI many, Value.slice none 0 0]) rfl rfl rfl s_53 (fun u hu => by simp only [List.mem_cons, List.not_mem_nil, or_false] at hu; rcases hu with rfl | rfl | rfl | rfl | rfl <;> first | rfl) (by first | assumption | (repeat (first | exact List.mem_cons_self | assumption | apply List.mem_cons_of_mem))) bx2600 (of_decide_eq_true rfl) s2597 fun w2603 s2604 m2605 k2606 bx2607 => (?_))
          have h_secret := h_secret.mv m2605
          have h_coins := h_coins.mv m2605
          have ho0_12 := ho0_12.mv m2605 k2606 (fun b hb => by simp only [List.mem_singleton]; exact ne2602 b hb)
          refine wl_nil (thenQ_n (?_))
          refine cw_seq (?_)
          refine cw_seq (?_)
          refine cw_region (by kernel_rfl) (wl_s (o_assign (vI (0 : Int)) rfl (wl_nil (thenQ_n (?_)))))
          refine cw_block (?_)
          refine cw_loop (fun mI FI wI => ∃ (k : Nat) (vo1_b2595_4 : Value) (B : List Nat), k ≤ secret.length ∧ mI = secret.length - k ∧ (∃ F1, FI = upds F1 [(0, secret_v), (1, vI epoch), (2, vI threshold), (3, vI many), (4, coins_v), (12, vo0_12), (13, vI ((i + 1 : Nat) : Int)), (14, Value.pointer (some ⟨b2595, 0, none⟩)), (15, vI ((k : Nat) : Int)), (92, undef)]) ∧ St w O wI B ∧ Own Enc.u8 5 w.heap.size (B ++ O) wI vo1_b2595_4 ((tab k fun q => refEval (polyM secret coins threshold q) (u8of ((i + 1 : Nat) : Int)))) ∧ (∀ b, vo1_b2595_4.ownBlock = some b → b ∈ B) ∧ RdL Enc.u8 wI (B ++ O) (secret_v) (secret) ∧ RdL Enc.u8 wI (B ++ O) (coins_v) (coins) ∧ Own Enc.share 53 w.heap.size (B ++ O) wI vo0_12 ((refSplitL secret epoch threshold many coins i)) ∧ (∀ b, vo0_12.ownBlock = some b → b ∈ B) ∧ Box wI b2595 53 [vI epoch, vI ((i + 1 : Nat) : Int), vI threshold, vI many, vo1_b2595_4] ∧ b2595 ∈ B ∧ (∀ b, vo1_b2595_4.ownBlock = some b → b ≠ b2595) ∧ (∀ b, vo1_b2595_4.ownBlock = some b → vo0_12.ownBlock ≠ some b) ∧ (∀ b, vo0_12.ownBlock = some b → vo1_b2595_4.ownBlock ≠ some b)) (secret.length - (0)) ?_ ?_
          ·exact ⟨(0), (.slice none 0 0), (b2595 :: Bl0), (by first | omega | (simp; done) | (simp; omega) | simp_all), rfl, ⟨_, upds_self _ ⟨rfl, rfl, rfl, rfl, rfl, rfl, rfl, rfl, (by first | rfl | exact congrArg (Value.int _) (by first | omega | (simp))), rfl, trivial⟩⟩, s2604, (by rw [show (tab (0) fun q => refEval (polyM secret coins threshold q) (u8of ((i + 1 : Nat) : Int))) = [] from rfl]; exact (Own.nil Enc.u8 5 _ _ _)), (by intro b hb; simp [Value.ownBlock] at hb), h_secret, h_coins, ho0_12, hB0_12, bx2607, (by first | assumption | (repeat (first | exact List.mem_cons_self | assumption | apply List.mem_cons_of_mem)) | (apply_assumption; assumption)), (fun b hb => by first | (simp [Value.ownBlock] at hb; done) | (intro e; simp_all; done)), (fun b hb => by first | (simp [Value.ownBlock] at hb; done) | (simp [Value.ownBlock]; done) | (intro e; simp_all; done)), (fun b hb => by first | (simp [Value.ownBlock] at hb; done) | (simp [Value.ownBlock]; done) | (intro e; simp_all; done))⟩
          ·intro ml1 F wl1 hI
           clear h_secret h_coins ho0_12 hB0_12
           obtain ⟨k, vo1_b2595_4, Bl1, hr1_0, hm1, ⟨Fl1, rfl⟩, sl1, ho1_b2595_4, hB1_b2595_4, h_secret, h_coins, ho0_12, hB0_12, hbs_b2595, hin_b2595, nb1_b2595_4_b2595, no1_b2595_4_vo0_12, np1_b2595_4_vo0_12⟩ := hI
           refine cw_seq (?_)
           refine cw_seq (?_)
           refine cw_region (by kernel_rfl) (wl_s (o_move (vI ((k : Nat) : Int)) rfl (wl_s (o_move (secret_v) rfl (wl_s (o_lenR Try.underlying28 rfl h_secret (wl_s (o_lss .i64 ((k : Nat) : Int) (secret.length : Int) rfl rfl (wl_nil (thenQ_n (?_)))))))))))
           refine cw_cond (decide (((k : Nat) : Int) < (secret.length : Int))) rfl rfl (fun hc2608 => ?_) (fun hc2608 => ?_)
           ·have hp2609 : ((k : Nat) : Int) < (secret.length : Int) := by first | simpa using hc2608 | (have e := hc2608; simp at e; omega)
            refine cw_skip (thenQ_n (?_))
            refine cw_seq (?_)
            refine cw_block (?_)
            refine cw_seq (?_)
            refine cw_draw' 16 _ _ [fun (vT : Value) (_ : World) => RdL Enc.u8 wl1 (Bl1 ++ O) vT (secret), isV (vI ((k : Nat) : Int)), fun (vT : Value) (_ : World) => ∃ aT, vT = .pointer (some aT) ∧ PT Enc.u8 wl1 (Bl1 ++ O) (.pointer (some aT)) (secret[k]!), isV (vB (secret[k]!)), fun (vT : Value) (wT : World) => ∃ bT : Nat, vT.ownBlock = some bT ∧ wl1.heap.size ≤ bT ∧ bT < wT.heap.size ∧ Own Enc.u8 5 w.heap.size ((bT :: Bl1) ++ O) wT vT ([secret[k]!]), fun (vT : Value) (_ : World) => RdL Enc.u8 wl1 (Bl1 ++ O) vT (coins), isV (vI ((k : Nat) : Int)), isV (vI threshold), isV (vI (((threshold - 1).toNat : Nat) : Int)), isV (vI ((k * (threshold - 1).toNat : Nat) : Int)), isV (vI ((k : Nat) : Int)), isV (vI ((k + 1 : Nat) : Int)), isV (vI threshold), isV (vI (((threshold - 1).toNat : Nat) : Int)), isV (vI (((k + 1) * (threshold - 1).toNat : Nat) : Int)), fun (vT : Value) (_ : World) => RdL Enc.u8 wl1 (Bl1 ++ O) vT (((coins.take ((k + 1) * (threshold - 1).toNat)).drop (k * (threshold - 1).toNat)))] (by kernel_rfl) (by kernel_rfl) (by kernel_rfl) (by kernel_rfl) rfl rfl ⟨fun _ _ _ h _ => h, kI, fun _ _ _ h _ => h, kI, fun _ _ _ ⟨b, e, h1, h2, h⟩ k => ⟨b, e, h1, Nat.lt_of_lt_of_le h2 k.size, h.mv (Mv.of_keep k) k (by simp)⟩, fun _ _ _ h _ => h, kI, kI, kI, kI, kI, kI, kI, kI, kI, fun _ _ _ h _ => h, trivial⟩ ⟨?_, ?_, ?_, ?_, ?_, ?_, ?_, ?_, ?_, ?_, ?_, ?_, ?_, ?_, ?_, ?_, trivial⟩ ?_
            ·intro F1 w1 k1 hf hd
             obtain ⟨F2, rfl⟩ := lit_of (F := F1) [(0, secret_v)] ⟨hf 0 (by kernel_rfl), trivial⟩
             exact sp_plain rfl ((o_move (secret_v) rfl (⟨(Keep.refl _ _), h_secret⟩)))
            ·intro F1 w1 k1 hf hd
             obtain ⟨F2, rfl⟩ := lit_of (F := F1) [(15, vI ((k : Nat) : Int))] ⟨hf 15 (by kernel_rfl), trivial⟩
             exact sp_plain rfl ((o_move (vI ((k : Nat) : Int)) rfl (⟨(Keep.refl _ _), rfl⟩)))
            ·intro F1 w1 k1 hf hd
             obtain ⟨v2610, e2612, hl2611⟩ : ∃ v, F1 61 = v ∧ RdL Enc.u8 wl1 (Bl1 ++ O) v (secret) := ⟨_, rfl, hd 0 61 (by kernel_rfl)⟩
             have := hl2611.len_le
             obtain ⟨F2, rfl⟩ := lit_of (F := F1) [(61, v2610), (62, vI ((k : Nat) : Int))] ⟨e2612, hd 1 62 (by kernel_rfl), trivial⟩
             exact sp_plain rfl ((o_idxU Try.underlying28 s_5 .i64 ((k : Nat) : Int) k rfl rfl rfl hl2611 (by omega) fun a2613 hp2614 => (⟨(Keep.refl _ _), ⟨a2613, rfl, hp2614⟩⟩)))
            ·intro F1 w1 k1 hf hd
             have k0 := (Keep.drew [] wl1).trans k1
             obtain ⟨a2615, e2617, hp2616⟩ : ∃ a, F1 63 = .pointer (some a) ∧ PT Enc.u8 wl1 (Bl1 ++ O) (.pointer (some a)) (secret[k]!) := hd 2 63 (by kernel_rfl)
             obtain ⟨F2, rfl⟩ := lit_of (F := F1) [(63, Value.pointer (some a2615))] ⟨e2617, trivial⟩
             exact sp_plain rfl ((o_loadBU Try.underlying5 rfl rfl hp2616 k0 (⟨(Keep.refl _ _), rfl⟩)))
            ·intro F1 w1 k1 hf hd
             have k0 := (Keep.drew [] wl1).trans k1
             have s1 := sl1.call k0
             obtain ⟨F2, rfl⟩ := lit_of (F := F1) [(64, vB (secret[k]!))] ⟨hd 3 64 (by kernel_rfl), trivial⟩
             refine sp_plain rfl ((o_litO (E := Enc.u8) (xs := [.tmp 64]) Try.underlying28 s_5 z_5 (by decide) [vB (secret[k]!)] [[vB (secret[k]!)]] [secret[k]!] rfl rfl rfl (Parts.cons rfl rfl (Parts.nil _ _ _)) (of_decide_eq_true rfl) s1 fun v2622 b2624 w2618 e2625 hb2626 s2619 m2620 k2621 hl2623 => (?_)))
             have lo2627 : wl1.heap.size ≤ b2624 := by have := k0.size; omega
             have hi2628 := (hl2623.lt b2624 hb2626).2
             exact ⟨k2621, ⟨_, hb2626, lo2627, hi2628, hl2623⟩⟩
            ·intro F1 w1 k1 hf hd
             obtain ⟨F2, rfl⟩ := lit_of (F := F1) [(4, coins_v)] ⟨hf 4 (by kernel_rfl), trivial⟩
             exact sp_plain rfl ((o_move (coins_v) rfl (⟨(Keep.refl _ _), h_coins⟩)))
            ·intro F1 w1 k1 hf hd
             obtain ⟨F2, rfl⟩ := lit_of (F := F1) [(15, vI ((k : Nat) : Int))] ⟨hf 15 (by kernel_rfl), trivial⟩
             exact sp_plain rfl ((o_move (vI ((k : Nat) : Int)) rfl (⟨(Keep.refl _ _), rfl⟩)))
            ·intro F1 w1 k1 hf hd
             obtain ⟨F2, rfl⟩ := lit_of (F := F1) [(2, vI threshold)] ⟨hf 2 (by kernel_rfl), trivial⟩
             exact sp_plain rfl ((o_move (vI threshold) rfl (⟨(Keep.refl _ _), rfl⟩)))
            ·intro F1 w1 k1 hf hd
             obtain ⟨F2, rfl⟩ := lit_of (F := F1) [(68, vI threshold)] ⟨hd 7 68 (by kernel_rfl), trivial⟩
             exact sp_plain rfl ((o_sub .i64 threshold (1 : Int) ((((threshold - 1).toNat : Nat) : Int)) rfl rfl (w64 (by omega) (by omega)) (⟨(Keep.refl _ _), rfl⟩)))
            ·intro F1 w1 k1 hf hd
             obtain ⟨F2, rfl⟩ := lit_of (F := F1) [(67, vI ((k : Nat) : Int)), (69, vI (((threshold - 1).toNat : Nat) : Int))] ⟨hd 6 67 (by kernel_rfl), hd 8 69 (by kernel_rfl), trivial⟩
             exact sp_plain rfl ((o_mul .i64 ((k : Nat) : Int) (((threshold - 1).toNat : Nat) : Int) (((k * (threshold - 1).toNat : Nat) : Int)) rfl rfl (w64 (mulbN (by omega) (by omega)) (by simp)) (⟨(Keep.refl _ _), rfl⟩)))
            ·intro F1 w1 k1 hf hd
             obtain ⟨F2, rfl⟩ := lit_of (F := F1) [(15, vI ((k : Nat) : Int))] ⟨hf 15 (by kernel_rfl), trivial⟩
             exact sp_plain rfl ((o_move (vI ((k : Nat) : Int)) rfl (⟨(Keep.refl _ _), rfl⟩)))
            ·intro F1 w1 k1 hf hd
             obtain ⟨F2, rfl⟩ := lit_of (F := F1) [(71, vI ((k : Nat) : Int))] ⟨hd 10 71 (by kernel_rfl), trivial⟩
             exact sp_plain rfl ((o_add .i64 ((k : Nat) : Int) (1 : Int) (((k + 1 : Nat) : Int)) rfl rfl (w64 (by omega) (by omega)) (⟨(Keep.refl _ _), rfl⟩)))
            ·intro F1 w1 k1 hf hd
             obtain ⟨F2, rfl⟩ := lit_of (F := F1) [(2, vI threshold)] ⟨hf 2 (by kernel_rfl), trivial⟩
             exact sp_plain rfl ((o_move (vI threshold) rfl (⟨(Keep.refl _ _), rfl⟩)))
            ·intro F1 w1 k1 hf hd
             obtain ⟨F2, rfl⟩ := lit_of (F := F1) [(73, vI threshold)] ⟨hd 12 73 (by kernel_rfl), trivial⟩
             exact sp_plain rfl ((o_sub .i64 threshold (1 : Int) ((((threshold - 1).toNat : Nat) : Int)) rfl rfl (w64 (by omega) (by omega)) (⟨(Keep.refl _ _), rfl⟩)))
            ·intro F1 w1 k1 hf hd
             obtain ⟨F2, rfl⟩ := lit_of (F := F1) [(72, vI ((k + 1 : Nat) : Int)), (74, vI (((threshold - 1).toNat : Nat) : Int))] ⟨hd 11 72 (by kernel_rfl), hd 13 74 (by kernel_rfl), trivial⟩
             exact sp_plain rfl ((o_mul .i64 ((k + 1 : Nat) : Int) (((threshold - 1).toNat : Nat) : Int) ((((k + 1) * (threshold - 1).toNat : Nat) : Int)) rfl rfl (w64 (mulbN (by omega) (by omega)) (by simp)) (⟨(Keep.refl _ _), rfl⟩)))
            ·intro F1 w1 k1 hf hd
             obtain ⟨v2629, e2631, hl2630⟩ : ∃ v, F1 66 = v ∧ RdL Enc.u8 wl1 (Bl1 ++ O) v (coins) := ⟨_, rfl, hd 5 66 (by kernel_rfl)⟩
             have := hl2630.len_le
             obtain ⟨F2, rfl⟩ := lit_of (F := F1) [(66, v2629), (70, vI ((k * (threshold - 1).toNat : Nat) : Int)), (75, vI (((k + 1) * (threshold - 1).toNat : Nat) : Int))] ⟨e2631, hd 9 70 (by kernel_rfl), hd 14 75 (by kernel_rfl), trivial⟩
             refine sp_plain rfl ((o_sliceRU Try.underlying28 s_5 (k * (threshold - 1).toNat) ((k + 1) * (threshold - 1).toNat) rfl (.inr ⟨.tmp 70, .i64, ((k * (threshold - 1).toNat : Nat) : Int), rfl, rfl, (by omega)⟩) (.inr ⟨.tmp 75, .i64, (((k + 1) * (threshold - 1).toNat : Nat) : Int), rfl, rfl, (by omega)⟩) (Nat.mul_le_mul_right _ (by omega)) (polyB (by omega) (by omega) hcl) hl2630 fun v2632 hl2633 => (?_)))
             exact ⟨(Keep.refl _ _), hl2633⟩
            intro F2635 w2636 k2634 hT2637 hF2638
            obtain ⟨v2642, e2644, hl2643⟩ : ∃ v, F2635 61 = v ∧ RdL Enc.u8 wl1 (Bl1 ++ O) v (secret) := ⟨_, rfl, hT2637 0 61 (by kernel_rfl) (by decide)⟩
            have := hl2643.len_le
            obtain ⟨a2645, e2647, hp2646⟩ : ∃ a, F2635 63 = .pointer (some a) ∧ PT Enc.u8 wl1 (Bl1 ++ O) (.pointer (some a)) (secret[k]!) := hT2637 2 63 (by kernel_rfl) (by decide)
            obtain ⟨v2648, e2650, hl2649⟩ : ∃ v, F2635 66 = v ∧ RdL Enc.u8 wl1 (Bl1 ++ O) v (coins) := ⟨_, rfl, hT2637 5 66 (by kernel_rfl) (by decide)⟩
            have := hl2649.len_le
            obtain ⟨v2651, e2653, hl2652⟩ : ∃ v, F2635 76 = v ∧ RdL Enc.u8 wl1 (Bl1 ++ O) v (((coins.take ((k + 1) * (threshold - 1).toNat)).drop (k * (threshold - 1).toNat))) := ⟨_, rfl, hT2637 15 76 (by kernel_rfl) (by decide)⟩
            have := hl2652.len_le
            obtain ⟨v2654, e2660, b2655, hb2656, lo2657, hi2658, ho2659⟩ : ∃ v, F2635 65 = v ∧ (fun (vT : Value) (wT : World) => ∃ bT : Nat, vT.ownBlock = some bT ∧ wl1.heap.size ≤ bT ∧ bT < wT.heap.size ∧ Own Enc.u8 5 w.heap.size ((bT :: Bl1) ++ O) wT vT ([secret[k]!])) v w2636 := ⟨_, rfl, hT2637 4 65 (by kernel_rfl) (by decide)⟩
            have ne2661 : b2595 ≠ b2655 := by have := hbs_b2595.lt; omega
            have ne2662 : ∀ b, v2654.ownBlock = some b → b ≠ b2595 := fun b hb => by have := hbs_b2595.lt; rw [hb2656] at hb; cases hb; omega
            have ne2663 : ∀ b, vo0_12.ownBlock = some b → v2654.ownBlock ≠ some b := fun b hb => by have := (ho0_12.lt b hb).2; rw [hb2656]; intro e; cases e; omega
            have ne2663' : ∀ b, v2654.ownBlock = some b → vo0_12.ownBlock ≠ some b := fun b hb e => ne2663 b e hb
            have hB0_12 : ∀ b, vo0_12.ownBlock = some b → b ∈ (b2655 :: Bl1) := fun b hb => List.mem_cons_of_mem _ (hB0_12 b hb)
            have ne2664 : ∀ b, vo1_b2595_4.ownBlock = some b → v2654.ownBlock ≠ some b := fun b hb => by have := (ho1_b2595_4.lt b hb).2; rw [hb2656]; intro e; cases e; omega
            have ne2664' : ∀ b, v2654.ownBlock = some b → vo1_b2595_4.ownBlock ≠ some b := fun b hb e => ne2664 b e hb
            have hB1_b2595_4 : ∀ b, vo1_b2595_4.ownBlock = some b → b ∈ (b2655 :: Bl1) := fun b hb => List.mem_cons_of_mem _ (hB1_b2595_4 b hb)
            have hB2665 : ∀ b, v2654.ownBlock = some b → b ∈ (b2655 :: Bl1) := fun b hb => by rw [hb2656] at hb; cases hb; simp
            have s2639 := (sl1.call k2634).adopt (Nat.le_trans sl1.keep.size lo2657) hi2658
            have m2640 : Mv Bl1 wl1 (b2655 :: Bl1) w2636 := Mv.adopt k2634 lo2657
            have h_secret := h_secret.mv m2640
            have h_coins := h_coins.mv m2640
            have ho0_12 := ho0_12.mv m2640 k2634 (by simp)
            have hl2652 := hl2652.mv m2640
            have ho1_b2595_4 := ho1_b2595_4.mv m2640 k2634 (by simp)
            have hbs_b2595 := hbs_b2595.keep k2634 (by simp)
            obtain ⟨F2, rfl⟩ := lit_of (F := F2635) [(0, secret_v), (1, vI epoch), (2, vI threshold), (3, vI many), (4, coins_v), (12, vo0_12), (13, vI ((i + 1 : Nat) : Int)), (14, Value.pointer (some ⟨b2595, 0, none⟩)), (15, vI ((k : Nat) : Int)), (92, undef), (61, v2642), (63, Value.pointer (some a2645)), (65, v2654), (66, v2648), (76, v2651)] ⟨hF2638 0 (by kernel_rfl), hF2638 1 (by kernel_rfl), hF2638 2 (by kernel_rfl), hF2638 3 (by kernel_rfl), hF2638 4 (by kernel_rfl), hF2638 12 (by kernel_rfl), hF2638 13 (by kernel_rfl), hF2638 14 (by kernel_rfl), hF2638 15 (by kernel_rfl), hF2638 92 (by kernel_rfl), e2644, e2647, e2660, e2650, e2653, trivial⟩
            clear hT2637 hF2638
            refine wl_s (o_append (E := Enc.u8) (l := [secret[k]!]) (m := ((coins.take ((k + 1) * (threshold - 1).toNat)).drop (k * (threshold - 1).toNat))) Try.underlying28 i_5 rfl (by decide) rfl rfl ho2659 hl2652 (fun _ hb => .inl hb) hB2665 (by simp only [List.length_cons, List.length_nil, List.length_drop, List.length_take]; omega) (by simp only [List.length_cons, List.length_nil, List.length_drop, List.length_take, maxLen]; omega) s2639 fun v2670 w2666 B2672 hB2673 at2674 sub2675 s2667 m2668 k2669 ho2671 => (?_))
            have ne2676 : ∀ b, vo0_12.ownBlock = some b → v2670.ownBlock ≠ some b := fun b hb e => by rcases at2674 with e1 | e1 <;> rw [e1] at e <;> first | (simp [Value.ownBlock] at e; done) | (exact absurd e (ne2663 b hb)) | (cases e; have := (ho0_12.lt _ hb).2; omega)
            have ne2677 : ∀ b, vo1_b2595_4.ownBlock = some b → v2670.ownBlock ≠ some b := fun b hb e => by rcases at2674 with e1 | e1 <;> rw [e1] at e <;> first | (simp [Value.ownBlock] at e; done) | (exact absurd e (ne2664 b hb)) | (cases e; have := (ho1_b2595_4.lt _ hb).2; omega)
            have ne2678 : ∀ b, v2670.ownBlock = some b → b ≠ b2595 := fun b hb => by rcases at2674 with e1 | e1 <;> rw [e1] at hb <;> first | (simp [Value.ownBlock] at hb; done) | (exact ne2662 b hb) | (cases hb; have := hbs_b2595.lt; omega)
            have hB0_12 : ∀ b, vo0_12.ownBlock = some b → b ∈ B2672 := fun b hb => sub2675 b (hB0_12 b hb)
            have hB1_b2595_4 : ∀ b, vo1_b2595_4.ownBlock = some b → b ∈ B2672 := fun b hb => sub2675 b (hB1_b2595_4 b hb)
            have hin_b2595 : b2595 ∈ B2672 := sub2675 b2595 (by first | assumption | (repeat (first | exact List.mem_cons_self | assumption | apply List.mem_cons_of_mem)))
            have h_secret := h_secret.mv m2668
            have h_coins := h_coins.mv m2668
            have ho0_12 := ho0_12.mv m2668 k2669 (fun b hb => by simp only [Option.mem_toList]; first | (simp [Value.ownBlock]; done) | exact ne2663 b hb)
            have ho1_b2595_4 := ho1_b2595_4.mv m2668 k2669 (fun b hb => by simp only [Option.mem_toList]; first | (simp [Value.ownBlock]; done) | exact ne2664 b hb)
            have hbs_b2595 := hbs_b2595.keep k2669 (by simp only [Option.mem_toList]; first | (simp [Value.ownBlock]; done) | exact fun e => absurd rfl (ne2662 _ e))
            refine wl_s (o_assign (v2670) rfl (wl_nil (thenQ_n (?_))))
            refine cw_draw' 7 _ _ [isV (Value.pointer (some ⟨b2595, 4, none⟩)), isV vo1_b2595_4, isV v2670, isV (vI ((i + 1 : Nat) : Int)), isV (vB (u8of ((i + 1 : Nat) : Int))), isV (vB (refEval (([secret[k]!]) ++ ((coins.take ((k + 1) * (threshold - 1).toNat)).drop (k * (threshold - 1).toNat))) (u8of ((i + 1 : Nat) : Int)))), fun (vT : Value) (wT : World) => RdL Enc.u8 wT (B2672 ++ O) vT ([refEval (([secret[k]!]) ++ ((coins.take ((k + 1) * (threshold - 1).toNat)).drop (k * (threshold - 1).toNat))) (u8of ((i + 1 : Nat) : Int))])] (by kernel_rfl) (by kernel_rfl) (by kernel_rfl) (by kernel_rfl) rfl rfl ⟨kI, kI, kI, kI, kI, kI, fun _ _ _ h k => h.mv (Mv.of_keep k), trivial⟩ ⟨?_, ?_, ?_, ?_, ?_, ?_, ?_, trivial⟩ ?_
            ·intro F1 w1 k1 hf hd
             obtain ⟨F2, rfl⟩ := lit_of (F := F1) [(14, Value.pointer (some ⟨b2595, 0, none⟩))] ⟨hf 14 (by kernel_rfl), trivial⟩
             exact sp_plain rfl ((o_fieldL 4 f_53_4 rfl (⟨(Keep.refl _ _), rfl⟩)))
            ·intro F1 w1 k1 hf hd
             have k0 := (Keep.drew [] w2666).trans k1
             have hbs_b2595 := hbs_b2595.keep k0 (by simp)
             obtain ⟨F2, rfl⟩ := lit_of (F := F1) [(78, Value.pointer (some ⟨b2595, 4, none⟩))] ⟨hd 0 78 (by kernel_rfl), trivial⟩
             exact sp_plain rfl ((o_loadBx Try.underlying28 rfl (vo1_b2595_4) rfl hbs_b2595 rfl (⟨(Keep.refl _ _), rfl⟩)))
            ·intro F1 w1 k1 hf hd
             obtain ⟨F2, rfl⟩ := lit_of (F := F1) [(16, v2670)] ⟨hf 16 (by kernel_rfl), trivial⟩
             exact sp_plain rfl ((o_move (v2670) rfl (⟨(Keep.refl _ _), rfl⟩)))
            ·intro F1 w1 k1 hf hd
             obtain ⟨F2, rfl⟩ := lit_of (F := F1) [(13, vI ((i + 1 : Nat) : Int))] ⟨hf 13 (by kernel_rfl), trivial⟩
             exact sp_plain rfl ((o_move (vI ((i + 1 : Nat) : Int)) rfl (⟨(Keep.refl _ _), rfl⟩)))
            ·intro F1 w1 k1 hf hd
             obtain ⟨F2, rfl⟩ := lit_of (F := F1) [(81, vI ((i + 1 : Nat) : Int))] ⟨hd 3 81 (by kernel_rfl), trivial⟩
             exact sp_plain rfl ((o_u8of .i64 Try.underlying3 Try.underlying5 ((i + 1 : Nat) : Int) rfl (⟨(Keep.refl _ _), rfl⟩)))
            ·intro F1 w1 k1 hf hd
             have k0 := (Keep.drew [] w2666).trans k1
             have s1 := s2667.call k0
             have m1 : Mv B2672 w2666 B2672 w1 := Mv.of_keep k0
             have ho2671 := ho2671.mv m1 k0 (by simp)
             obtain ⟨F2, rfl⟩ := lit_of (F := F1) [(80, v2670), (82, vB (u8of ((i + 1 : Nat) : Int)))] ⟨hd 2 80 (by kernel_rfl), hd 4 82 (by kernel_rfl), trivial⟩
             refine sp_plain rfl ((o_callK (vs := [v2670, vB (u8of ((i + 1 : Nat) : Int))]) enter_27 (c_refEval (O := []) v2670 (([secret[k]!]) ++ ((coins.take ((k + 1) * (threshold - 1).toNat)).drop (k * (threshold - 1).toNat))) (u8of ((i + 1 : Nat) : Int)) w1 ho2671.rd0 no_blocks) rfl s1 fun v2679 w2680 s2681 m2682 k2683 r2684 => (?_)))
             obtain rfl := r2684
             exact ⟨k2683, rfl⟩
            ·intro F1 w1 k1 hf hd
             have k0 := (Keep.drew [] w2666).trans k1
             have s1 := s2667.call k0
             obtain ⟨F2, rfl⟩ := lit_of (F := F1) [(83, vB (refEval (([secret[k]!]) ++ ((coins.take ((k + 1) * (threshold - 1).toNat)).drop (k * (threshold - 1).toNat))) (u8of ((i + 1 : Nat) : Int))))] ⟨hd 5 83 (by kernel_rfl), trivial⟩
             refine sp_plain rfl ((o_lit (E := Enc.u8) (xs := [.tmp 83]) Try.underlying28 s_5 z_5 (by decide) [vB (refEval (([secret[k]!]) ++ ((coins.take ((k + 1) * (threshold - 1).toNat)).drop (k * (threshold - 1).toNat))) (u8of ((i + 1 : Nat) : Int)))] [[vB (refEval (([secret[k]!]) ++ ((coins.take ((k + 1) * (threshold - 1).toNat)).drop (k * (threshold - 1).toNat))) (u8of ((i + 1 : Nat) : Int)))]] [refEval (([secret[k]!]) ++ ((coins.take ((k + 1) * (threshold - 1).toNat)).drop (k * (threshold - 1).toNat))) (u8of ((i + 1 : Nat) : Int))] rfl rfl rfl (Parts.cons rfl rfl (Parts.nil _ _ _)) (of_decide_eq_true rfl) s1 fun v2689 w2685 s2686 m2687 k2688 hl2690 => (?_)))
             have := hl2690.len_le
             exact ⟨k2688, hl2690⟩
            intro F2692 w2693 k2691 hT2694 hF2695
            have s2696 := s2667.call k2691
            have m2697 : Mv B2672 w2666 B2672 w2693 := Mv.of_keep k2691
            have h_secret := h_secret.mv m2697
            have h_coins := h_coins.mv m2697
            have ho0_12 := ho0_12.mv m2697 k2691 (by simp)
            have ho1_b2595_4 := ho1_b2595_4.mv m2697 k2691 (by simp)
            have hbs_b2595 := hbs_b2595.keep k2691 (by simp)
            obtain ⟨v2699, e2701, hl2700⟩ : ∃ v, F2692 84 = v ∧ RdL Enc.u8 w2693 (B2672 ++ O) v ([refEval (([secret[k]!]) ++ ((coins.take ((k + 1) * (threshold - 1).toNat)).drop (k * (threshold - 1).toNat))) (u8of ((i + 1 : Nat) : Int))]) := ⟨_, rfl, hT2694 6 84 (by kernel_rfl) (by decide)⟩
            have := hl2700.len_le
            obtain ⟨F2, rfl⟩ := lit_of (F := F2692) [(0, secret_v), (1, vI epoch), (2, vI threshold), (3, vI many), (4, coins_v), (12, vo0_12), (13, vI ((i + 1 : Nat) : Int)), (14, Value.pointer (some ⟨b2595, 0, none⟩)), (15, vI ((k : Nat) : Int)), (92, undef), (79, vo1_b2595_4), (84, v2699)] ⟨hF2695 0 (by kernel_rfl), hF2695 1 (by kernel_rfl), hF2695 2 (by kernel_rfl), hF2695 3 (by kernel_rfl), hF2695 4 (by kernel_rfl), hF2695 12 (by kernel_rfl), hF2695 13 (by kernel_rfl), hF2695 14 (by kernel_rfl), hF2695 15 (by kernel_rfl), hF2695 92 (by kernel_rfl), hT2694 1 79 (by kernel_rfl) (by decide), e2701, trivial⟩
            clear hT2694 hF2695
            refine wl_s (o_append (E := Enc.u8) (l := (tab k fun q => refEval (polyM secret coins threshold q) (u8of ((i + 1 : Nat) : Int)))) (m := [refEval (([secret[k]!]) ++ ((coins.take ((k + 1) * (threshold - 1).toNat)).drop (k * (threshold - 1).toNat))) (u8of ((i + 1 : Nat) : Int))]) Try.underlying28 i_5 rfl (by decide) rfl rfl ho1_b2595_4 hl2700 (fun _ hb => .inl hb) hB1_b2595_4 (by rw [tab_len]; simp; omega) (by rw [tab_len]; simp [maxLen]; omega) s2696 fun v2706 w2702 B2708 hB2709 at2710 sub2711 s2703 m2704 k2705 ho2707 => (?_))
            have ne2712 : ∀ b, vo0_12.ownBlock = some b → v2706.ownBlock ≠ some b := fun b hb e => by rcases at2710 with e1 | e1 <;> rw [e1] at e <;> first | (simp [Value.ownBlock] at e; done) | (exact absurd e (np1_b2595_4_vo0_12 b hb)) | (cases e; have := (ho0_12.lt _ hb).2; omega)
            have ne2713 : ∀ b, v2706.ownBlock = some b → b ≠ b2595 := fun b hb => by rcases at2710 with e1 | e1 <;> rw [e1] at hb <;> first | (simp [Value.ownBlock] at hb; done) | (exact nb1_b2595_4_b2595 b hb) | (cases hb; have := hbs_b2595.lt; omega)
            have hB0_12 : ∀ b, vo0_12.ownBlock = some b → b ∈ B2708 := fun b hb => sub2711 b (hB0_12 b hb)
            have hin_b2595 : b2595 ∈ B2708 := sub2711 b2595 (by first | assumption | (repeat (first | exact List.mem_cons_self | assumption | apply List.mem_cons_of_mem)))
            have h_secret := h_secret.mv m2704
            have h_coins := h_coins.mv m2704
            have ho0_12 := ho0_12.mv m2704 k2705 (fun b hb => by simp only [Option.mem_toList]; first | (simp [Value.ownBlock]; done) | exact np1_b2595_4_vo0_12 b hb)
            have hbs_b2595 := hbs_b2595.keep k2705 (by simp only [Option.mem_toList]; first | (simp [Value.ownBlock]; done) | exact fun e => absurd rfl (nb1_b2595_4_b2595 _ e))
            refine wl_s (o_fieldL 4 f_53_4 rfl (wl_n (o_store1 (v2706) rfl rfl ho2707.oneCell s_28 (by first | assumption | (repeat (first | exact List.mem_cons_self | assumption | apply List.mem_cons_of_mem))) hbs_b2595 (of_decide_eq_true rfl) s2703 fun w2714 s2715 m2716 k2717 bx2718 => (?_))))
            have h_secret := h_secret.mv m2716
            have h_coins := h_coins.mv m2716
            have ho0_12 := ho0_12.mv m2716 k2717 (fun b hb => by simp only [List.mem_singleton]; exact ne2602 b hb)
            have ho2707 := ho2707.mv m2716 k2717 (fun b hb => by simp only [List.mem_singleton]; exact ne2713 b hb)
            refine wl_nil (blockQ_n (thenQ_n (?_)))
            refine cw_region (by kernel_rfl) (wl_s (o_move (vI ((k : Nat) : Int)) rfl (wl_s (o_add .i64 ((k : Nat) : Int) (1 : Int) (((k + 1 : Nat) : Int)) rfl rfl (w64 (by omega) (by omega)) (wl_s (o_assign (vI ((k + 1 : Nat) : Int)) rfl (wl_nil (thenQ_n (?_)))))))))
            exact ⟨_, (by omega), (k + 1), v2706, B2708, (by first | omega | (simp; done) | (simp; omega) | simp_all), rfl, ⟨_, upds_self _ ⟨rfl, rfl, rfl, rfl, rfl, rfl, rfl, rfl, (by first | rfl | exact congrArg (Value.int _) (by first | omega | (simp))), rfl, trivial⟩⟩, s2715, (by rw [show (tab (k + 1) fun q => refEval (polyM secret coins threshold q) (u8of ((i + 1 : Nat) : Int))) = (tab k fun q => refEval (polyM secret coins threshold q) (u8of ((i + 1 : Nat) : Int))) ++ ([refEval (([secret[k]!]) ++ ((coins.take ((k + 1) * (threshold - 1).toNat)).drop (k * (threshold - 1).toNat))) (u8of ((i + 1 : Nat) : Int))]) from tab_succ _ _]; exact ho2707), hB2709, h_secret, h_coins, ho0_12, hB0_12, bx2718, (by first | assumption | (repeat (first | exact List.mem_cons_self | assumption | apply List.mem_cons_of_mem)) | (apply_assumption; assumption)), ne2713, (fun b hb e => ne2712 b e hb), ne2712⟩
           ·have hp2719 : (secret.length : Int) ≤ ((k : Nat) : Int) := by first | simpa using hc2608 | (have e := hc2608; simp at e; omega)
            obtain rfl : k = secret.length := by omega
            refine cw_exit (thenQ_x (thenQ_x (blockQ_x (thenQ_n (?_)))))
            refine cw_region (by kernel_rfl) (wl_s (o_move (vo0_12) rfl (wl_s (o_loadBxA (vs := [vI epoch, vI ((i + 1 : Nat) : Int), vI threshold, vI many, vo1_b2595_4]) Try.underlying53 rfl s_53 rfl hbs_b2595 rfl (?_)))))
            obtain ⟨B2720, s2721, m2722, hl2723, hk2724⟩ := ho1_b2595_4.publish sl1
            have hB0_12 : ∀ b, vo0_12.ownBlock = some b → b ∈ B2720 := fun b hb => hk2724 b (hB0_12 b hb) (np1_b2595_4_vo0_12 b hb)
            have hin_b2595 : b2595 ∈ B2720 := hk2724 b2595 (by first | assumption | (repeat (first | exact List.mem_cons_self | assumption | apply List.mem_cons_of_mem))) (fun e => absurd rfl (nb1_b2595_4_b2595 _ e))
            have lim2725 := hl2723.len_le
            have h_secret := h_secret.mv m2722
            have h_coins := h_coins.mv m2722
            have ho0_12 := ho0_12.mv m2722 (Keep.refl [] _) (by simp)
            have hbs_b2595 := hbs_b2595.keep (Keep.refl [] _) (by simp)
            refine wl_s (o_lit (E := Enc.share) (xs := [.tmp 88]) Try.underlying38 s_53 z_53 (by decide) [.agg #[vI epoch, vI ((i + 1 : Nat) : Int), vI threshold, vI many, vo1_b2595_4]] [[vI epoch, vI ((i + 1 : Nat) : Int), vI threshold, vI many, vo1_b2595_4]] [(⟨epoch, ((i + 1 : Nat) : Int), threshold, many, (tab secret.length fun q => refEval (polyM secret coins threshold q) (u8of ((i + 1 : Nat) : Int)))⟩ : Share)] rfl rfl rfl (Parts.cons rfl ⟨_, rfl, hl2723⟩ (Parts.nil _ _ _)) (of_decide_eq_true rfl) s2721 fun v2730 w2726 s2727 m2728 k2729 hl2731 => (?_))
            have h_secret := h_secret.mv m2728
            have h_coins := h_coins.mv m2728
            have ho0_12 := ho0_12.mv m2728 k2729 (by simp)
            have hbs_b2595 := hbs_b2595.keep k2729 (by simp)
            have := hl2731.len_le
            refine wl_s (o_append (E := Enc.share) (l := (refSplitL secret epoch threshold many coins i)) (m := [(⟨epoch, ((i + 1 : Nat) : Int), threshold, many, (tab secret.length fun q => refEval (polyM secret coins threshold q) (u8of ((i + 1 : Nat) : Int)))⟩ : Share)]) Try.underlying38 i_53 rfl (by decide) rfl rfl ho0_12 hl2731 (fun _ hb => .inl hb) hB0_12 (by rw [refSplitL_len]; simp; omega) (by rw [refSplitL_len]; simp [maxLen]; omega) s2727 fun v2736 w2732 B2738 hB2739 at2740 sub2741 s2733 m2734 k2735 ho2737 => (?_))
            have ne2742 : ∀ b, v2736.ownBlock = some b → b ≠ b2595 := fun b hb => by rcases at2740 with e1 | e1 <;> rw [e1] at hb <;> first | (simp [Value.ownBlock] at hb; done) | (exact ne2602 b hb) | (cases hb; have := hbs_b2595.lt; omega)
            have hin_b2595 : b2595 ∈ B2738 := sub2741 b2595 (by first | assumption | (repeat (first | exact List.mem_cons_self | assumption | apply List.mem_cons_of_mem)))
            have h_secret := h_secret.mv m2734
            have h_coins := h_coins.mv m2734
            refine wl_s (o_assign (v2736) rfl (wl_nil (blockQ_n (thenQ_n (?_)))))
            refine cw_region (by kernel_rfl) (wl_s (o_move (vI ((i + 1 : Nat) : Int)) rfl (wl_s (o_add .i64 ((i + 1 : Nat) : Int) (1 : Int) (((i + 1 + 1 : Nat) : Int)) rfl rfl (w64 (by omega) (by omega)) (wl_s (o_assign (vI ((i + 1 + 1 : Nat) : Int)) rfl (wl_nil (thenQ_n (?_)))))))))
            exact ⟨_, (by omega), (i + 1), v2736, B2738, (by first | omega | (simp; done) | (simp; omega) | simp_all), rfl, ⟨_, upds_self _ ⟨rfl, rfl, rfl, rfl, rfl, rfl, (by first | rfl | exact congrArg (Value.int _) (by first | omega | (simp))), rfl, trivial⟩⟩, s2733, (by rw [show (refSplitL secret epoch threshold many coins (i + 1)) = (refSplitL secret epoch threshold many coins i) ++ ([(⟨epoch, ((i + 1 : Nat) : Int), threshold, many, (tab secret.length fun q => refEval (polyM secret coins threshold q) (u8of ((i + 1 : Nat) : Int)))⟩ : Share)]) from refSplitL_succ _ _ _ _ _ _]; exact ho2737), hB2739, h_secret, h_coins⟩
         ·have hp2743 : many < ((i + 1 : Nat) : Int) := by first | simpa using hc2593 | (have e := hc2593; simp at e; omega)
          obtain rfl : i = many.toNat := by omega
          refine cw_exit (thenQ_x (thenQ_x (blockQ_x (thenQ_n (?_)))))
          refine cw_seq (?_)
          refine cw_region (by kernel_rfl) (wl_s (o_move (vo0_12) rfl (wl_s (o_assign (vo0_12) rfl (wl_s (o_assign (vI (0 : Int)) rfl (wl_nil (thenQ_n (?_)))))))))
          refine cw_ret (end_r rfl (res2 rfl rfl rfl rfl) (?_))
          have e : (refSplitM secret epoch threshold many coins) = ((refSplitL secret epoch threshold many coins many.toNat), (0 : Int)) := by first | exact refSplitM_ok (by unfold splitBad; ((repeat (first | (refine (if_pos ?_).trans ?_; solve | omega | assumption | (simp only [dbs]; first | done | omega | assumption) | (simp only [*, dbs]; done)) | (refine (if_neg ?_).trans ?_; solve | omega | assumption | (simp only [dbs]; first | done | omega | assumption) | (simp only [*, dbs]; done)))); rfl)) rfl | exact refSplitM_bad (by unfold splitBad; ((repeat (first | (refine (if_pos ?_).trans ?_; solve | omega | assumption | (simp only [dbs]; first | done | omega | assumption) | (simp only [*, dbs]; done)) | (refine (if_neg ?_).trans ?_; solve | omega | assumption | (simp only [dbs]; first | done | omega | assumption) | (simp only [*, dbs]; done)))); rfl)) (by decide)
          exact ⟨_, rfl, sl0.keep, by rw [e]; exact ⟨vo0_12, rfl, ho0_12.pub sl0⟩⟩
     ·have hp2744 : epoch < (0 : Int) := by first | simpa using hb2585 | (have e := hb2585; simp at e; omega)
      refine wl_k rfl (wl_k rfl (wl_s (o_pickT (Value.bool true) rfl rfl (wl_nil (thenQ_n (?_))))))
      refine cw_cond true rfl rfl (fun _ => ?_) (fun h => by cases h)
      refine cw_seq (?_)
      refine cw_region (by kernel_rfl) (wl_s (o_assign (Value.slice none 0 0) rfl (wl_s (o_assign (vI (81 : Int)) rfl (wl_nil (thenQ_n (?_)))))))
      refine cw_ret (thenQ_r (end_r rfl (res2 rfl rfl rfl rfl) (?_)))
      have e : (refSplitM secret epoch threshold many coins) = ([], (81 : Int)) := by first | exact refSplitM_ok (by unfold splitBad; ((repeat (first | (refine (if_pos ?_).trans ?_; solve | omega | assumption | (simp only [dbs]; first | done | omega | assumption) | (simp only [*, dbs]; done)) | (refine (if_neg ?_).trans ?_; solve | omega | assumption | (simp only [dbs]; first | done | omega | assumption) | (simp only [*, dbs]; done)))); rfl)) rfl | exact refSplitM_bad (by unfold splitBad; ((repeat (first | (refine (if_pos ?_).trans ?_; solve | omega | assumption | (simp only [dbs]; first | done | omega | assumption) | (simp only [*, dbs]; done)) | (refine (if_neg ?_).trans ?_; solve | omega | assumption | (simp only [dbs]; first | done | omega | assumption) | (simp only [*, dbs]; done)))); rfl)) (by decide)
      exact ⟨_, rfl, s0.keep, by rw [e]; exact ⟨.slice none 0 0, rfl, RdL.nil _ _ _⟩⟩
   ·have hp2745 : many < threshold := by first | simpa using hb2580 | (have e := hb2580; simp at e; omega)
    refine wl_k rfl (wl_k rfl (wl_s (o_pickT (Value.bool true) rfl rfl (wl_nil (thenQ_n (?_))))))
    refine cw_cond true rfl rfl (fun _ => ?_) (fun h => by cases h)
    refine cw_seq (?_)
    refine cw_region (by kernel_rfl) (wl_s (o_assign (Value.slice none 0 0) rfl (wl_s (o_assign (vI (80 : Int)) rfl (wl_nil (thenQ_n (?_)))))))
    refine cw_ret (thenQ_r (end_r rfl (res2 rfl rfl rfl rfl) (?_)))
    have e : (refSplitM secret epoch threshold many coins) = ([], (80 : Int)) := by first | exact refSplitM_ok (by unfold splitBad; ((repeat (first | (refine (if_pos ?_).trans ?_; solve | omega | assumption | (simp only [dbs]; first | done | omega | assumption) | (simp only [*, dbs]; done)) | (refine (if_neg ?_).trans ?_; solve | omega | assumption | (simp only [dbs]; first | done | omega | assumption) | (simp only [*, dbs]; done)))); rfl)) rfl | exact refSplitM_bad (by unfold splitBad; ((repeat (first | (refine (if_pos ?_).trans ?_; solve | omega | assumption | (simp only [dbs]; first | done | omega | assumption) | (simp only [*, dbs]; done)) | (refine (if_neg ?_).trans ?_; solve | omega | assumption | (simp only [dbs]; first | done | omega | assumption) | (simp only [*, dbs]; done)))); rfl)) (by decide)
    exact ⟨_, rfl, s0.keep, by rw [e]; exact ⟨.slice none 0 0, rfl, RdL.nil _ _ _⟩⟩
  ·have hp2746 : threshold < (1 : Int) := by first | simpa using hb2578 | (have e := hb2578; simp at e; omega)
   refine wl_k rfl (wl_k rfl (wl_k rfl (wl_s (o_pickT (Value.bool true) rfl rfl (wl_s (o_move (Value.bool true) rfl (wl_k rfl (wl_k rfl (wl_s (o_pickT (Value.bool true) rfl rfl (wl_nil (thenQ_n (?_)))))))))))))
   refine cw_cond true rfl rfl (fun _ => ?_) (fun h => by cases h)
   refine cw_seq (?_)
   refine cw_region (by kernel_rfl) (wl_s (o_assign (Value.slice none 0 0) rfl (wl_s (o_assign (vI (80 : Int)) rfl (wl_nil (thenQ_n (?_)))))))
   refine cw_ret (thenQ_r (end_r rfl (res2 rfl rfl rfl rfl) (?_)))
   have e : (refSplitM secret epoch threshold many coins) = ([], (80 : Int)) := by first | exact refSplitM_ok (by unfold splitBad; ((repeat (first | (refine (if_pos ?_).trans ?_; solve | omega | assumption | (simp only [dbs]; first | done | omega | assumption) | (simp only [*, dbs]; done)) | (refine (if_neg ?_).trans ?_; solve | omega | assumption | (simp only [dbs]; first | done | omega | assumption) | (simp only [*, dbs]; done)))); rfl)) rfl | exact refSplitM_bad (by unfold splitBad; ((repeat (first | (refine (if_pos ?_).trans ?_; solve | omega | assumption | (simp only [dbs]; first | done | omega | assumption) | (simp only [*, dbs]; done)) | (refine (if_neg ?_).trans ?_; solve | omega | assumption | (simp only [dbs]; first | done | omega | assumption) | (simp only [*, dbs]; done)))); rfl)) (by decide)
   exact ⟨_, rfl, s0.keep, by rw [e]; exact ⟨.slice none 0 0, rfl, RdL.nil _ _ _⟩⟩

end Go.Proofs.Yteajcgfcnbdmgaa
