/- Walks, printed by gen.py. -/
import Derived.Test.YtjpniibleelgiaaTy
set_option linter.unusedSimpArgs false
set_option linter.unusedVariables false
namespace Go.Proofs.Ytjpniibleelgiaa
open Go.Fw Go.RowKit

set_option maxHeartbeats 4000000 in
set_option maxRecDepth 100000 in
theorem c_insertD {O B : List Nat} {w0 w : World} (v u : Value) (l m : List DeviceOp) (i : Nat) (s0 : St w0 O w B) (ho : Own Enc.devop 40 w0.heap.size (B ++ O) w v l) (hu : Own Enc.devop 40 w0.heap.size (B ++ O) w u m) (hB : ∀ b, v.ownBlock = some b → b ∈ B) (hBu : ∀ b, u.ownBlock = some b → b ∈ B) (hne : ∀ b, v.ownBlock = some b → u.ownBlock ≠ some b) (hm : 0 < m.length) (hi : i ≤ l.length) (hlen : (l.length + m.length) * 48 ≤ 140737488355328) (hmax : l.length + m.length ≤ maxLen) : Calls Try.prog 62 [v, vI (i : Int), u].toArray w (fun e w' => ∃ (v' : Value) (B' : List Nat), e = .returned v' ∧ (∀ b, v'.ownBlock = some b → b ∈ B') ∧ (∀ b, v'.ownBlock = some b → v.ownBlock = some b ∨ w.heap.size ≤ b) ∧ (∀ b ∈ B, b ∈ B') ∧ St w0 O w' B' ∧ Mv B w B' w' ∧ Keep v.ownBlock.toList w w' ∧ Own Enc.devop 40 w0.heap.size (B' ++ O) w' v' (l.take i ++ m ++ l.drop i)) :=  by
  have ms : Mv B w B w := Mv.refl _ _
  have ks : Keep v.ownBlock.toList w w := Keep.refl _ _
  have hl63 := hmax
  simp only [maxLen] at hl63
  refine calls_of_cw 95 Try.func62 rfl rfl (of_decide_eq_true rfl) (fun F0 => ?_)
  refine cw_seq (?_)
  refine cw_region (by kernel_rfl) (wl_s (o_assign (Value.slice none 0 0) rfl (wl_nil (thenQ_n (?_)))))
  refine cw_seq (?_)
  refine cw_region (by kernel_rfl) (wl_s (o_move (v) rfl (wl_s (o_move (vI (i : Int)) rfl (wl_s (o_sliceOwn Try.underlying26 s_40 i .i64 (i : Int) rfl rfl rfl (by first | omega | (simp; omega)) ho fun v400 hs401 => (wl_nil (thenQ_n (?_)))))))))
  refine cw_seq (?_)
  refine cw_region (by kernel_rfl) (wl_s (o_move (u) rfl (wl_s (o_lenO Try.underlying26 rfl hu (wl_s (o_assign (vI (m.length : Int)) rfl (wl_nil (thenQ_n (?_)))))))))
  refine cw_seq (?_)
  refine cw_seq (?_)
  refine cw_region (by kernel_rfl) (wl_s (o_move (vI (m.length : Int)) rfl (wl_s (o_eql .i64 (m.length : Int) (0 : Int) rfl rfl (wl_nil (thenQ_n (?_)))))))
  have hb402 : ((m.length : Int) == (0 : Int)) = false := (by rw [beq_eq_false_iff_ne]; omega)
  rw [hb402]
  refine cw_cond false rfl rfl (fun h => by cases h) (fun _ => ?_)
  refine cw_skip (thenQ_n (?_))
  refine cw_seq (?_)
  refine cw_region (by kernel_rfl) (wl_s (o_move (v) rfl (wl_s (o_lenO Try.underlying26 rfl ho (wl_s (o_assign (vI (l.length : Int)) rfl (wl_nil (thenQ_n (?_)))))))))
  refine cw_seq (?_)
  refine cw_seq (?_)
  refine cw_region (by kernel_rfl) (wl_s (o_move (vI (i : Int)) rfl (wl_s (o_move (vI (l.length : Int)) rfl (wl_s (o_eql .i64 (i : Int) (l.length : Int) rfl rfl (wl_nil (thenQ_n (?_)))))))))
  refine cw_cond ((i : Int) == (l.length : Int)) rfl rfl (fun hc403 => ?_) (fun hc403 => ?_)
  · have hp404 : (i : Int) = (l.length : Int) := by first | simpa using hc403 | (have e := hc403; simp at e; omega)
    refine cw_seq (?_)
    refine cw_region (by kernel_rfl) (wl_s (o_move (v) rfl (wl_s (o_move (u) rfl (wl_s (o_appendOO (E := Enc.devop) (l := l) (m := m) Try.underlying26 i_40 rfl (by decide) rfl rfl ho hu  hB hlen hmax s0 fun v409 w405 B411 hB412 at413 sub414 s406 m407 k408 ho410 => (?_)))))))
    have ne415 : ∀ b, u.ownBlock = some b → v409.ownBlock ≠ some b := fun b hb e => by rcases at413 with e1 | e1 <;> rw [e1] at e <;> first | (simp [Value.ownBlock] at e; done) | (cases e; have := (hu.lt _ hb).2; omega) | (exact absurd e ((fun b hb e => hne b e hb) b hb))
    have hBu : ∀ b, u.ownBlock = some b → b ∈ B411 := fun b hb => sub414 b (hBu b hb)
    have hu := hu.mv m407 k408 (fun b hb => by simp only [Option.mem_toList]; first | (simp [Value.ownBlock]; done) | exact (fun b hb e => hne b e hb) b hb)
    have ms := ms.trans m407
    have ks := ks.step0 k408 (fun b hb => by first | (simp at hb; done) | exact .inl hb | (simp only [List.mem_singleton] at hb; subst hb; first | (left; simp [Value.ownBlock]; done) | (right; omega)))
    refine wl_s (o_assign (v409) rfl (wl_nil (thenQ_n (?_))))
    refine cw_ret (thenQ_r (end_r rfl (res1 rfl rfl rfl) (?_)))
    rw [show l ++ m = l.take i ++ m ++ l.drop i from by rw [show i = l.length from by omega, List.take_length, List.drop_length, List.append_nil]] at ho410
    exact ⟨v409, B411, rfl, hB412, fun b hb => by rcases at413 with e1 | e1 <;> rw [e1] at hb; exact .inl hb; cases hb; exact .inr (Nat.le_refl _), sub414, s406, ms, ks, ho410⟩
  · have hp416 : (i : Int) ≠ (l.length : Int) := by first | simpa using hc403 | (have e := hc403; simp at e; omega)
    obtain ⟨g, c, cur, css, rfl, hgb, bg, hnc, hcm, hcl, hcss, hrd⟩ := own_open ho (by omega)
    obtain ⟨gu, cu, curu, cssu, rfl, hgub, bgu, hncu, hcmu, hclu, hcssu, hrdu⟩ := own_open hu (by omega)
    have hgB : g ∈ B := hB g rfl
    have hguB : gu ∈ B := hBu gu rfl
    have hgg : g ≠ gu := fun e => hne g rfl (by rw [e]; rfl)
    have hns : l.length * Enc.devop.size ≤ cur.length := by rw [hcl]; exact Nat.mul_le_mul_right _ hnc
    have hmu : m.length * Enc.devop.size ≤ curu.length := by rw [hclu]; exact Nat.mul_le_mul_right _ hncu
    have one1 := ones_drop hrd hcss hi hns
    have one2 := ones_all hrdu hcssu
    have hfm := hrdu.flen
    refine cw_skip (thenQ_n (?_))
    refine cw_seq (?_)
    refine cw_seq (?_)
    refine cw_region (by kernel_rfl) (wl_s (o_move (vI (l.length : Int)) rfl (wl_s (o_move (vI (m.length : Int)) rfl (wl_s (o_add .i64 (l.length : Int) (m.length : Int) (((l.length + m.length : Nat) : Int)) rfl rfl (w64 (by omega) (by omega)) (wl_s (o_move (Value.slice (some ⟨g, 0, none⟩) l.length c) rfl (wl_s (o_cap _ _ c Try.underlying26 rfl (wl_s (o_gtr .i64 ((l.length + m.length : Nat) : Int) ((c : Nat) : Int) rfl rfl (wl_nil (thenQ_n (?_)))))))))))))))
    refine cw_cond (decide (((c : Nat) : Int) < ((l.length + m.length : Nat) : Int))) rfl rfl (fun hc417 => ?_) (fun hc417 => ?_)
    · have hp418 : ((c : Nat) : Int) < ((l.length + m.length : Nat) : Int) := by first | simpa using hc417 | (have e := hc417; simp at e; omega)
      refine cw_seq (?_)
      refine cw_region (by kernel_rfl) (wl_s (o_move (Value.slice (some ⟨g, 0, none⟩) l.length c) rfl (wl_s (o_move (vI (i : Int)) rfl (wl_s (o_sliceHi (size := Enc.devop.size) Try.underlying26 s_40 g 0 l.length c i .i64 (i : Int) rfl rfl rfl (by omega) (wl_s (o_move (vI (l.length : Int)) rfl (wl_s (o_move (vI (m.length : Int)) rfl (wl_s (o_add .i64 (l.length : Int) (m.length : Int) (((l.length + m.length : Nat) : Int)) rfl rfl (w64 (by omega) (by omega)) (wl_s (o_move (vI (i : Int)) rfl (wl_s (o_sub .i64 ((l.length + m.length : Nat) : Int) (i : Int) ((((l.length + m.length) - i : Nat) : Int)) rfl rfl (w64 (by omega) (by omega)) (wl_s (o_appendZ (size := Enc.devop.size) (i := i) ((l.length + m.length) - i) (l.length + m.length) (((l.length + m.length) - i : Nat) : Int) (by omega) Try.underlying26 Try.underlying3 i_40 rfl (by decide) rfl rfl rfl bg (by rw [hcl]; exact Nat.mul_le_mul_right _ (by omega)) (by omega) (by omega) hlen hmax s0 fun b419 G420 cur421 w422 e423 lo424 s425 m426 k427 bx428 hcl429 hG430 hM431 ht432 => (?_)))))))))))))))))))
      have ne433 : g ≠ b419 := by have := bg.lt; omega
      have ne434 : gu ≠ b419 := by have := bgu.lt; omega
      have hnew_b419 : w.heap.size ≤ b419 := by have := ks.size; omega
      clear e423
      have bg := bg.keep k427 (by simp)
      have bgu := bgu.keep k427 (by simp)
      have ms := ms.trans m426
      have ks := ks.step0 k427 (fun b hb => by first | (simp at hb; done) | exact .inl hb | (simp only [List.mem_singleton] at hb; subst hb; first | (left; simp [Value.ownBlock]; done) | (right; omega)))
      refine wl_s (o_assign (Value.slice (some ⟨b419, 0, none⟩) (l.length + m.length) G420) rfl (wl_nil (thenQ_n (?_))))
      refine cw_seq (?_)
      refine cw_region (by kernel_rfl) (wl_s (o_move (Value.slice (some ⟨b419, 0, none⟩) (l.length + m.length) G420) rfl (wl_s (o_move (vI (i : Int)) rfl (wl_s (o_sliceLo (size := Enc.devop.size) Try.underlying26 s_40 b419 (l.length + m.length) G420 i .i64 (i : Int) rfl rfl rfl (by omega) (by omega) (by omega) (wl_s (o_move (Value.slice (some ⟨gu, 0, none⟩) m.length cu) rfl (wl_s (o_copyRaw (size := Enc.devop.size) m.length Try.underlying26 s_40 rfl rfl bx428 bgu (by repeat (first | assumption | constructor)) (by simp only [Nat.min_def]; split <;> omega) (by rw [hcl429, ← Nat.add_mul]; exact Nat.mul_le_mul_right _ (by omega)) (by rw [Nat.zero_add]; exact hmu) one2 s425 fun w435 s436 m437 k438 bx439 => (?_)))))))))))
      have hcl440 : (splice cur421 (i * Enc.devop.size) ((curu.drop 0).take (m.length * Enc.devop.size))).length = G420 * Enc.devop.size := by rw [splice_len (by rw [List.length_take, List.length_drop, Nat.min_eq_left (by have h2 := ((by rw [Nat.zero_add]; exact hmu) : 0 + m.length * Enc.devop.size ≤ curu.length); omega)]; exact (by rw [hcl429, ← Nat.add_mul]; exact Nat.mul_le_mul_right _ (by omega)))]; exact hcl429
      have bg := bg.keep k438 (nin1 ne433)
      have bgu := bgu.keep k438 (nin1 ne434)
      have ms := ms.trans m437
      have ks := ks.step0 k438 (fun b hb => by first | (simp at hb; done) | exact .inl hb | (simp only [List.mem_singleton] at hb; subst hb; first | (left; simp [Value.ownBlock]; done) | (right; omega)))
      refine wl_nil (thenQ_n (?_))
      refine cw_seq (?_)
      refine cw_draw' 8 _ _ [isV (Value.slice (some ⟨b419, 0, none⟩) (l.length + m.length) G420), isV (vI (i : Int)), isV (vI (m.length : Int)), isV (vI ((i + m.length : Nat) : Int)), isV (Value.slice (some ⟨b419, ((i + m.length) * Enc.devop.size), none⟩) ((l.length + m.length) - (i + m.length)) (G420 - (i + m.length))), isV (Value.slice (some ⟨g, 0, none⟩) l.length c), isV (vI (i : Int)), isV (Value.slice (some ⟨g, (i * Enc.devop.size), none⟩) (l.length - i) (c - i))] (by kernel_rfl) (by kernel_rfl) (by kernel_rfl) (by kernel_rfl) rfl rfl ⟨kI, kI, kI, kI, kI, kI, kI, kI, trivial⟩ ⟨?_, ?_, ?_, ?_, ?_, ?_, ?_, ?_, trivial⟩ ?_
      · intro F1 w1 k1 hf hd
        have k0 := (Keep.drew [] w435).trans k1
        have s1 := s436.call k0
        have m1 : Mv (b419 :: B) w435 (b419 :: B) w1 := Mv.of_keep k0
        obtain ⟨F2, rfl⟩ := lit_of (F := F1) [(9, Value.slice (some ⟨b419, 0, none⟩) (l.length + m.length) G420)] ⟨hf 9 (by kernel_rfl), trivial⟩
        exact sp_plain rfl ((o_move (Value.slice (some ⟨b419, 0, none⟩) (l.length + m.length) G420) rfl (⟨(Keep.refl _ _), rfl⟩)))
      · intro F1 w1 k1 hf hd
        have k0 := (Keep.drew [] w435).trans k1
        have s1 := s436.call k0
        have m1 : Mv (b419 :: B) w435 (b419 :: B) w1 := Mv.of_keep k0
        obtain ⟨F2, rfl⟩ := lit_of (F := F1) [(1, vI (i : Int))] ⟨hf 1 (by kernel_rfl), trivial⟩
        exact sp_plain rfl ((o_move (vI (i : Int)) rfl (⟨(Keep.refl _ _), rfl⟩)))
      · intro F1 w1 k1 hf hd
        have k0 := (Keep.drew [] w435).trans k1
        have s1 := s436.call k0
        have m1 : Mv (b419 :: B) w435 (b419 :: B) w1 := Mv.of_keep k0
        obtain ⟨F2, rfl⟩ := lit_of (F := F1) [(7, vI (m.length : Int))] ⟨hf 7 (by kernel_rfl), trivial⟩
        exact sp_plain rfl ((o_move (vI (m.length : Int)) rfl (⟨(Keep.refl _ _), rfl⟩)))
      · intro F1 w1 k1 hf hd
        have k0 := (Keep.drew [] w435).trans k1
        have s1 := s436.call k0
        have m1 : Mv (b419 :: B) w435 (b419 :: B) w1 := Mv.of_keep k0
        obtain ⟨F2, rfl⟩ := lit_of (F := F1) [(47, vI (i : Int)), (48, vI (m.length : Int))] ⟨hd 1 47 (by kernel_rfl), hd 2 48 (by kernel_rfl), trivial⟩
        exact sp_plain rfl ((o_add .i64 (i : Int) (m.length : Int) (((i + m.length : Nat) : Int)) rfl rfl (w64 (by omega) (by omega)) (⟨(Keep.refl _ _), rfl⟩)))
      · intro F1 w1 k1 hf hd
        have k0 := (Keep.drew [] w435).trans k1
        have s1 := s436.call k0
        have m1 : Mv (b419 :: B) w435 (b419 :: B) w1 := Mv.of_keep k0
        obtain ⟨F2, rfl⟩ := lit_of (F := F1) [(46, Value.slice (some ⟨b419, 0, none⟩) (l.length + m.length) G420), (49, vI ((i + m.length : Nat) : Int))] ⟨hd 0 46 (by kernel_rfl), hd 3 49 (by kernel_rfl), trivial⟩
        exact sp_plain rfl ((o_sliceLo (size := Enc.devop.size) Try.underlying26 s_40 b419 (l.length + m.length) G420 (i + m.length) .i64 ((i + m.length : Nat) : Int) rfl rfl rfl (by omega) (by omega) (by omega) (⟨(Keep.refl _ _), rfl⟩)))
      · intro F1 w1 k1 hf hd
        have k0 := (Keep.drew [] w435).trans k1
        have s1 := s436.call k0
        have m1 : Mv (b419 :: B) w435 (b419 :: B) w1 := Mv.of_keep k0
        obtain ⟨F2, rfl⟩ := lit_of (F := F1) [(0, Value.slice (some ⟨g, 0, none⟩) l.length c)] ⟨hf 0 (by kernel_rfl), trivial⟩
        exact sp_plain rfl ((o_move (Value.slice (some ⟨g, 0, none⟩) l.length c) rfl (⟨(Keep.refl _ _), rfl⟩)))
      · intro F1 w1 k1 hf hd
        have k0 := (Keep.drew [] w435).trans k1
        have s1 := s436.call k0
        have m1 : Mv (b419 :: B) w435 (b419 :: B) w1 := Mv.of_keep k0
        obtain ⟨F2, rfl⟩ := lit_of (F := F1) [(1, vI (i : Int))] ⟨hf 1 (by kernel_rfl), trivial⟩
        exact sp_plain rfl ((o_move (vI (i : Int)) rfl (⟨(Keep.refl _ _), rfl⟩)))
      · intro F1 w1 k1 hf hd
        have k0 := (Keep.drew [] w435).trans k1
        have s1 := s436.call k0
        have m1 : Mv (b419 :: B) w435 (b419 :: B) w1 := Mv.of_keep k0
        obtain ⟨F2, rfl⟩ := lit_of (F := F1) [(51, Value.slice (some ⟨g, 0, none⟩) l.length c), (52, vI (i : Int))] ⟨hd 5 51 (by kernel_rfl), hd 6 52 (by kernel_rfl), trivial⟩
        exact sp_plain rfl ((o_sliceLo (size := Enc.devop.size) Try.underlying26 s_40 g l.length c i .i64 (i : Int) rfl rfl rfl (by omega) (by omega) (by omega) (⟨(Keep.refl _ _), rfl⟩)))
      intro F442 w443 k441 hT444 hF445
      have s446 := s436.call k441
      have m447 : Mv (b419 :: B) w435 (b419 :: B) w443 := Mv.of_keep k441
      have bg := bg.keep k441 (by simp)
      have bgu := bgu.keep k441 (by simp)
      have bx439 := bx439.keep k441 (by simp)
      have ms := ms.trans m447
      have ks := ks.step0 k441 (fun b hb => by first | (simp at hb; done) | exact .inl hb | (simp only [List.mem_singleton] at hb; subst hb; first | (left; simp [Value.ownBlock]; done) | (right; omega)))
      obtain ⟨F2, rfl⟩ := lit_of (F := F442) [(9, Value.slice (some ⟨b419, 0, none⟩) (l.length + m.length) G420), (95, undef), (50, Value.slice (some ⟨b419, ((i + m.length) * Enc.devop.size), none⟩) ((l.length + m.length) - (i + m.length)) (G420 - (i + m.length))), (53, Value.slice (some ⟨g, (i * Enc.devop.size), none⟩) (l.length - i) (c - i))] ⟨hF445 9 (by kernel_rfl), hF445 95 (by kernel_rfl), hT444 4 50 (by kernel_rfl) (by decide), hT444 7 53 (by kernel_rfl) (by decide), trivial⟩
      clear hT444 hF445
      refine wl_s (o_copyRaw (size := Enc.devop.size) (l.length - i) Try.underlying26 s_40 rfl rfl bx439 bg (by repeat (first | assumption | constructor)) (by simp only [Nat.min_def]; split <;> omega) (by rw [hcl440, ← Nat.add_mul]; exact Nat.mul_le_mul_right _ (by omega)) (by rw [← Nat.add_mul]; exact Nat.le_trans (Nat.mul_le_mul_right _ (by omega)) hns) one1 s446 fun w450 s451 m452 k453 bx454 => (?_))
      have hcl455 : (splice (splice cur421 (i * Enc.devop.size) ((curu.drop 0).take (m.length * Enc.devop.size))) ((i + m.length) * Enc.devop.size) ((cur.drop (i * Enc.devop.size)).take ((l.length - i) * Enc.devop.size))).length = G420 * Enc.devop.size := by rw [splice_len (by rw [List.length_take, List.length_drop, Nat.min_eq_left (by have h2 := ((by rw [← Nat.add_mul]; exact Nat.le_trans (Nat.mul_le_mul_right _ (by omega)) hns) : (i * Enc.devop.size) + (l.length - i) * Enc.devop.size ≤ cur.length); omega)]; exact (by rw [hcl440, ← Nat.add_mul]; exact Nat.mul_le_mul_right _ (by omega)))]; exact hcl440
      have bg := bg.keep k453 (nin1 ne433)
      have bgu := bgu.keep k453 (nin1 ne434)
      have ms := ms.trans m452
      have ks := ks.step0 k453 (fun b hb => by first | (simp at hb; done) | exact .inl hb | (simp only [List.mem_singleton] at hb; subst hb; first | (left; simp [Value.ownBlock]; done) | (right; omega)))
      refine wl_nil (thenQ_n (?_))
      refine cw_seq (?_)
      refine cw_region (by kernel_rfl) (wl_s (o_move (Value.slice (some ⟨b419, 0, none⟩) (l.length + m.length) G420) rfl (wl_s (o_assign (Value.slice (some ⟨b419, 0, none⟩) (l.length + m.length) G420) rfl (wl_nil (thenQ_n (?_)))))))
      refine cw_ret (thenQ_r (end_r rfl (res1 rfl rfl rfl) (?_)))
      exact ⟨_, (b419 :: B), rfl, fun b hb => by cases hb; exact (by repeat (first | assumption | constructor)), fun b hb => by cases hb; exact .inr hnew_b419, fun b hb => List.mem_cons_of_mem _ hb, s451, ms, ks, Own.ins hrd hrdu ms bx454 lo424 hi hcl455 (by omega) hM431 (tk_grow hcss hrd.lens hrd.1 hi hns hcssu hfm ht432 (by rw [hcl429]; exact Nat.mul_le_mul_right _ (by omega)))⟩
    · have hp456 : ((l.length + m.length : Nat) : Int) ≤ ((c : Nat) : Int) := by first | simpa using hc417 | (have e := hc417; simp at e; omega)
      refine cw_skip (thenQ_n (?_))
      refine cw_seq (?_)
      refine cw_region (by kernel_rfl) (wl_s (o_move (Value.slice (some ⟨g, 0, none⟩) l.length c) rfl (wl_s (o_move (vI (l.length : Int)) rfl (wl_s (o_move (vI (m.length : Int)) rfl (wl_s (o_add .i64 (l.length : Int) (m.length : Int) (((l.length + m.length : Nat) : Int)) rfl rfl (w64 (by omega) (by omega)) (wl_s (o_sliceHi (size := Enc.devop.size) Try.underlying26 s_40 g 0 l.length c (l.length + m.length) .i64 ((l.length + m.length : Nat) : Int) rfl rfl rfl (by omega) (wl_s (o_assign (Value.slice (some ⟨g, 0, none⟩) (l.length + m.length) c) rfl (wl_nil (thenQ_n (?_)))))))))))))))
      refine cw_seq (?_)
      refine cw_seq (?_)
      refine cw_region (by kernel_rfl) (wl_s (o_move (Value.slice (some ⟨gu, 0, none⟩) m.length cu) rfl (wl_s (o_move (Value.slice (some ⟨g, 0, none⟩) (l.length + m.length) c) rfl (wl_s (o_move (vI (i : Int)) rfl (wl_s (o_move (vI (m.length : Int)) rfl (wl_s (o_add .i64 (i : Int) (m.length : Int) (((i + m.length : Nat) : Int)) rfl rfl (w64 (by omega) (by omega)) (wl_s (o_sliceLo (size := Enc.devop.size) Try.underlying26 s_40 g (l.length + m.length) c (i + m.length) .i64 ((i + m.length : Nat) : Int) rfl rfl rfl (by omega) (by omega) (by omega) (wl_s (o_overlaps (size := Enc.devop.size) ov_97 Try.underlying26 s_40 rfl bgu bg (Ne.symm hgg) (by rw [hcl]; exact Nat.mul_pos (by omega) (by decide)) (wl_s (o_not false rfl (wl_nil (thenQ_n (?_)))))))))))))))))))
      refine cw_cond true rfl rfl (fun _ => ?_) (fun h => by cases h)
      refine cw_seq (?_)
      refine cw_draw' 8 _ _ [isV (Value.slice (some ⟨g, 0, none⟩) (l.length + m.length) c), isV (vI (i : Int)), isV (vI (m.length : Int)), isV (vI ((i + m.length : Nat) : Int)), isV (Value.slice (some ⟨g, ((i + m.length) * Enc.devop.size), none⟩) ((l.length + m.length) - (i + m.length)) (c - (i + m.length))), isV (Value.slice (some ⟨g, 0, none⟩) (l.length + m.length) c), isV (vI (i : Int)), isV (Value.slice (some ⟨g, (i * Enc.devop.size), none⟩) ((l.length + m.length) - i) (c - i))] (by kernel_rfl) (by kernel_rfl) (by kernel_rfl) (by kernel_rfl) rfl rfl ⟨kI, kI, kI, kI, kI, kI, kI, kI, trivial⟩ ⟨?_, ?_, ?_, ?_, ?_, ?_, ?_, ?_, trivial⟩ ?_
      · intro F1 w1 k1 hf hd
        have k0 := (Keep.drew [] w).trans k1
        have s1 := s0.call k0
        have m1 : Mv B w B w1 := Mv.of_keep k0
        obtain ⟨F2, rfl⟩ := lit_of (F := F1) [(0, Value.slice (some ⟨g, 0, none⟩) (l.length + m.length) c)] ⟨hf 0 (by kernel_rfl), trivial⟩
        exact sp_plain rfl ((o_move (Value.slice (some ⟨g, 0, none⟩) (l.length + m.length) c) rfl (⟨(Keep.refl _ _), rfl⟩)))
      · intro F1 w1 k1 hf hd
        have k0 := (Keep.drew [] w).trans k1
        have s1 := s0.call k0
        have m1 : Mv B w B w1 := Mv.of_keep k0
        obtain ⟨F2, rfl⟩ := lit_of (F := F1) [(1, vI (i : Int))] ⟨hf 1 (by kernel_rfl), trivial⟩
        exact sp_plain rfl ((o_move (vI (i : Int)) rfl (⟨(Keep.refl _ _), rfl⟩)))
      · intro F1 w1 k1 hf hd
        have k0 := (Keep.drew [] w).trans k1
        have s1 := s0.call k0
        have m1 : Mv B w B w1 := Mv.of_keep k0
        obtain ⟨F2, rfl⟩ := lit_of (F := F1) [(7, vI (m.length : Int))] ⟨hf 7 (by kernel_rfl), trivial⟩
        exact sp_plain rfl ((o_move (vI (m.length : Int)) rfl (⟨(Keep.refl _ _), rfl⟩)))
      · intro F1 w1 k1 hf hd
        have k0 := (Keep.drew [] w).trans k1
        have s1 := s0.call k0
        have m1 : Mv B w B w1 := Mv.of_keep k0
        obtain ⟨F2, rfl⟩ := lit_of (F := F1) [(70, vI (i : Int)), (71, vI (m.length : Int))] ⟨hd 1 70 (by kernel_rfl), hd 2 71 (by kernel_rfl), trivial⟩
        exact sp_plain rfl ((o_add .i64 (i : Int) (m.length : Int) (((i + m.length : Nat) : Int)) rfl rfl (w64 (by omega) (by omega)) (⟨(Keep.refl _ _), rfl⟩)))
      · intro F1 w1 k1 hf hd
        have k0 := (Keep.drew [] w).trans k1
        have s1 := s0.call k0
        have m1 : Mv B w B w1 := Mv.of_keep k0
        obtain ⟨F2, rfl⟩ := lit_of (F := F1) [(69, Value.slice (some ⟨g, 0, none⟩) (l.length + m.length) c), (72, vI ((i + m.length : Nat) : Int))] ⟨hd 0 69 (by kernel_rfl), hd 3 72 (by kernel_rfl), trivial⟩
        exact sp_plain rfl ((o_sliceLo (size := Enc.devop.size) Try.underlying26 s_40 g (l.length + m.length) c (i + m.length) .i64 ((i + m.length : Nat) : Int) rfl rfl rfl (by omega) (by omega) (by omega) (⟨(Keep.refl _ _), rfl⟩)))
      · intro F1 w1 k1 hf hd
        have k0 := (Keep.drew [] w).trans k1
        have s1 := s0.call k0
        have m1 : Mv B w B w1 := Mv.of_keep k0
        obtain ⟨F2, rfl⟩ := lit_of (F := F1) [(0, Value.slice (some ⟨g, 0, none⟩) (l.length + m.length) c)] ⟨hf 0 (by kernel_rfl), trivial⟩
        exact sp_plain rfl ((o_move (Value.slice (some ⟨g, 0, none⟩) (l.length + m.length) c) rfl (⟨(Keep.refl _ _), rfl⟩)))
      · intro F1 w1 k1 hf hd
        have k0 := (Keep.drew [] w).trans k1
        have s1 := s0.call k0
        have m1 : Mv B w B w1 := Mv.of_keep k0
        obtain ⟨F2, rfl⟩ := lit_of (F := F1) [(1, vI (i : Int))] ⟨hf 1 (by kernel_rfl), trivial⟩
        exact sp_plain rfl ((o_move (vI (i : Int)) rfl (⟨(Keep.refl _ _), rfl⟩)))
      · intro F1 w1 k1 hf hd
        have k0 := (Keep.drew [] w).trans k1
        have s1 := s0.call k0
        have m1 : Mv B w B w1 := Mv.of_keep k0
        obtain ⟨F2, rfl⟩ := lit_of (F := F1) [(74, Value.slice (some ⟨g, 0, none⟩) (l.length + m.length) c), (75, vI (i : Int))] ⟨hd 5 74 (by kernel_rfl), hd 6 75 (by kernel_rfl), trivial⟩
        exact sp_plain rfl ((o_sliceLo (size := Enc.devop.size) Try.underlying26 s_40 g (l.length + m.length) c i .i64 (i : Int) rfl rfl rfl (by omega) (by omega) (by omega) (⟨(Keep.refl _ _), rfl⟩)))
      intro F458 w459 k457 hT460 hF461
      have s462 := s0.call k457
      have m463 : Mv B w B w459 := Mv.of_keep k457
      have bg := bg.keep k457 (by simp)
      have bgu := bgu.keep k457 (by simp)
      have ms := ms.trans m463
      have ks := ks.step0 k457 (fun b hb => by first | (simp at hb; done) | exact .inl hb | (simp only [List.mem_singleton] at hb; subst hb; first | (left; simp [Value.ownBlock]; done) | (right; omega)))
      obtain ⟨F2, rfl⟩ := lit_of (F := F458) [(0, Value.slice (some ⟨g, 0, none⟩) (l.length + m.length) c), (1, vI (i : Int)), (2, Value.slice (some ⟨gu, 0, none⟩) m.length cu), (95, undef), (73, Value.slice (some ⟨g, ((i + m.length) * Enc.devop.size), none⟩) ((l.length + m.length) - (i + m.length)) (c - (i + m.length))), (76, Value.slice (some ⟨g, (i * Enc.devop.size), none⟩) ((l.length + m.length) - i) (c - i))] ⟨hF461 0 (by kernel_rfl), hF461 1 (by kernel_rfl), hF461 2 (by kernel_rfl), hF461 95 (by kernel_rfl), hT460 4 73 (by kernel_rfl) (by decide), hT460 7 76 (by kernel_rfl) (by decide), trivial⟩
      clear hT460 hF461
      refine wl_s (o_copyRaw (size := Enc.devop.size) (l.length - i) Try.underlying26 s_40 rfl rfl bg bg (by repeat (first | assumption | constructor)) (by simp only [Nat.min_def]; split <;> omega) (by rw [hcl, ← Nat.add_mul]; exact Nat.mul_le_mul_right _ (by omega)) (by rw [← Nat.add_mul]; exact Nat.le_trans (Nat.mul_le_mul_right _ (by omega)) hns) one1 s462 fun w466 s467 m468 k469 bx470 => (?_))
      have hcl471 : (splice cur ((i + m.length) * Enc.devop.size) ((cur.drop (i * Enc.devop.size)).take ((l.length - i) * Enc.devop.size))).length = c * Enc.devop.size := by rw [splice_len (by rw [List.length_take, List.length_drop, Nat.min_eq_left (by have h2 := ((by rw [← Nat.add_mul]; exact Nat.le_trans (Nat.mul_le_mul_right _ (by omega)) hns) : (i * Enc.devop.size) + (l.length - i) * Enc.devop.size ≤ cur.length); omega)]; exact (by rw [hcl, ← Nat.add_mul]; exact Nat.mul_le_mul_right _ (by omega)))]; exact hcl
      have bgu := bgu.keep k469 (nin1 (Ne.symm hgg))
      have ms := ms.trans m468
      have ks := ks.step0 k469 (fun b hb => by first | (simp at hb; done) | exact .inl hb | (simp only [List.mem_singleton] at hb; subst hb; first | (left; simp [Value.ownBlock]; done) | (right; omega)))
      refine wl_nil (thenQ_n (?_))
      refine cw_seq (?_)
      refine cw_region (by kernel_rfl) (wl_s (o_move (Value.slice (some ⟨g, 0, none⟩) (l.length + m.length) c) rfl (wl_s (o_move (vI (i : Int)) rfl (wl_s (o_sliceLo (size := Enc.devop.size) Try.underlying26 s_40 g (l.length + m.length) c i .i64 (i : Int) rfl rfl rfl (by omega) (by omega) (by omega) (wl_s (o_move (Value.slice (some ⟨gu, 0, none⟩) m.length cu) rfl (wl_s (o_copyRaw (size := Enc.devop.size) m.length Try.underlying26 s_40 rfl rfl bx470 bgu (by repeat (first | assumption | constructor)) (by simp only [Nat.min_def]; split <;> omega) (by rw [hcl471, ← Nat.add_mul]; exact Nat.mul_le_mul_right _ (by omega)) (by rw [Nat.zero_add]; exact hmu) one2 s467 fun w472 s473 m474 k475 bx476 => (?_)))))))))))
      have hcl477 : (splice (splice cur ((i + m.length) * Enc.devop.size) ((cur.drop (i * Enc.devop.size)).take ((l.length - i) * Enc.devop.size))) (i * Enc.devop.size) ((curu.drop 0).take (m.length * Enc.devop.size))).length = c * Enc.devop.size := by rw [splice_len (by rw [List.length_take, List.length_drop, Nat.min_eq_left (by have h2 := ((by rw [Nat.zero_add]; exact hmu) : 0 + m.length * Enc.devop.size ≤ curu.length); omega)]; exact (by rw [hcl471, ← Nat.add_mul]; exact Nat.mul_le_mul_right _ (by omega)))]; exact hcl471
      have bgu := bgu.keep k475 (nin1 (Ne.symm hgg))
      have ms := ms.trans m474
      have ks := ks.step0 k475 (fun b hb => by first | (simp at hb; done) | exact .inl hb | (simp only [List.mem_singleton] at hb; subst hb; first | (left; simp [Value.ownBlock]; done) | (right; omega)))
      refine wl_nil (thenQ_n (?_))
      refine cw_seq (?_)
      refine cw_region (by kernel_rfl) (wl_s (o_move (Value.slice (some ⟨g, 0, none⟩) (l.length + m.length) c) rfl (wl_s (o_assign (Value.slice (some ⟨g, 0, none⟩) (l.length + m.length) c) rfl (wl_nil (thenQ_n (?_)))))))
      refine cw_ret (thenQ_r (end_r rfl (res1 rfl rfl rfl) (?_)))
      exact ⟨_, B, rfl, fun b hb => by cases hb; exact (by repeat (first | assumption | constructor)), fun b hb => by cases hb; exact .inl rfl, fun b hb => hb, s473, ms, ks, Own.ins hrd hrdu ms bx476 hgb hi hcl477 (by omega) hcm (tk_shift hcss hrd.lens hrd.1 hi (by rw [hcl]; exact Nat.mul_le_mul_right _ (by omega)) hcssu hfm)⟩

end Go.Proofs.Ytjpniibleelgiaa
