/- Walks, printed by gen.py. -/
import Derived.Test.YtpdekmknnpkmgaaTy
set_option linter.unusedSimpArgs false
set_option linter.unusedVariables false
namespace Go.Proofs.Ytpdekmknnpkmgaa
open Go.Fw Go.RowKit

set_option maxHeartbeats 4000000 in
set_option maxRecDepth 100000 in
theorem c_insertI {O B : List Nat} {w0 w : World} (v u : Value) (l m : List Int) (i : Nat) (s0 : St w0 O w B) (ho : Own Enc.int 3 w0.heap.size (B ++ O) w v l) (hu : Own Enc.int 3 w0.heap.size (B ++ O) w u m) (hB : ∀ b, v.ownBlock = some b → b ∈ B) (hBu : ∀ b, u.ownBlock = some b → b ∈ B) (hne : ∀ b, v.ownBlock = some b → u.ownBlock ≠ some b) (hm : 0 < m.length) (hi : i ≤ l.length) (hlen : (l.length + m.length) * 8 ≤ 140737488355328) (hmax : l.length + m.length ≤ maxLen) : Calls Try.prog 62 [v, vI (i : Int), u].toArray w (fun e w' => ∃ (v' : Value) (B' : List Nat), e = .returned v' ∧ (∀ b, v'.ownBlock = some b → b ∈ B') ∧ (∀ b, v'.ownBlock = some b → v.ownBlock = some b ∨ w.heap.size ≤ b) ∧ (∀ b ∈ B, b ∈ B') ∧ St w0 O w' B' ∧ Mv B w B' w' ∧ Keep v.ownBlock.toList w w' ∧ Own Enc.int 3 w0.heap.size (B' ++ O) w' v' (l.take i ++ m ++ l.drop i)) :=  by
  have ms : Mv B w B w := Mv.refl _ _
  have ks : Keep v.ownBlock.toList w w := Keep.refl _ _
  have hl63 := hmax
  simp only [maxLen] at hl63
  refine calls_of_cw 95 Try.func62 rfl rfl (of_decide_eq_true rfl) (fun F0 => ?_)
  refine cw_seq (?_)
  refine cw_region (by kernel_rfl) (wl_s (o_assign (Value.slice none 0 0) rfl (wl_nil (thenQ_n (?_)))))
  refine cw_seq (?_)
  refine cw_region (by kernel_rfl) (wl_s (o_move (v) rfl (wl_s (o_move (vI (i : Int)) rfl (wl_s (o_sliceOwn Try.underlying22 s_3 i .i64 (i : Int) rfl rfl rfl (by first | omega | (simp; omega)) ho fun v1 hs2 => (wl_nil (thenQ_n (?_)))))))))
  refine cw_seq (?_)
  refine cw_region (by kernel_rfl) (wl_s (o_move (u) rfl (wl_s (o_lenO Try.underlying22 rfl hu (wl_s (o_assign (vI (m.length : Int)) rfl (wl_nil (thenQ_n (?_)))))))))
  refine cw_seq (?_)
  refine cw_seq (?_)
  refine cw_region (by kernel_rfl) (wl_s (o_move (vI (m.length : Int)) rfl (wl_s (o_eql .i64 (m.length : Int) (0 : Int) rfl rfl (wl_nil (thenQ_n (?_)))))))
  have hb3 : ((m.length : Int) == (0 : Int)) = false := (by rw [beq_eq_false_iff_ne]; omega)
  rw [hb3]
  refine cw_cond false rfl rfl (fun h => by cases h) (fun _ => ?_)
  refine cw_skip (thenQ_n (?_))
  refine cw_seq (?_)
  refine cw_region (by kernel_rfl) (wl_s (o_move (v) rfl (wl_s (o_lenO Try.underlying22 rfl ho (wl_s (o_assign (vI (l.length : Int)) rfl (wl_nil (thenQ_n (?_)))))))))
  refine cw_seq (?_)
  refine cw_seq (?_)
  refine cw_region (by kernel_rfl) (wl_s (o_move (vI (i : Int)) rfl (wl_s (o_move (vI (l.length : Int)) rfl (wl_s (o_eql .i64 (i : Int) (l.length : Int) rfl rfl (wl_nil (thenQ_n (?_)))))))))
  refine cw_cond ((i : Int) == (l.length : Int)) rfl rfl (fun hc4 => ?_) (fun hc4 => ?_)
  · have hp5 : (i : Int) = (l.length : Int) := by first | simpa using hc4 | (have e := hc4; simp at e; omega)
    refine cw_seq (?_)
    refine cw_region (by kernel_rfl) (wl_s (o_move (v) rfl (wl_s (o_move (u) rfl (wl_s (o_appendOO (E := Enc.int) (l := l) (m := m) Try.underlying22 i_3 rfl (by decide) rfl rfl ho hu  hB hlen hmax s0 fun v10 w6 B12 hB13 at14 sub15 s7 m8 k9 ho11 => (?_)))))))
    have ne16 : ∀ b, u.ownBlock = some b → v10.ownBlock ≠ some b := fun b hb e => by rcases at14 with e1 | e1 <;> rw [e1] at e <;> first | (simp [Value.ownBlock] at e; done) | (cases e; have := (hu.lt _ hb).2; omega) | (exact absurd e ((fun b hb e => hne b e hb) b hb))
    have hBu : ∀ b, u.ownBlock = some b → b ∈ B12 := fun b hb => sub15 b (hBu b hb)
    have hu := hu.mv m8 k9 (fun b hb => by simp only [Option.mem_toList]; first | (simp [Value.ownBlock]; done) | exact (fun b hb e => hne b e hb) b hb)
    have ms := ms.trans m8
    have ks := ks.step0 k9 (fun b hb => by first | (simp at hb; done) | exact .inl hb | (simp only [List.mem_singleton] at hb; subst hb; first | (left; simp [Value.ownBlock]; done) | (right; omega)))
    refine wl_s (o_assign (v10) rfl (wl_nil (thenQ_n (?_))))
    refine cw_ret (thenQ_r (end_r rfl (res1 rfl rfl rfl) (?_)))
    rw [show l ++ m = l.take i ++ m ++ l.drop i from by rw [show i = l.length from by omega, List.take_length, List.drop_length, List.append_nil]] at ho11
    exact ⟨v10, B12, rfl, hB13, fun b hb => by rcases at14 with e1 | e1 <;> rw [e1] at hb; exact .inl hb; cases hb; exact .inr (Nat.le_refl _), sub15, s7, ms, ks, ho11⟩
  · have hp17 : (i : Int) ≠ (l.length : Int) := by first | simpa using hc4 | (have e := hc4; simp at e; omega)
    obtain ⟨g, c, cur, css, rfl, hgb, bg, hnc, hcm, hcl, hcss, hrd⟩ := own_open ho (by omega)
    obtain ⟨gu, cu, curu, cssu, rfl, hgub, bgu, hncu, hcmu, hclu, hcssu, hrdu⟩ := own_open hu (by omega)
    have hgB : g ∈ B := hB g rfl
    have hguB : gu ∈ B := hBu gu rfl
    have hgg : g ≠ gu := fun e => hne g rfl (by rw [e]; rfl)
    have hns : l.length * Enc.int.size ≤ cur.length := by rw [hcl]; exact Nat.mul_le_mul_right _ hnc
    have hmu : m.length * Enc.int.size ≤ curu.length := by rw [hclu]; exact Nat.mul_le_mul_right _ hncu
    have one1 := ones_drop hrd hcss hi hns
    have one2 := ones_all hrdu hcssu
    have hfm := hrdu.flen
    refine cw_skip (thenQ_n (?_))
    refine cw_seq (?_)
    refine cw_seq (?_)
    refine cw_region (by kernel_rfl) (wl_s (o_move (vI (l.length : Int)) rfl (wl_s (o_move (vI (m.length : Int)) rfl (wl_s (o_add .i64 (l.length : Int) (m.length : Int) (((l.length + m.length : Nat) : Int)) rfl rfl (w64 (by omega) (by omega)) (wl_s (o_move (Value.slice (some ⟨g, 0, none⟩) l.length c) rfl (wl_s (o_cap _ _ c Try.underlying22 rfl (wl_s (o_gtr .i64 ((l.length + m.length : Nat) : Int) ((c : Nat) : Int) rfl rfl (wl_nil (thenQ_n (?_)))))))))))))))
    refine cw_cond (decide (((c : Nat) : Int) < ((l.length + m.length : Nat) : Int))) rfl rfl (fun hc18 => ?_) (fun hc18 => ?_)
    · have hp19 : ((c : Nat) : Int) < ((l.length + m.length : Nat) : Int) := by first | simpa using hc18 | (have e := hc18; simp at e; omega)
      refine cw_seq (?_)
      refine cw_region (by kernel_rfl) (wl_s (o_move (Value.slice (some ⟨g, 0, none⟩) l.length c) rfl (wl_s (o_move (vI (i : Int)) rfl (wl_s (o_sliceHi (size := Enc.int.size) Try.underlying22 s_3 g 0 l.length c i .i64 (i : Int) rfl rfl rfl (by omega) (wl_s (o_move (vI (l.length : Int)) rfl (wl_s (o_move (vI (m.length : Int)) rfl (wl_s (o_add .i64 (l.length : Int) (m.length : Int) (((l.length + m.length : Nat) : Int)) rfl rfl (w64 (by omega) (by omega)) (wl_s (o_move (vI (i : Int)) rfl (wl_s (o_sub .i64 ((l.length + m.length : Nat) : Int) (i : Int) ((((l.length + m.length) - i : Nat) : Int)) rfl rfl (w64 (by omega) (by omega)) (wl_s (o_appendZ (size := Enc.int.size) (i := i) ((l.length + m.length) - i) (l.length + m.length) (((l.length + m.length) - i : Nat) : Int) (by omega) Try.underlying22 Try.underlying3 i_3 rfl (by decide) rfl rfl rfl bg (by rw [hcl]; exact Nat.mul_le_mul_right _ (by omega)) (by omega) (by omega) hlen hmax s0 fun b20 G21 cur22 w23 e24 lo25 s26 m27 k28 bx29 hcl30 hG31 hM32 ht33 => (?_)))))))))))))))))))
      have ne34 : g ≠ b20 := by have := bg.lt; omega
      have ne35 : gu ≠ b20 := by have := bgu.lt; omega
      have hnew_b20 : w.heap.size ≤ b20 := by have := ks.size; omega
      clear e24
      have bg := bg.keep k28 (by simp)
      have bgu := bgu.keep k28 (by simp)
      have ms := ms.trans m27
      have ks := ks.step0 k28 (fun b hb => by first | (simp at hb; done) | exact .inl hb | (simp only [List.mem_singleton] at hb; subst hb; first | (left; simp [Value.ownBlock]; done) | (right; omega)))
      refine wl_s (o_assign (Value.slice (some ⟨b20, 0, none⟩) (l.length + m.length) G21) rfl (wl_nil (thenQ_n (?_))))
      refine cw_seq (?_)
      refine cw_region (by kernel_rfl) (wl_s (o_move (Value.slice (some ⟨b20, 0, none⟩) (l.length + m.length) G21) rfl (wl_s (o_move (vI (i : Int)) rfl (wl_s (o_sliceLo (size := Enc.int.size) Try.underlying22 s_3 b20 (l.length + m.length) G21 i .i64 (i : Int) rfl rfl rfl (by omega) (by omega) (by omega) (wl_s (o_move (Value.slice (some ⟨gu, 0, none⟩) m.length cu) rfl (wl_s (o_copyRaw (size := Enc.int.size) m.length Try.underlying22 s_3 rfl rfl bx29 bgu (by repeat (first | assumption | constructor)) (by simp only [Nat.min_def]; split <;> omega) (by rw [hcl30, ← Nat.add_mul]; exact Nat.mul_le_mul_right _ (by omega)) (by rw [Nat.zero_add]; exact hmu) one2 s26 fun w36 s37 m38 k39 bx40 => (?_)))))))))))
      have hcl41 : (splice cur22 (i * Enc.int.size) ((curu.drop 0).take (m.length * Enc.int.size))).length = G21 * Enc.int.size := by rw [splice_len (by rw [List.length_take, List.length_drop, Nat.min_eq_left (by have h2 := ((by rw [Nat.zero_add]; exact hmu) : 0 + m.length * Enc.int.size ≤ curu.length); omega)]; exact (by rw [hcl30, ← Nat.add_mul]; exact Nat.mul_le_mul_right _ (by omega)))]; exact hcl30
      have bg := bg.keep k39 (nin1 ne34)
      have bgu := bgu.keep k39 (nin1 ne35)
      have ms := ms.trans m38
      have ks := ks.step0 k39 (fun b hb => by first | (simp at hb; done) | exact .inl hb | (simp only [List.mem_singleton] at hb; subst hb; first | (left; simp [Value.ownBlock]; done) | (right; omega)))
      refine wl_nil (thenQ_n (?_))
      refine cw_seq (?_)
      refine cw_draw' 8 _ _ [isV (Value.slice (some ⟨b20, 0, none⟩) (l.length + m.length) G21), isV (vI (i : Int)), isV (vI (m.length : Int)), isV (vI ((i + m.length : Nat) : Int)), isV (Value.slice (some ⟨b20, ((i + m.length) * Enc.int.size), none⟩) ((l.length + m.length) - (i + m.length)) (G21 - (i + m.length))), isV (Value.slice (some ⟨g, 0, none⟩) l.length c), isV (vI (i : Int)), isV (Value.slice (some ⟨g, (i * Enc.int.size), none⟩) (l.length - i) (c - i))] (by kernel_rfl) (by kernel_rfl) (by kernel_rfl) (by kernel_rfl) rfl rfl ⟨kI, kI, kI, kI, kI, kI, kI, kI, trivial⟩ ⟨?_, ?_, ?_, ?_, ?_, ?_, ?_, ?_, trivial⟩ ?_
      · intro F1 w1 k1 hf hd
        have k0 := (Keep.drew [] w36).trans k1
        have s1 := s37.call k0
        have m1 : Mv (b20 :: B) w36 (b20 :: B) w1 := Mv.of_keep k0
        obtain ⟨F2, rfl⟩ := lit_of (F := F1) [(9, Value.slice (some ⟨b20, 0, none⟩) (l.length + m.length) G21)] ⟨hf 9 (by kernel_rfl), trivial⟩
        exact sp_plain rfl ((o_move (Value.slice (some ⟨b20, 0, none⟩) (l.length + m.length) G21) rfl (⟨(Keep.refl _ _), rfl⟩)))
      · intro F1 w1 k1 hf hd
        have k0 := (Keep.drew [] w36).trans k1
        have s1 := s37.call k0
        have m1 : Mv (b20 :: B) w36 (b20 :: B) w1 := Mv.of_keep k0
        obtain ⟨F2, rfl⟩ := lit_of (F := F1) [(1, vI (i : Int))] ⟨hf 1 (by kernel_rfl), trivial⟩
        exact sp_plain rfl ((o_move (vI (i : Int)) rfl (⟨(Keep.refl _ _), rfl⟩)))
      · intro F1 w1 k1 hf hd
        have k0 := (Keep.drew [] w36).trans k1
        have s1 := s37.call k0
        have m1 : Mv (b20 :: B) w36 (b20 :: B) w1 := Mv.of_keep k0
        obtain ⟨F2, rfl⟩ := lit_of (F := F1) [(7, vI (m.length : Int))] ⟨hf 7 (by kernel_rfl), trivial⟩
        exact sp_plain rfl ((o_move (vI (m.length : Int)) rfl (⟨(Keep.refl _ _), rfl⟩)))
      · intro F1 w1 k1 hf hd
        have k0 := (Keep.drew [] w36).trans k1
        have s1 := s37.call k0
        have m1 : Mv (b20 :: B) w36 (b20 :: B) w1 := Mv.of_keep k0
        obtain ⟨F2, rfl⟩ := lit_of (F := F1) [(47, vI (i : Int)), (48, vI (m.length : Int))] ⟨hd 1 47 (by kernel_rfl), hd 2 48 (by kernel_rfl), trivial⟩
        exact sp_plain rfl ((o_add .i64 (i : Int) (m.length : Int) (((i + m.length : Nat) : Int)) rfl rfl (w64 (by omega) (by omega)) (⟨(Keep.refl _ _), rfl⟩)))
      · intro F1 w1 k1 hf hd
        have k0 := (Keep.drew [] w36).trans k1
        have s1 := s37.call k0
        have m1 : Mv (b20 :: B) w36 (b20 :: B) w1 := Mv.of_keep k0
        obtain ⟨F2, rfl⟩ := lit_of (F := F1) [(46, Value.slice (some ⟨b20, 0, none⟩) (l.length + m.length) G21), (49, vI ((i + m.length : Nat) : Int))] ⟨hd 0 46 (by kernel_rfl), hd 3 49 (by kernel_rfl), trivial⟩
        exact sp_plain rfl ((o_sliceLo (size := Enc.int.size) Try.underlying22 s_3 b20 (l.length + m.length) G21 (i + m.length) .i64 ((i + m.length : Nat) : Int) rfl rfl rfl (by omega) (by omega) (by omega) (⟨(Keep.refl _ _), rfl⟩)))
      · intro F1 w1 k1 hf hd
        have k0 := (Keep.drew [] w36).trans k1
        have s1 := s37.call k0
        have m1 : Mv (b20 :: B) w36 (b20 :: B) w1 := Mv.of_keep k0
        obtain ⟨F2, rfl⟩ := lit_of (F := F1) [(0, Value.slice (some ⟨g, 0, none⟩) l.length c)] ⟨hf 0 (by kernel_rfl), trivial⟩
        exact sp_plain rfl ((o_move (Value.slice (some ⟨g, 0, none⟩) l.length c) rfl (⟨(Keep.refl _ _), rfl⟩)))
      · intro F1 w1 k1 hf hd
        have k0 := (Keep.drew [] w36).trans k1
        have s1 := s37.call k0
        have m1 : Mv (b20 :: B) w36 (b20 :: B) w1 := Mv.of_keep k0
        obtain ⟨F2, rfl⟩ := lit_of (F := F1) [(1, vI (i : Int))] ⟨hf 1 (by kernel_rfl), trivial⟩
        exact sp_plain rfl ((o_move (vI (i : Int)) rfl (⟨(Keep.refl _ _), rfl⟩)))
      · intro F1 w1 k1 hf hd
        have k0 := (Keep.drew [] w36).trans k1
        have s1 := s37.call k0
        have m1 : Mv (b20 :: B) w36 (b20 :: B) w1 := Mv.of_keep k0
        obtain ⟨F2, rfl⟩ := lit_of (F := F1) [(51, Value.slice (some ⟨g, 0, none⟩) l.length c), (52, vI (i : Int))] ⟨hd 5 51 (by kernel_rfl), hd 6 52 (by kernel_rfl), trivial⟩
        exact sp_plain rfl ((o_sliceLo (size := Enc.int.size) Try.underlying22 s_3 g l.length c i .i64 (i : Int) rfl rfl rfl (by omega) (by omega) (by omega) (⟨(Keep.refl _ _), rfl⟩)))
      intro F43 w44 k42 hT45 hF46
      have s47 := s37.call k42
      have m48 : Mv (b20 :: B) w36 (b20 :: B) w44 := Mv.of_keep k42
      have bg := bg.keep k42 (by simp)
      have bgu := bgu.keep k42 (by simp)
      have bx40 := bx40.keep k42 (by simp)
      have ms := ms.trans m48
      have ks := ks.step0 k42 (fun b hb => by first | (simp at hb; done) | exact .inl hb | (simp only [List.mem_singleton] at hb; subst hb; first | (left; simp [Value.ownBlock]; done) | (right; omega)))
      obtain ⟨F2, rfl⟩ := lit_of (F := F43) [(9, Value.slice (some ⟨b20, 0, none⟩) (l.length + m.length) G21), (95, undef), (50, Value.slice (some ⟨b20, ((i + m.length) * Enc.int.size), none⟩) ((l.length + m.length) - (i + m.length)) (G21 - (i + m.length))), (53, Value.slice (some ⟨g, (i * Enc.int.size), none⟩) (l.length - i) (c - i))] ⟨hF46 9 (by kernel_rfl), hF46 95 (by kernel_rfl), hT45 4 50 (by kernel_rfl) (by decide), hT45 7 53 (by kernel_rfl) (by decide), trivial⟩
      clear hT45 hF46
      refine wl_s (o_copyRaw (size := Enc.int.size) (l.length - i) Try.underlying22 s_3 rfl rfl bx40 bg (by repeat (first | assumption | constructor)) (by simp only [Nat.min_def]; split <;> omega) (by rw [hcl41, ← Nat.add_mul]; exact Nat.mul_le_mul_right _ (by omega)) (by rw [← Nat.add_mul]; exact Nat.le_trans (Nat.mul_le_mul_right _ (by omega)) hns) one1 s47 fun w50 s51 m52 k53 bx54 => (?_))
      have hcl55 : (splice (splice cur22 (i * Enc.int.size) ((curu.drop 0).take (m.length * Enc.int.size))) ((i + m.length) * Enc.int.size) ((cur.drop (i * Enc.int.size)).take ((l.length - i) * Enc.int.size))).length = G21 * Enc.int.size := by rw [splice_len (by rw [List.length_take, List.length_drop, Nat.min_eq_left (by have h2 := ((by rw [← Nat.add_mul]; exact Nat.le_trans (Nat.mul_le_mul_right _ (by omega)) hns) : (i * Enc.int.size) + (l.length - i) * Enc.int.size ≤ cur.length); omega)]; exact (by rw [hcl41, ← Nat.add_mul]; exact Nat.mul_le_mul_right _ (by omega)))]; exact hcl41
      have bg := bg.keep k53 (nin1 ne34)
      have bgu := bgu.keep k53 (nin1 ne35)
      have ms := ms.trans m52
      have ks := ks.step0 k53 (fun b hb => by first | (simp at hb; done) | exact .inl hb | (simp only [List.mem_singleton] at hb; subst hb; first | (left; simp [Value.ownBlock]; done) | (right; omega)))
      refine wl_nil (thenQ_n (?_))
      refine cw_seq (?_)
      refine cw_region (by kernel_rfl) (wl_s (o_move (Value.slice (some ⟨b20, 0, none⟩) (l.length + m.length) G21) rfl (wl_s (o_assign (Value.slice (some ⟨b20, 0, none⟩) (l.length + m.length) G21) rfl (wl_nil (thenQ_n (?_)))))))
      refine cw_ret (thenQ_r (end_r rfl (res1 rfl rfl rfl) (?_)))
      exact ⟨_, (b20 :: B), rfl, fun b hb => by cases hb; exact (by repeat (first | assumption | constructor)), fun b hb => by cases hb; exact .inr hnew_b20, fun b hb => List.mem_cons_of_mem _ hb, s51, ms, ks, Own.ins hrd hrdu ms bx54 lo25 hi hcl55 (by omega) hM32 (tk_grow hcss hrd.lens hrd.1 hi hns hcssu hfm ht33 (by rw [hcl30]; exact Nat.mul_le_mul_right _ (by omega)))⟩
    · have hp56 : ((l.length + m.length : Nat) : Int) ≤ ((c : Nat) : Int) := by first | simpa using hc18 | (have e := hc18; simp at e; omega)
      refine cw_skip (thenQ_n (?_))
      refine cw_seq (?_)
      refine cw_region (by kernel_rfl) (wl_s (o_move (Value.slice (some ⟨g, 0, none⟩) l.length c) rfl (wl_s (o_move (vI (l.length : Int)) rfl (wl_s (o_move (vI (m.length : Int)) rfl (wl_s (o_add .i64 (l.length : Int) (m.length : Int) (((l.length + m.length : Nat) : Int)) rfl rfl (w64 (by omega) (by omega)) (wl_s (o_sliceHi (size := Enc.int.size) Try.underlying22 s_3 g 0 l.length c (l.length + m.length) .i64 ((l.length + m.length : Nat) : Int) rfl rfl rfl (by omega) (wl_s (o_assign (Value.slice (some ⟨g, 0, none⟩) (l.length + m.length) c) rfl (wl_nil (thenQ_n (?_)))))))))))))))
      refine cw_seq (?_)
      refine cw_seq (?_)
      refine cw_region (by kernel_rfl) (wl_s (o_move (Value.slice (some ⟨gu, 0, none⟩) m.length cu) rfl (wl_s (o_move (Value.slice (some ⟨g, 0, none⟩) (l.length + m.length) c) rfl (wl_s (o_move (vI (i : Int)) rfl (wl_s (o_move (vI (m.length : Int)) rfl (wl_s (o_add .i64 (i : Int) (m.length : Int) (((i + m.length : Nat) : Int)) rfl rfl (w64 (by omega) (by omega)) (wl_s (o_sliceLo (size := Enc.int.size) Try.underlying22 s_3 g (l.length + m.length) c (i + m.length) .i64 ((i + m.length : Nat) : Int) rfl rfl rfl (by omega) (by omega) (by omega) (wl_s (o_overlaps (size := Enc.int.size) ov_65 Try.underlying22 s_3 rfl bgu bg (Ne.symm hgg) (by rw [hcl]; exact Nat.mul_pos (by omega) (by decide)) (wl_s (o_not false rfl (wl_nil (thenQ_n (?_)))))))))))))))))))
      refine cw_cond true rfl rfl (fun _ => ?_) (fun h => by cases h)
      refine cw_seq (?_)
      refine cw_draw' 8 _ _ [isV (Value.slice (some ⟨g, 0, none⟩) (l.length + m.length) c), isV (vI (i : Int)), isV (vI (m.length : Int)), isV (vI ((i + m.length : Nat) : Int)), isV (Value.slice (some ⟨g, ((i + m.length) * Enc.int.size), none⟩) ((l.length + m.length) - (i + m.length)) (c - (i + m.length))), isV (Value.slice (some ⟨g, 0, none⟩) (l.length + m.length) c), isV (vI (i : Int)), isV (Value.slice (some ⟨g, (i * Enc.int.size), none⟩) ((l.length + m.length) - i) (c - i))] (by kernel_rfl) (by kernel_rfl) (by kernel_rfl) (by kernel_rfl) rfl rfl ⟨kI, kI, kI, kI, kI, kI, kI, kI, trivial⟩ ⟨?_, ?_, ?_, ?_, ?_, ?_, ?_, ?_, trivial⟩ ?_
      · intro F1 w1 k1 hf hd
        have k0 := (Keep.drew [] w).trans k1
        have s1 := s0.call k0
        have m1 : Mv B w B w1 := Mv.of_keep k0
        obtain ⟨F2, rfl⟩ := lit_of (F := F1) [(0, Value.slice (some ⟨g, 0, none⟩) (l.length + m.length) c)] ⟨hf 0 (by kernel_rfl), trivial⟩
        exact sp_plain rfl ((o_move (Value.slice (some ⟨g, 0, none⟩) (l.length + m.length) c) rfl (⟨(Keep.refl _ _), rfl⟩)))
      · intro F1 w1 k1 hf hd
        have k0 := (Keep.drew [] w).trans k1
        have s1 := s0.call k0
        have m1 : Mv B w B w1 := Mv.of_keep k0
        obtain ⟨F2, rfl⟩ := lit_of (F := F1) [(1, vI (i : Int))] ⟨hf 1 (by kernel_rfl), trivial⟩
        exact sp_plain rfl ((o_move (vI (i : Int)) rfl (⟨(Keep.refl _ _), rfl⟩)))
      · intro F1 w1 k1 hf hd
        have k0 := (Keep.drew [] w).trans k1
        have s1 := s0.call k0
        have m1 : Mv B w B w1 := Mv.of_keep k0
        obtain ⟨F2, rfl⟩ := lit_of (F := F1) [(7, vI (m.length : Int))] ⟨hf 7 (by kernel_rfl), trivial⟩
        exact sp_plain rfl ((o_move (vI (m.length : Int)) rfl (⟨(Keep.refl _ _), rfl⟩)))
      · intro F1 w1 k1 hf hd
        have k0 := (Keep.drew [] w).trans k1
        have s1 := s0.call k0
        have m1 : Mv B w B w1 := Mv.of_keep k0
        obtain ⟨F2, rfl⟩ := lit_of (F := F1) [(70, vI (i : Int)), (71, vI (m.length : Int))] ⟨hd 1 70 (by kernel_rfl), hd 2 71 (by kernel_rfl), trivial⟩
        exact sp_plain rfl ((o_add .i64 (i : Int) (m.length : Int) (((i + m.length : Nat) : Int)) rfl rfl (w64 (by omega) (by omega)) (⟨(Keep.refl _ _), rfl⟩)))
      · intro F1 w1 k1 hf hd
        have k0 := (Keep.drew [] w).trans k1
        have s1 := s0.call k0
        have m1 : Mv B w B w1 := Mv.of_keep k0
        obtain ⟨F2, rfl⟩ := lit_of (F := F1) [(69, Value.slice (some ⟨g, 0, none⟩) (l.length + m.length) c), (72, vI ((i + m.length : Nat) : Int))] ⟨hd 0 69 (by kernel_rfl), hd 3 72 (by kernel_rfl), trivial⟩
        exact sp_plain rfl ((o_sliceLo (size := Enc.int.size) Try.underlying22 s_3 g (l.length + m.length) c (i + m.length) .i64 ((i + m.length : Nat) : Int) rfl rfl rfl (by omega) (by omega) (by omega) (⟨(Keep.refl _ _), rfl⟩)))
      · intro F1 w1 k1 hf hd
        have k0 := (Keep.drew [] w).trans k1
        have s1 := s0.call k0
        have m1 : Mv B w B w1 := Mv.of_keep k0
        obtain ⟨F2, rfl⟩ := lit_of (F := F1) [(0, Value.slice (some ⟨g, 0, none⟩) (l.length + m.length) c)] ⟨hf 0 (by kernel_rfl), trivial⟩
        exact sp_plain rfl ((o_move (Value.slice (some ⟨g, 0, none⟩) (l.length + m.length) c) rfl (⟨(Keep.refl _ _), rfl⟩)))
      · intro F1 w1 k1 hf hd
        have k0 := (Keep.drew [] w).trans k1
        have s1 := s0.call k0
        have m1 : Mv B w B w1 := Mv.of_keep k0
        obtain ⟨F2, rfl⟩ := lit_of (F := F1) [(1, vI (i : Int))] ⟨hf 1 (by kernel_rfl), trivial⟩
        exact sp_plain rfl ((o_move (vI (i : Int)) rfl (⟨(Keep.refl _ _), rfl⟩)))
      · intro F1 w1 k1 hf hd
        have k0 := (Keep.drew [] w).trans k1
        have s1 := s0.call k0
        have m1 : Mv B w B w1 := Mv.of_keep k0
        obtain ⟨F2, rfl⟩ := lit_of (F := F1) [(74, Value.slice (some ⟨g, 0, none⟩) (l.length + m.length) c), (75, vI (i : Int))] ⟨hd 5 74 (by kernel_rfl), hd 6 75 (by kernel_rfl), trivial⟩
        exact sp_plain rfl ((o_sliceLo (size := Enc.int.size) Try.underlying22 s_3 g (l.length + m.length) c i .i64 (i : Int) rfl rfl rfl (by omega) (by omega) (by omega) (⟨(Keep.refl _ _), rfl⟩)))
      intro F58 w59 k57 hT60 hF61
      have s62 := s0.call k57
      have m63 : Mv B w B w59 := Mv.of_keep k57
      have bg := bg.keep k57 (by simp)
      have bgu := bgu.keep k57 (by simp)
      have ms := ms.trans m63
      have ks := ks.step0 k57 (fun b hb => by first | (simp at hb; done) | exact .inl hb | (simp only [List.mem_singleton] at hb; subst hb; first | (left; simp [Value.ownBlock]; done) | (right; omega)))
      obtain ⟨F2, rfl⟩ := lit_of (F := F58) [(0, Value.slice (some ⟨g, 0, none⟩) (l.length + m.length) c), (1, vI (i : Int)), (2, Value.slice (some ⟨gu, 0, none⟩) m.length cu), (95, undef), (73, Value.slice (some ⟨g, ((i + m.length) * Enc.int.size), none⟩) ((l.length + m.length) - (i + m.length)) (c - (i + m.length))), (76, Value.slice (some ⟨g, (i * Enc.int.size), none⟩) ((l.length + m.length) - i) (c - i))] ⟨hF61 0 (by kernel_rfl), hF61 1 (by kernel_rfl), hF61 2 (by kernel_rfl), hF61 95 (by kernel_rfl), hT60 4 73 (by kernel_rfl) (by decide), hT60 7 76 (by kernel_rfl) (by decide), trivial⟩
      clear hT60 hF61
      refine wl_s (o_copyRaw (size := Enc.int.size) (l.length - i) Try.underlying22 s_3 rfl rfl bg bg (by repeat (first | assumption | constructor)) (by simp only [Nat.min_def]; split <;> omega) (by rw [hcl, ← Nat.add_mul]; exact Nat.mul_le_mul_right _ (by omega)) (by rw [← Nat.add_mul]; exact Nat.le_trans (Nat.mul_le_mul_right _ (by omega)) hns) one1 s62 fun w65 s66 m67 k68 bx69 => (?_))
      have hcl70 : (splice cur ((i + m.length) * Enc.int.size) ((cur.drop (i * Enc.int.size)).take ((l.length - i) * Enc.int.size))).length = c * Enc.int.size := by rw [splice_len (by rw [List.length_take, List.length_drop, Nat.min_eq_left (by have h2 := ((by rw [← Nat.add_mul]; exact Nat.le_trans (Nat.mul_le_mul_right _ (by omega)) hns) : (i * Enc.int.size) + (l.length - i) * Enc.int.size ≤ cur.length); omega)]; exact (by rw [hcl, ← Nat.add_mul]; exact Nat.mul_le_mul_right _ (by omega)))]; exact hcl
      have bgu := bgu.keep k68 (nin1 (Ne.symm hgg))
      have ms := ms.trans m67
      have ks := ks.step0 k68 (fun b hb => by first | (simp at hb; done) | exact .inl hb | (simp only [List.mem_singleton] at hb; subst hb; first | (left; simp [Value.ownBlock]; done) | (right; omega)))
      refine wl_nil (thenQ_n (?_))
      refine cw_seq (?_)
      refine cw_region (by kernel_rfl) (wl_s (o_move (Value.slice (some ⟨g, 0, none⟩) (l.length + m.length) c) rfl (wl_s (o_move (vI (i : Int)) rfl (wl_s (o_sliceLo (size := Enc.int.size) Try.underlying22 s_3 g (l.length + m.length) c i .i64 (i : Int) rfl rfl rfl (by omega) (by omega) (by omega) (wl_s (o_move (Value.slice (some ⟨gu, 0, none⟩) m.length cu) rfl (wl_s (o_copyRaw (size := Enc.int.size) m.length Try.underlying22 s_3 rfl rfl bx69 bgu (by repeat (first | assumption | constructor)) (by simp only [Nat.min_def]; split <;> omega) (by rw [hcl70, ← Nat.add_mul]; exact Nat.mul_le_mul_right _ (by omega)) (by rw [Nat.zero_add]; exact hmu) one2 s66 fun w71 s72 m73 k74 bx75 => (?_)))))))))))
      have hcl76 : (splice (splice cur ((i + m.length) * Enc.int.size) ((cur.drop (i * Enc.int.size)).take ((l.length - i) * Enc.int.size))) (i * Enc.int.size) ((curu.drop 0).take (m.length * Enc.int.size))).length = c * Enc.int.size := by rw [splice_len (by rw [List.length_take, List.length_drop, Nat.min_eq_left (by have h2 := ((by rw [Nat.zero_add]; exact hmu) : 0 + m.length * Enc.int.size ≤ curu.length); omega)]; exact (by rw [hcl70, ← Nat.add_mul]; exact Nat.mul_le_mul_right _ (by omega)))]; exact hcl70
      have bgu := bgu.keep k74 (nin1 (Ne.symm hgg))
      have ms := ms.trans m73
      have ks := ks.step0 k74 (fun b hb => by first | (simp at hb; done) | exact .inl hb | (simp only [List.mem_singleton] at hb; subst hb; first | (left; simp [Value.ownBlock]; done) | (right; omega)))
      refine wl_nil (thenQ_n (?_))
      refine cw_seq (?_)
      refine cw_region (by kernel_rfl) (wl_s (o_move (Value.slice (some ⟨g, 0, none⟩) (l.length + m.length) c) rfl (wl_s (o_assign (Value.slice (some ⟨g, 0, none⟩) (l.length + m.length) c) rfl (wl_nil (thenQ_n (?_)))))))
      refine cw_ret (thenQ_r (end_r rfl (res1 rfl rfl rfl) (?_)))
      exact ⟨_, B, rfl, fun b hb => by cases hb; exact (by repeat (first | assumption | constructor)), fun b hb => by cases hb; exact .inl rfl, fun b hb => hb, s72, ms, ks, Own.ins hrd hrdu ms bx75 hgb hi hcl76 (by omega) hcm (tk_shift hcss hrd.lens hrd.1 hi (by rw [hcl]; exact Nat.mul_le_mul_right _ (by omega)) hcssu hfm)⟩

end Go.Proofs.Ytpdekmknnpkmgaa
