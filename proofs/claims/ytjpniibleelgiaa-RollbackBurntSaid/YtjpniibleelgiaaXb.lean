/- Walks, printed by gen.py. -/
import Derived.Test.YtjpniibleelgiaaXa
set_option linter.unusedSimpArgs false
set_option linter.unusedVariables false
namespace Go.Proofs.Ytjpniibleelgiaa
open Go.Fw Go.RowKit

set_option maxHeartbeats 4000000 in
set_option maxRecDepth 100000 in
theorem c_check42 {O : List Nat} (l_v : Value) (l : List DeviceOp) (w : World) (h_l : RdL Enc.devop w O l_v l) (hO : ∀ b ∈ O, b < w.heap.size) : CallsK Try.prog 29 [l_v] w (fun v _ => v = vI (checkM l)) :=  by
 have lim_l := h_l.len_le
 have h_l : RdL Enc.devop w ([] ++ O) l_v l := h_l
 have s0 : St w O w [] := St.start hO
 refine callsK_of 38 Try.func29 rfl rfl (of_decide_eq_true rfl) (fun F0 => ?_)
 refine cw_seq (?_)
 refine cw_region (by kernel_rfl) (wl_s (o_assign (vI (0 : Int)) rfl (wl_nil (thenQ_n (?_)))))
 refine cw_seq (?_)
 refine cw_seq (?_)
 refine cw_region (by kernel_rfl) (wl_s (o_move (l_v) rfl (wl_s (o_lenR Try.underlying26 rfl h_l (wl_s (o_gtr .i64 (l.length : Int) (256 : Int) rfl rfl (wl_s (o_move (Value.bool (decide ((256 : Int) < (l.length : Int)))) rfl (?_)))))))))
 cases hb299 : (decide ((256 : Int) < (l.length : Int)))
 ·have hp300 : (l.length : Int) ≤ (256 : Int) := by first | simpa using hb299 | (have e := hb299; simp at e; omega)
  refine wl_t rfl (o_move (l_v) rfl (wl_t rfl (o_callK (vs := [l_v]) enter_70 (c_numbered (O := [] ++ O) l_v l w h_l s0.lt) rfl s0 fun v301 w302 s303 m304 k305 r306 => (?_))))
  obtain rfl := r306
  have h_l := h_l.mv m304
  refine wl_t rfl (o_not (numberedM l) rfl (wl_s (o_pickF (Value.bool (!(numberedM l))) rfl rfl (wl_nil (thenQ_n (?_))))))
  refine cw_cond (!(numberedM l)) rfl rfl (fun hc307 => ?_) (fun hc307 => ?_)
  ·have hp308 : (numberedM l) = false := by first | simpa using hc307 | (have e := hc307; rw [Bool.not_eq_true'] at e; exact e) | (have e := hc307; rw [Bool.not_eq_false'] at e; exact e) | (have e := hc307; simp at e; omega)
   refine cw_seq (?_)
   refine cw_region (by kernel_rfl) (wl_s (o_assign (vI (420 : Int)) rfl (wl_nil (thenQ_n (?_)))))
   refine cw_ret (thenQ_r (end_r rfl (res1 rfl rfl rfl) (?_)))
   have e : (checkM l) = (420 : Int) := by first | (rw [hr0_1]; exact scan_some (by omega) (by ((repeat (first | (refine (if_pos ?_).trans ?_; solve | omega | assumption | (simp only [opBad, dbs]; first | done | (repeat (first | omega | assumption | (right; first | omega | assumption | (constructor <;> first | omega | assumption)) | left))) | (rw [Bool.not_eq_true]; simp only [opBad, dbs]; first | done | omega | assumption | ((repeat' apply And.intro) <;> first | omega | assumption)) | (simp only [*, dbs]; done)) | (refine (if_neg ?_).trans ?_; solve | omega | assumption | (simp only [opBad, dbs]; first | done | (repeat (first | omega | assumption | (right; first | omega | assumption | (constructor <;> first | omega | assumption)) | left))) | (rw [Bool.not_eq_true]; simp only [opBad, dbs]; first | done | omega | assumption | ((repeat' apply And.intro) <;> first | omega | assumption)) | (simp only [*, dbs]; done)))); rfl))) | (rw [hr0_1]; exact scan_end (by omega)) | (unfold checkM; ((repeat (first | (refine (if_pos ?_).trans ?_; solve | omega | assumption | (simp only [opBad, dbs]; first | done | (repeat (first | omega | assumption | (right; first | omega | assumption | (constructor <;> first | omega | assumption)) | left))) | (rw [Bool.not_eq_true]; simp only [opBad, dbs]; first | done | omega | assumption | ((repeat' apply And.intro) <;> first | omega | assumption)) | (simp only [*, dbs]; done)) | (refine (if_neg ?_).trans ?_; solve | omega | assumption | (simp only [opBad, dbs]; first | done | (repeat (first | omega | assumption | (right; first | omega | assumption | (constructor <;> first | omega | assumption)) | left))) | (rw [Bool.not_eq_true]; simp only [opBad, dbs]; first | done | omega | assumption | ((repeat' apply And.intro) <;> first | omega | assumption)) | (simp only [*, dbs]; done)))); rfl))
   exact ⟨_, rfl, s303.keep, by rw [e]; first | done | exact rfl⟩
  ·have hp309 : (numberedM l) = true := by first | simpa using hc307 | (have e := hc307; rw [Bool.not_eq_true'] at e; exact e) | (have e := hc307; rw [Bool.not_eq_false'] at e; exact e) | (have e := hc307; simp at e; omega)
   refine cw_skip (thenQ_n (?_))
   refine cw_seq (?_)
   refine cw_seq (?_)
   refine cw_region (by kernel_rfl) (wl_s (o_move (l_v) rfl (wl_s (o_lenR Try.underlying26 rfl h_l (wl_s (o_move (vI (0 : Int)) rfl (wl_nil (thenQ_n (?_)))))))))
   refine cw_block (?_)
   refine cw_loop (fun mI FI wI => ∃ (k : Nat) (B : List Nat), k ≤ l.length ∧ checkM l = scan (fun k => if opBad l k then some 420 else none) 0 k (l.length - k) ∧ mI = l.length - k ∧ (∃ F1, FI = upds F1 [(0, l_v), (13, l_v), (14, vI (l.length : Int)), (15, vI ((k : Nat) : Int)), (38, undef)]) ∧ St w O wI B ∧ RdL Enc.devop wI (B ++ O) (l_v) (l)) (l.length - (0)) ?_ ?_
   ·exact ⟨(0), [], (by first | omega | (simp; done) | (simp; omega) | simp_all), (by unfold checkM; ((repeat (first | (refine (if_pos ?_).trans ?_; solve | omega | assumption | (simp only [opBad, dbs]; first | done | (repeat (first | omega | assumption | (right; first | omega | assumption | (constructor <;> first | omega | assumption)) | left))) | (rw [Bool.not_eq_true]; simp only [opBad, dbs]; first | done | omega | assumption | ((repeat' apply And.intro) <;> first | omega | assumption)) | (simp only [*, dbs]; done)) | (refine (if_neg ?_).trans ?_; solve | omega | assumption | (simp only [opBad, dbs]; first | done | (repeat (first | omega | assumption | (right; first | omega | assumption | (constructor <;> first | omega | assumption)) | left))) | (rw [Bool.not_eq_true]; simp only [opBad, dbs]; first | done | omega | assumption | ((repeat' apply And.intro) <;> first | omega | assumption)) | (simp only [*, dbs]; done)))); rfl)), rfl, ⟨_, upds_self _ ⟨rfl, rfl, rfl, (by first | rfl | exact congrArg (Value.int _) (by first | omega | (simp))), rfl, trivial⟩⟩, s303, h_l⟩
   ·intro ml0 F wl0 hI
    clear h_l
    obtain ⟨k, Bl0, hr0_0, hr0_1, hm0, ⟨Fl0, rfl⟩, sl0, h_l⟩ := hI
    refine cw_seq (?_)
    refine cw_region (by kernel_rfl) (wl_s (o_lss .i64 ((k : Nat) : Int) (l.length : Int) rfl rfl (wl_nil (thenQ_n (?_)))))
    refine cw_seq (?_)
    refine cw_cond (decide (((k : Nat) : Int) < (l.length : Int))) rfl rfl (fun hc310 => ?_) (fun hc310 => ?_)
    ·have hp311 : ((k : Nat) : Int) < (l.length : Int) := by first | simpa using hc310 | (have e := hc310; simp at e; omega)
     refine cw_skip (thenQ_n (?_))
     refine cw_seq (?_)
     refine cw_block (?_)
     refine cw_seq (?_)
     refine cw_region (by kernel_rfl) (wl_s (o_move (vI ((k : Nat) : Int)) rfl (wl_s (o_idx Try.underlying26 s_40 .i64 ((k : Nat) : Int) k rfl rfl rfl h_l (by omega) fun a312 hp313 => (wl_s (o_loadS Try.underlying40 rfl s_40 rfl hp313 fun cs314 hs315 => (?_)))))))
     obtain rfl := hs315
     refine wl_s (o_alloc [vI (0 : Int), vI (0 : Int), vI (0 : Int), vI (0 : Int), vI (0 : Int), vI (0 : Int)] z_40 rfl sl0 fun b316 w317 e322 s318 m319 k320 bx321 => (?_))
     clear e322
     have h_l := h_l.mv m319
     refine wl_s (o_assign (vI ((k : Nat) : Int)) rfl (wl_n (o_store (vs := [vI ((l[k]!).device), vI ((l[k]!).no), vI ((l[k]!).kind), vI ((l[k]!).copy), vI ((l[k]!).to), vI ((l[k]!).token)]) (.agg #[vI ((l[k]!).device), vI ((l[k]!).no), vI ((l[k]!).kind), vI ((l[k]!).copy), vI ((l[k]!).to), vI ((l[k]!).token)]) rfl rfl rfl s_40 (fun u hu => by simp only [List.mem_cons, List.not_mem_nil, or_false] at hu; rcases hu with rfl | rfl | rfl | rfl | rfl | rfl <;> first | rfl) (by repeat (first | assumption | constructor)) bx321 (of_decide_eq_true rfl) s318 fun w323 s324 m325 k326 bx327 => (?_))))
     have h_l := h_l.mv m325
     refine wl_nil (thenQ_n (?_))
     refine cw_seq (?_)
     cases hb328 : (!(validM (l[k]!)))
     ·have hp329 : (validM (l[k]!)) = true := by first | simpa using hb328 | (have e := hb328; rw [Bool.not_eq_true'] at e; exact e) | (have e := hb328; rw [Bool.not_eq_false'] at e; exact e) | (have e := hb328; simp at e; omega)
      cases hb330 : (decide ((0 : Int) < ((k : Nat) : Int)))
      ·have hp331 : ((k : Nat) : Int) ≤ (0 : Int) := by first | simpa using hb330 | (have e := hb330; simp at e; omega)
       refine cw_draw' 13 _ _ [isV (Value.agg #[vI ((l[k]!).device), vI ((l[k]!).no), vI ((l[k]!).kind), vI ((l[k]!).copy), vI ((l[k]!).to), vI ((l[k]!).token)]), isV (Value.bool (validM (l[k]!))), isV (Value.bool false), isV (Value.bool false), isV (vI ((k : Nat) : Int)), isV (Value.bool false), isV (Value.bool false), isV undef, isV undef, isV undef, isV undef, isV undef, isV undef] (by kernel_rfl) (by kernel_rfl) (by kernel_rfl) (by kernel_rfl) rfl rfl ⟨kI, kI, kI, kI, kI, kI, kI, kI, kI, kI, kI, kI, kI, trivial⟩ ⟨?_, ?_, ?_, ?_, ?_, ?_, ?_, ?_, ?_, ?_, ?_, ?_, ?_, trivial⟩ ?_
       ·intro F1 w1 k1 hf hd
        have k0 := (Keep.drew [] w323).trans k1
        have bx327 := bx327.keep k0 (by simp)
        obtain ⟨F2, rfl⟩ := lit_of (F := F1) [(4, Value.pointer (some ⟨b316, 0, none⟩))] ⟨hf 4 (by kernel_rfl), trivial⟩
        exact sp_plain rfl ((o_loadBxA (vs := [vI ((l[k]!).device), vI ((l[k]!).no), vI ((l[k]!).kind), vI ((l[k]!).copy), vI ((l[k]!).to), vI ((l[k]!).token)]) Try.underlying40 rfl s_40 rfl bx327 rfl (⟨(Keep.refl _ _), rfl⟩)))
       ·intro F1 w1 k1 hf hd
        have k0 := (Keep.drew [] w323).trans k1
        have s1 := s324.call k0
        obtain ⟨F2, rfl⟩ := lit_of (F := F1) [(20, Value.agg #[vI ((l[k]!).device), vI ((l[k]!).no), vI ((l[k]!).kind), vI ((l[k]!).copy), vI ((l[k]!).to), vI ((l[k]!).token)])] ⟨hd 0 20 (by kernel_rfl), trivial⟩
        refine sp_plain rfl ((o_callK (vs := [Value.agg #[vI ((l[k]!).device), vI ((l[k]!).no), vI ((l[k]!).kind), vI ((l[k]!).copy), vI ((l[k]!).to), vI ((l[k]!).token)]]) enter_54 (c_valid (O := (b316 :: Bl0) ++ O) [vI ((l[k]!).device), vI ((l[k]!).no), vI ((l[k]!).kind), vI ((l[k]!).copy), vI ((l[k]!).to), vI ((l[k]!).token)] (l[k]!) w1 rfl s1.lt) rfl s1 fun v332 w333 s334 m335 k336 r337 => (?_)))
        obtain rfl := r337
        exact ⟨k336, rfl⟩
       ·intro F1 w1 k1 hf hd
        obtain ⟨F2, rfl⟩ := lit_of (F := F1) [(21, Value.bool (validM (l[k]!)))] ⟨hd 1 21 (by kernel_rfl), trivial⟩
        refine sp_plain rfl ((o_not (validM (l[k]!)) rfl (?_)))
        exact ⟨(Keep.refl _ _), congrArg Value.bool (hb328)⟩
       ·intro F1 w1 k1 hf hd
        obtain ⟨F2, rfl⟩ := lit_of (F := F1) [(22, Value.bool false)] ⟨hd 2 22 (by kernel_rfl), trivial⟩
        exact sp_plain rfl ((o_move (Value.bool false) rfl (⟨(Keep.refl _ _), rfl⟩)))
       ·intro F1 w1 k1 hf hd
        obtain ⟨F2, rfl⟩ := lit_of (F := F1) [(3, vI ((k : Nat) : Int)), (23, Value.bool false)] ⟨hf 3 (by kernel_rfl), hd 3 23 (by kernel_rfl), trivial⟩
        exact sp_take rfl rfl ((o_move (vI ((k : Nat) : Int)) rfl (⟨(Keep.refl _ _), rfl⟩)))
       ·intro F1 w1 k1 hf hd
        obtain ⟨F2, rfl⟩ := lit_of (F := F1) [(23, Value.bool false), (24, vI ((k : Nat) : Int))] ⟨hd 3 23 (by kernel_rfl), hd 4 24 (by kernel_rfl), trivial⟩
        refine sp_take rfl rfl ((o_gtr .i64 ((k : Nat) : Int) (0 : Int) rfl rfl (?_)))
        exact ⟨(Keep.refl _ _), congrArg Value.bool (hb330)⟩
       ·intro F1 w1 k1 hf hd
        obtain ⟨F2, rfl⟩ := lit_of (F := F1) [(23, Value.bool false), (25, Value.bool false)] ⟨hd 3 23 (by kernel_rfl), hd 5 25 (by kernel_rfl), trivial⟩
        exact sp_take rfl rfl ((o_move (Value.bool false) rfl (⟨(Keep.refl _ _), rfl⟩)))
       ·intro F1 w1 k1 hf hd
        exact sp_skipD rfl rfl (hd 6 26 (by kernel_rfl)) rfl rfl
       ·intro F1 w1 k1 hf hd
        exact sp_skipD rfl rfl (hd 6 26 (by kernel_rfl)) rfl rfl
       ·intro F1 w1 k1 hf hd
        exact sp_skipD rfl rfl (hd 6 26 (by kernel_rfl)) rfl rfl
       ·intro F1 w1 k1 hf hd
        exact sp_skipD rfl rfl (hd 6 26 (by kernel_rfl)) rfl rfl
       ·intro F1 w1 k1 hf hd
        exact sp_skipD rfl rfl (hd 6 26 (by kernel_rfl)) rfl rfl
       ·intro F1 w1 k1 hf hd
        exact sp_skipD rfl rfl (hd 6 26 (by kernel_rfl)) rfl rfl
       intro F339 w340 k338 hT341 hF342
       have s343 := s324.call k338
       have m344 : Mv (b316 :: Bl0) w323 (b316 :: Bl0) w340 := Mv.of_keep k338
       have h_l := h_l.mv m344
       obtain ⟨F2, rfl⟩ := lit_of (F := F339) [(0, l_v), (13, l_v), (14, vI (l.length : Int)), (15, vI ((k : Nat) : Int)), (38, undef), (23, Value.bool false), (26, Value.bool false)] ⟨hF342 0 (by kernel_rfl), hF342 13 (by kernel_rfl), hF342 14 (by kernel_rfl), hF342 15 (by kernel_rfl), hF342 38 (by kernel_rfl), hT341 3 23 (by kernel_rfl) (by decide), hT341 6 26 (by kernel_rfl) (by decide), trivial⟩
       clear hT341 hF342
       refine wl_k rfl (wl_k rfl (wl_t rfl (o_pickF (Value.bool false) rfl rfl (wl_s (o_pickF (Value.bool false) rfl rfl (wl_nil (thenQ_n (?_))))))))
       refine cw_cond false rfl rfl (fun h => by cases h) (fun _ => ?_)
       refine cw_skip (blockQ_n (thenQ_n (?_)))
       refine cw_region (by kernel_rfl) (wl_s (o_add .i64 ((k : Nat) : Int) (1 : Int) (((k + 1 : Nat) : Int)) rfl rfl (w64 (by omega) (by omega)) (wl_s (o_move (vI ((k + 1 : Nat) : Int)) rfl (wl_nil (thenQ_n (?_)))))))
       exact ⟨_, (by omega), (k + 1), (b316 :: Bl0), (by first | omega | (simp; done) | (simp; omega) | simp_all), (hr0_1.trans (scan_none (by omega) (by ((repeat (first | (refine (if_pos ?_).trans ?_; solve | omega | assumption | (simp only [opBad, dbs]; first | done | (repeat (first | omega | assumption | (right; first | omega | assumption | (constructor <;> first | omega | assumption)) | left))) | (rw [Bool.not_eq_true]; simp only [opBad, dbs]; first | done | omega | assumption | ((repeat' apply And.intro) <;> first | omega | assumption)) | (simp only [*, dbs]; done)) | (refine (if_neg ?_).trans ?_; solve | omega | assumption | (simp only [opBad, dbs]; first | done | (repeat (first | omega | assumption | (right; first | omega | assumption | (constructor <;> first | omega | assumption)) | left))) | (rw [Bool.not_eq_true]; simp only [opBad, dbs]; first | done | omega | assumption | ((repeat' apply And.intro) <;> first | omega | assumption)) | (simp only [*, dbs]; done)))); rfl)))), rfl, ⟨_, upds_self _ ⟨rfl, rfl, rfl, (by first | rfl | exact congrArg (Value.int _) (by first | omega | (simp))), rfl, trivial⟩⟩, s343, h_l⟩
      ·have hp347 : (0 : Int) < ((k : Nat) : Int) := by first | simpa using hb330 | (have e := hb330; simp at e; omega)
       refine cw_draw' 13 _ _ [isV (Value.agg #[vI ((l[k]!).device), vI ((l[k]!).no), vI ((l[k]!).kind), vI ((l[k]!).copy), vI ((l[k]!).to), vI ((l[k]!).token)]), isV (Value.bool (validM (l[k]!))), isV (Value.bool false), isV (Value.bool false), isV (vI ((k : Nat) : Int)), isV (Value.bool true), isV (Value.bool true), fun (vT : Value) (wT : World) => RdL Enc.devop wT ((b316 :: Bl0) ++ O) vT (l), isV (vI ((k : Nat) : Int)), isV (vI ((k - 1 : Nat) : Int)), fun (vT : Value) (wT : World) => ∃ aT, vT = .pointer (some aT) ∧ PT Enc.devop wT ((b316 :: Bl0) ++ O) (.pointer (some aT)) (l[k - 1]!), isV (Value.agg #[vI ((l[k - 1]!).device), vI ((l[k - 1]!).no), vI ((l[k - 1]!).kind), vI ((l[k - 1]!).copy), vI ((l[k - 1]!).to), vI ((l[k - 1]!).token)]), isV (Value.agg #[vI ((l[k]!).device), vI ((l[k]!).no), vI ((l[k]!).kind), vI ((l[k]!).copy), vI ((l[k]!).to), vI ((l[k]!).token)])] (by kernel_rfl) (by kernel_rfl) (by kernel_rfl) (by kernel_rfl) rfl rfl ⟨kI, kI, kI, kI, kI, kI, kI, fun _ _ _ h k => h.mv (Mv.of_keep k), kI, kI, fun _ _ _ ⟨a, e, h⟩ k => ⟨a, e, h.mv (Mv.of_keep k)⟩, kI, kI, trivial⟩ ⟨?_, ?_, ?_, ?_, ?_, ?_, ?_, ?_, ?_, ?_, ?_, ?_, ?_, trivial⟩ ?_
       ·intro F1 w1 k1 hf hd
        have k0 := (Keep.drew [] w323).trans k1
        have bx327 := bx327.keep k0 (by simp)
        obtain ⟨F2, rfl⟩ := lit_of (F := F1) [(4, Value.pointer (some ⟨b316, 0, none⟩))] ⟨hf 4 (by kernel_rfl), trivial⟩
        exact sp_plain rfl ((o_loadBxA (vs := [vI ((l[k]!).device), vI ((l[k]!).no), vI ((l[k]!).kind), vI ((l[k]!).copy), vI ((l[k]!).to), vI ((l[k]!).token)]) Try.underlying40 rfl s_40 rfl bx327 rfl (⟨(Keep.refl _ _), rfl⟩)))
       ·intro F1 w1 k1 hf hd
        have k0 := (Keep.drew [] w323).trans k1
        have s1 := s324.call k0
        obtain ⟨F2, rfl⟩ := lit_of (F := F1) [(20, Value.agg #[vI ((l[k]!).device), vI ((l[k]!).no), vI ((l[k]!).kind), vI ((l[k]!).copy), vI ((l[k]!).to), vI ((l[k]!).token)])] ⟨hd 0 20 (by kernel_rfl), trivial⟩
        refine sp_plain rfl ((o_callK (vs := [Value.agg #[vI ((l[k]!).device), vI ((l[k]!).no), vI ((l[k]!).kind), vI ((l[k]!).copy), vI ((l[k]!).to), vI ((l[k]!).token)]]) enter_54 (c_valid (O := (b316 :: Bl0) ++ O) [vI ((l[k]!).device), vI ((l[k]!).no), vI ((l[k]!).kind), vI ((l[k]!).copy), vI ((l[k]!).to), vI ((l[k]!).token)] (l[k]!) w1 rfl s1.lt) rfl s1 fun v348 w349 s350 m351 k352 r353 => (?_)))
        obtain rfl := r353
        exact ⟨k352, rfl⟩
       ·intro F1 w1 k1 hf hd
        obtain ⟨F2, rfl⟩ := lit_of (F := F1) [(21, Value.bool (validM (l[k]!)))] ⟨hd 1 21 (by kernel_rfl), trivial⟩
        refine sp_plain rfl ((o_not (validM (l[k]!)) rfl (?_)))
        exact ⟨(Keep.refl _ _), congrArg Value.bool (hb328)⟩
       ·intro F1 w1 k1 hf hd
        obtain ⟨F2, rfl⟩ := lit_of (F := F1) [(22, Value.bool false)] ⟨hd 2 22 (by kernel_rfl), trivial⟩
        exact sp_plain rfl ((o_move (Value.bool false) rfl (⟨(Keep.refl _ _), rfl⟩)))
       ·intro F1 w1 k1 hf hd
        obtain ⟨F2, rfl⟩ := lit_of (F := F1) [(3, vI ((k : Nat) : Int)), (23, Value.bool false)] ⟨hf 3 (by kernel_rfl), hd 3 23 (by kernel_rfl), trivial⟩
        exact sp_take rfl rfl ((o_move (vI ((k : Nat) : Int)) rfl (⟨(Keep.refl _ _), rfl⟩)))
       ·intro F1 w1 k1 hf hd
        obtain ⟨F2, rfl⟩ := lit_of (F := F1) [(23, Value.bool false), (24, vI ((k : Nat) : Int))] ⟨hd 3 23 (by kernel_rfl), hd 4 24 (by kernel_rfl), trivial⟩
        refine sp_take rfl rfl ((o_gtr .i64 ((k : Nat) : Int) (0 : Int) rfl rfl (?_)))
        exact ⟨(Keep.refl _ _), congrArg Value.bool (hb330)⟩
       ·intro F1 w1 k1 hf hd
        obtain ⟨F2, rfl⟩ := lit_of (F := F1) [(23, Value.bool false), (25, Value.bool true)] ⟨hd 3 23 (by kernel_rfl), hd 5 25 (by kernel_rfl), trivial⟩
        exact sp_take rfl rfl ((o_move (Value.bool true) rfl (⟨(Keep.refl _ _), rfl⟩)))
       ·intro F1 w1 k1 hf hd
        have k0 := (Keep.drew [] w323).trans k1
        have m1 : Mv (b316 :: Bl0) w323 (b316 :: Bl0) w1 := Mv.of_keep k0
        have h_l := h_l.mv m1
        obtain ⟨F2, rfl⟩ := lit_of (F := F1) [(0, l_v), (26, Value.bool true)] ⟨hf 0 (by kernel_rfl), hd 6 26 (by kernel_rfl), trivial⟩
        exact sp_take rfl rfl ((o_move (l_v) rfl (⟨(Keep.refl _ _), h_l⟩)))
       ·intro F1 w1 k1 hf hd
        obtain ⟨F2, rfl⟩ := lit_of (F := F1) [(3, vI ((k : Nat) : Int)), (26, Value.bool true)] ⟨hf 3 (by kernel_rfl), hd 6 26 (by kernel_rfl), trivial⟩
        exact sp_take rfl rfl ((o_move (vI ((k : Nat) : Int)) rfl (⟨(Keep.refl _ _), rfl⟩)))
       ·intro F1 w1 k1 hf hd
        obtain ⟨F2, rfl⟩ := lit_of (F := F1) [(26, Value.bool true), (28, vI ((k : Nat) : Int))] ⟨hd 6 26 (by kernel_rfl), hd 8 28 (by kernel_rfl), trivial⟩
        exact sp_take rfl rfl ((o_sub .i64 ((k : Nat) : Int) (1 : Int) (((k - 1 : Nat) : Int)) rfl rfl (w64 (by omega) (by omega)) (⟨(Keep.refl _ _), rfl⟩)))
       ·intro F1 w1 k1 hf hd
        obtain ⟨v354, e356, hl355⟩ : ∃ v, F1 27 = v ∧ RdL Enc.devop w1 ((b316 :: Bl0) ++ O) v (l) := ⟨_, rfl, hd 7 27 (by kernel_rfl)⟩
        have := hl355.len_le
        obtain ⟨F2, rfl⟩ := lit_of (F := F1) [(26, Value.bool true), (27, v354), (29, vI ((k - 1 : Nat) : Int))] ⟨hd 6 26 (by kernel_rfl), e356, hd 9 29 (by kernel_rfl), trivial⟩
        exact sp_take rfl rfl ((o_idx Try.underlying26 s_40 .i64 ((k - 1 : Nat) : Int) (k - 1) rfl rfl rfl hl355 (by omega) fun a357 hp358 => (⟨(Keep.refl _ _), ⟨a357, rfl, hp358⟩⟩)))
       ·intro F1 w1 k1 hf hd
        obtain ⟨a359, e361, hp360⟩ : ∃ aX_, F1 30 = .pointer (some aX_) ∧ PT Enc.devop w1 ((b316 :: Bl0) ++ O) (.pointer (some aX_)) (l[k - 1]!) := hd 10 30 (by kernel_rfl)
        obtain ⟨F2, rfl⟩ := lit_of (F := F1) [(26, Value.bool true), (30, Value.pointer (some a359))] ⟨hd 6 26 (by kernel_rfl), e361, trivial⟩
        refine sp_take rfl rfl ((o_loadS Try.underlying40 rfl s_40 rfl hp360 fun cs362 hs363 => (?_)))
        obtain rfl := hs363
        exact ⟨(Keep.refl _ _), rfl⟩
       ·intro F1 w1 k1 hf hd
        have k0 := (Keep.drew [] w323).trans k1
        have bx327 := bx327.keep k0 (by simp)
        obtain ⟨F2, rfl⟩ := lit_of (F := F1) [(4, Value.pointer (some ⟨b316, 0, none⟩)), (26, Value.bool true)] ⟨hf 4 (by kernel_rfl), hd 6 26 (by kernel_rfl), trivial⟩
        exact sp_take rfl rfl ((o_loadBxA (vs := [vI ((l[k]!).device), vI ((l[k]!).no), vI ((l[k]!).kind), vI ((l[k]!).copy), vI ((l[k]!).to), vI ((l[k]!).token)]) Try.underlying40 rfl s_40 rfl bx327 rfl (⟨(Keep.refl _ _), rfl⟩)))
       intro F365 w366 k364 hT367 hF368
       have s369 := s324.call k364
       have m370 : Mv (b316 :: Bl0) w323 (b316 :: Bl0) w366 := Mv.of_keep k364
       have h_l := h_l.mv m370
       obtain ⟨F2, rfl⟩ := lit_of (F := F365) [(0, l_v), (13, l_v), (14, vI (l.length : Int)), (15, vI ((k : Nat) : Int)), (38, undef), (23, Value.bool false), (26, Value.bool true), (31, Value.agg #[vI ((l[k - 1]!).device), vI ((l[k - 1]!).no), vI ((l[k - 1]!).kind), vI ((l[k - 1]!).copy), vI ((l[k - 1]!).to), vI ((l[k - 1]!).token)]), (32, Value.agg #[vI ((l[k]!).device), vI ((l[k]!).no), vI ((l[k]!).kind), vI ((l[k]!).copy), vI ((l[k]!).to), vI ((l[k]!).token)])] ⟨hF368 0 (by kernel_rfl), hF368 13 (by kernel_rfl), hF368 14 (by kernel_rfl), hF368 15 (by kernel_rfl), hF368 38 (by kernel_rfl), hT367 3 23 (by kernel_rfl) (by decide), hT367 6 26 (by kernel_rfl) (by decide), hT367 11 31 (by kernel_rfl) (by decide), hT367 12 32 (by kernel_rfl) (by decide), trivial⟩
       clear hT367 hF368
       refine wl_t rfl (o_callK (vs := [Value.agg #[vI ((l[k - 1]!).device), vI ((l[k - 1]!).no), vI ((l[k - 1]!).kind), vI ((l[k - 1]!).copy), vI ((l[k - 1]!).to), vI ((l[k - 1]!).token)], Value.agg #[vI ((l[k]!).device), vI ((l[k]!).no), vI ((l[k]!).kind), vI ((l[k]!).copy), vI ((l[k]!).to), vI ((l[k]!).token)]]) enter_61 (c_compare (O := (b316 :: Bl0) ++ O) [vI ((l[k - 1]!).device), vI ((l[k - 1]!).no), vI ((l[k - 1]!).kind), vI ((l[k - 1]!).copy), vI ((l[k - 1]!).to), vI ((l[k - 1]!).token)] (l[k - 1]!) [vI ((l[k]!).device), vI ((l[k]!).no), vI ((l[k]!).kind), vI ((l[k]!).copy), vI ((l[k]!).to), vI ((l[k]!).token)] (l[k]!) w366 rfl rfl s369.lt) rfl s369 fun v373 w374 s375 m376 k377 r378 => (?_))
       obtain rfl := r378
       have h_l := h_l.mv m376
       refine wl_t rfl (o_geq .i64 (cmpM (l[k - 1]!) (l[k]!)) (0 : Int) rfl rfl (wl_t rfl (o_pickT (Value.bool (decide ((0 : Int) ≤ cmpM (l[k - 1]!) (l[k]!)))) rfl rfl (wl_s (o_pickF (Value.bool (decide ((0 : Int) ≤ cmpM (l[k - 1]!) (l[k]!)))) rfl rfl (wl_nil (thenQ_n (?_))))))))
       refine cw_cond (decide ((0 : Int) ≤ cmpM (l[k - 1]!) (l[k]!))) rfl rfl (fun hc379 => ?_) (fun hc379 => ?_)
       ·have hp380 : (0 : Int) ≤ cmpM (l[k - 1]!) (l[k]!) := by first | simpa using hc379 | (have e := hc379; simp at e; omega)
        refine cw_seq (?_)
        refine cw_region (by kernel_rfl) (wl_s (o_assign (vI (420 : Int)) rfl (wl_nil (thenQ_n (?_)))))
        refine cw_ret (blockQ_r (thenQ_r (thenQ_r (blockQ_r (thenQ_r (end_r rfl (res1 rfl rfl rfl) (?_)))))))
        have e : (checkM l) = (420 : Int) := by first | (rw [hr0_1]; exact scan_some (by omega) (by ((repeat (first | (refine (if_pos ?_).trans ?_; solve | omega | assumption | (simp only [opBad, dbs]; first | done | (repeat (first | omega | assumption | (right; first | omega | assumption | (constructor <;> first | omega | assumption)) | left))) | (rw [Bool.not_eq_true]; simp only [opBad, dbs]; first | done | omega | assumption | ((repeat' apply And.intro) <;> first | omega | assumption)) | (simp only [*, dbs]; done)) | (refine (if_neg ?_).trans ?_; solve | omega | assumption | (simp only [opBad, dbs]; first | done | (repeat (first | omega | assumption | (right; first | omega | assumption | (constructor <;> first | omega | assumption)) | left))) | (rw [Bool.not_eq_true]; simp only [opBad, dbs]; first | done | omega | assumption | ((repeat' apply And.intro) <;> first | omega | assumption)) | (simp only [*, dbs]; done)))); rfl))) | (rw [hr0_1]; exact scan_end (by omega)) | (unfold checkM; ((repeat (first | (refine (if_pos ?_).trans ?_; solve | omega | assumption | (simp only [opBad, dbs]; first | done | (repeat (first | omega | assumption | (right; first | omega | assumption | (constructor <;> first | omega | assumption)) | left))) | (rw [Bool.not_eq_true]; simp only [opBad, dbs]; first | done | omega | assumption | ((repeat' apply And.intro) <;> first | omega | assumption)) | (simp only [*, dbs]; done)) | (refine (if_neg ?_).trans ?_; solve | omega | assumption | (simp only [opBad, dbs]; first | done | (repeat (first | omega | assumption | (right; first | omega | assumption | (constructor <;> first | omega | assumption)) | left))) | (rw [Bool.not_eq_true]; simp only [opBad, dbs]; first | done | omega | assumption | ((repeat' apply And.intro) <;> first | omega | assumption)) | (simp only [*, dbs]; done)))); rfl))
        exact ⟨_, rfl, s375.keep, by rw [e]; first | done | exact rfl⟩
       ·have hp381 : cmpM (l[k - 1]!) (l[k]!) < (0 : Int) := by first | simpa using hc379 | (have e := hc379; simp at e; omega)
        refine cw_skip (blockQ_n (thenQ_n (?_)))
        refine cw_region (by kernel_rfl) (wl_s (o_add .i64 ((k : Nat) : Int) (1 : Int) (((k + 1 : Nat) : Int)) rfl rfl (w64 (by omega) (by omega)) (wl_s (o_move (vI ((k + 1 : Nat) : Int)) rfl (wl_nil (thenQ_n (?_)))))))
        exact ⟨_, (by omega), (k + 1), (b316 :: Bl0), (by first | omega | (simp; done) | (simp; omega) | simp_all), (hr0_1.trans (scan_none (by omega) (by ((repeat (first | (refine (if_pos ?_).trans ?_; solve | omega | assumption | (simp only [opBad, dbs]; first | done | (repeat (first | omega | assumption | (right; first | omega | assumption | (constructor <;> first | omega | assumption)) | left))) | (rw [Bool.not_eq_true]; simp only [opBad, dbs]; first | done | omega | assumption | ((repeat' apply And.intro) <;> first | omega | assumption)) | (simp only [*, dbs]; done)) | (refine (if_neg ?_).trans ?_; solve | omega | assumption | (simp only [opBad, dbs]; first | done | (repeat (first | omega | assumption | (right; first | omega | assumption | (constructor <;> first | omega | assumption)) | left))) | (rw [Bool.not_eq_true]; simp only [opBad, dbs]; first | done | omega | assumption | ((repeat' apply And.intro) <;> first | omega | assumption)) | (simp only [*, dbs]; done)))); rfl)))), rfl, ⟨_, upds_self _ ⟨rfl, rfl, rfl, (by first | rfl | exact congrArg (Value.int _) (by first | omega | (simp))), rfl, trivial⟩⟩, s375, h_l⟩
     ·have hp382 : (validM (l[k]!)) = false := by first | simpa using hb328 | (have e := hb328; rw [Bool.not_eq_true'] at e; exact e) | (have e := hb328; rw [Bool.not_eq_false'] at e; exact e) | (have e := hb328; simp at e; omega)
      refine cw_draw' 13 _ _ [isV (Value.agg #[vI ((l[k]!).device), vI ((l[k]!).no), vI ((l[k]!).kind), vI ((l[k]!).copy), vI ((l[k]!).to), vI ((l[k]!).token)]), isV (Value.bool (validM (l[k]!))), isV (Value.bool true), isV (Value.bool true), isV undef, isV undef, isV undef, isV undef, isV undef, isV undef, isV undef, isV undef, isV undef] (by kernel_rfl) (by kernel_rfl) (by kernel_rfl) (by kernel_rfl) rfl rfl ⟨kI, kI, kI, kI, kI, kI, kI, kI, kI, kI, kI, kI, kI, trivial⟩ ⟨?_, ?_, ?_, ?_, ?_, ?_, ?_, ?_, ?_, ?_, ?_, ?_, ?_, trivial⟩ ?_
      ·intro F1 w1 k1 hf hd
       have k0 := (Keep.drew [] w323).trans k1
       have bx327 := bx327.keep k0 (by simp)
       obtain ⟨F2, rfl⟩ := lit_of (F := F1) [(4, Value.pointer (some ⟨b316, 0, none⟩))] ⟨hf 4 (by kernel_rfl), trivial⟩
       exact sp_plain rfl ((o_loadBxA (vs := [vI ((l[k]!).device), vI ((l[k]!).no), vI ((l[k]!).kind), vI ((l[k]!).copy), vI ((l[k]!).to), vI ((l[k]!).token)]) Try.underlying40 rfl s_40 rfl bx327 rfl (⟨(Keep.refl _ _), rfl⟩)))
      ·intro F1 w1 k1 hf hd
       have k0 := (Keep.drew [] w323).trans k1
       have s1 := s324.call k0
       obtain ⟨F2, rfl⟩ := lit_of (F := F1) [(20, Value.agg #[vI ((l[k]!).device), vI ((l[k]!).no), vI ((l[k]!).kind), vI ((l[k]!).copy), vI ((l[k]!).to), vI ((l[k]!).token)])] ⟨hd 0 20 (by kernel_rfl), trivial⟩
       refine sp_plain rfl ((o_callK (vs := [Value.agg #[vI ((l[k]!).device), vI ((l[k]!).no), vI ((l[k]!).kind), vI ((l[k]!).copy), vI ((l[k]!).to), vI ((l[k]!).token)]]) enter_54 (c_valid (O := (b316 :: Bl0) ++ O) [vI ((l[k]!).device), vI ((l[k]!).no), vI ((l[k]!).kind), vI ((l[k]!).copy), vI ((l[k]!).to), vI ((l[k]!).token)] (l[k]!) w1 rfl s1.lt) rfl s1 fun v383 w384 s385 m386 k387 r388 => (?_)))
       obtain rfl := r388
       exact ⟨k387, rfl⟩
      ·intro F1 w1 k1 hf hd
       obtain ⟨F2, rfl⟩ := lit_of (F := F1) [(21, Value.bool (validM (l[k]!)))] ⟨hd 1 21 (by kernel_rfl), trivial⟩
       refine sp_plain rfl ((o_not (validM (l[k]!)) rfl (?_)))
       exact ⟨(Keep.refl _ _), congrArg Value.bool (hb328)⟩
      ·intro F1 w1 k1 hf hd
       obtain ⟨F2, rfl⟩ := lit_of (F := F1) [(22, Value.bool true)] ⟨hd 2 22 (by kernel_rfl), trivial⟩
       exact sp_plain rfl ((o_move (Value.bool true) rfl (⟨(Keep.refl _ _), rfl⟩)))
      ·intro F1 w1 k1 hf hd
       exact sp_skipD rfl rfl (hd 3 23 (by kernel_rfl)) rfl rfl
      ·intro F1 w1 k1 hf hd
       exact sp_skipD rfl rfl (hd 3 23 (by kernel_rfl)) rfl rfl
      ·intro F1 w1 k1 hf hd
       exact sp_skipD rfl rfl (hd 3 23 (by kernel_rfl)) rfl rfl
      ·intro F1 w1 k1 hf hd
       exact sp_undefD rfl rfl (hd 6 26 (by kernel_rfl)) rfl
      ·intro F1 w1 k1 hf hd
       exact sp_undefD rfl rfl (hd 6 26 (by kernel_rfl)) rfl
      ·intro F1 w1 k1 hf hd
       exact sp_undefD rfl rfl (hd 6 26 (by kernel_rfl)) rfl
      ·intro F1 w1 k1 hf hd
       exact sp_undefD rfl rfl (hd 6 26 (by kernel_rfl)) rfl
      ·intro F1 w1 k1 hf hd
       exact sp_undefD rfl rfl (hd 6 26 (by kernel_rfl)) rfl
      ·intro F1 w1 k1 hf hd
       exact sp_undefD rfl rfl (hd 6 26 (by kernel_rfl)) rfl
      intro F390 w391 k389 hT392 hF393
      have s394 := s324.call k389
      obtain ⟨F2, rfl⟩ := lit_of (F := F390) [(0, l_v), (13, l_v), (14, vI (l.length : Int)), (15, vI ((k : Nat) : Int)), (38, undef), (23, Value.bool true), (26, undef)] ⟨hF393 0 (by kernel_rfl), hF393 13 (by kernel_rfl), hF393 14 (by kernel_rfl), hF393 15 (by kernel_rfl), hF393 38 (by kernel_rfl), hT392 3 23 (by kernel_rfl) (by decide), hT392 6 26 (by kernel_rfl) (by decide), trivial⟩
      clear hT392 hF393
      refine wl_u rfl (wl_u rfl (wl_k rfl (wl_s (o_pickT (Value.bool true) rfl rfl (wl_nil (thenQ_n (?_)))))))
      refine cw_cond true rfl rfl (fun _ => ?_) (fun h => by cases h)
      refine cw_seq (?_)
      refine cw_region (by kernel_rfl) (wl_s (o_assign (vI (420 : Int)) rfl (wl_nil (thenQ_n (?_)))))
      refine cw_ret (blockQ_r (thenQ_r (thenQ_r (blockQ_r (thenQ_r (end_r rfl (res1 rfl rfl rfl) (?_)))))))
      have e : (checkM l) = (420 : Int) := by first | (rw [hr0_1]; exact scan_some (by omega) (by ((repeat (first | (refine (if_pos ?_).trans ?_; solve | omega | assumption | (simp only [opBad, dbs]; first | done | (repeat (first | omega | assumption | (right; first | omega | assumption | (constructor <;> first | omega | assumption)) | left))) | (rw [Bool.not_eq_true]; simp only [opBad, dbs]; first | done | omega | assumption | ((repeat' apply And.intro) <;> first | omega | assumption)) | (simp only [*, dbs]; done)) | (refine (if_neg ?_).trans ?_; solve | omega | assumption | (simp only [opBad, dbs]; first | done | (repeat (first | omega | assumption | (right; first | omega | assumption | (constructor <;> first | omega | assumption)) | left))) | (rw [Bool.not_eq_true]; simp only [opBad, dbs]; first | done | omega | assumption | ((repeat' apply And.intro) <;> first | omega | assumption)) | (simp only [*, dbs]; done)))); rfl))) | (rw [hr0_1]; exact scan_end (by omega)) | (unfold checkM; ((repeat (first | (refine (if_pos ?_).trans ?_; solve | omega | assumption | (simp only [opBad, dbs]; first | done | (repeat (first | omega | assumption | (right; first | omega | assumption | (constructor <;> first | omega | assumption)) | left))) | (rw [Bool.not_eq_true]; simp only [opBad, dbs]; first | done | omega | assumption | ((repeat' apply And.intro) <;> first | omega | assumption)) | (simp only [*, dbs]; done)) | (refine (if_neg ?_).trans ?_; solve | omega | assumption | (simp only [opBad, dbs]; first | done | (repeat (first | omega | assumption | (right; first | omega | assumption | (constructor <;> first | omega | assumption)) | left))) | (rw [Bool.not_eq_true]; simp only [opBad, dbs]; first | done | omega | assumption | ((repeat' apply And.intro) <;> first | omega | assumption)) | (simp only [*, dbs]; done)))); rfl))
      exact ⟨_, rfl, s394.keep, by rw [e]; first | done | exact rfl⟩
    ·have hp398 : (l.length : Int) ≤ ((k : Nat) : Int) := by first | simpa using hc310 | (have e := hc310; simp at e; omega)
     refine cw_exit (thenQ_x (thenQ_x (blockQ_x (thenQ_n (?_)))))
     refine cw_seq (?_)
     refine cw_region (by kernel_rfl) (wl_s (o_assign (vI (0 : Int)) rfl (wl_nil (thenQ_n (?_)))))
     refine cw_ret (end_r rfl (res1 rfl rfl rfl) (?_))
     have e : (checkM l) = (0 : Int) := by first | (rw [hr0_1]; exact scan_some (by omega) (by ((repeat (first | (refine (if_pos ?_).trans ?_; solve | omega | assumption | (simp only [opBad, dbs]; first | done | (repeat (first | omega | assumption | (right; first | omega | assumption | (constructor <;> first | omega | assumption)) | left))) | (rw [Bool.not_eq_true]; simp only [opBad, dbs]; first | done | omega | assumption | ((repeat' apply And.intro) <;> first | omega | assumption)) | (simp only [*, dbs]; done)) | (refine (if_neg ?_).trans ?_; solve | omega | assumption | (simp only [opBad, dbs]; first | done | (repeat (first | omega | assumption | (right; first | omega | assumption | (constructor <;> first | omega | assumption)) | left))) | (rw [Bool.not_eq_true]; simp only [opBad, dbs]; first | done | omega | assumption | ((repeat' apply And.intro) <;> first | omega | assumption)) | (simp only [*, dbs]; done)))); rfl))) | (rw [hr0_1]; exact scan_end (by omega)) | (unfold checkM; ((repeat (first | (refine (if_pos ?_).trans ?_; solve | omega | assumption | (simp only [opBad, dbs]; first | done | (repeat (first | omega | assumption | (right; first | omega | assumption | (constructor <;> first | omega | assumption)) | left))) | (rw [Bool.not_eq_true]; simp only [opBad, dbs]; first | done | omega | assumption | ((repeat' apply And.intro) <;> first | omega | assumption)) | (simp only [*, dbs]; done)) | (refine (if_neg ?_).trans ?_; solve | omega | assumption | (simp only [opBad, dbs]; first | done | (repeat (first | omega | assumption | (right; first | omega | assumption | (constructor <;> first | omega | assumption)) | left))) | (rw [Bool.not_eq_true]; simp only [opBad, dbs]; first | done | omega | assumption | ((repeat' apply And.intro) <;> first | omega | assumption)) | (simp only [*, dbs]; done)))); rfl))
     exact ⟨_, rfl, sl0.keep, by rw [e]; first | done | exact rfl⟩
 ·have hp399 : (256 : Int) < (l.length : Int) := by first | simpa using hb299 | (have e := hb299; simp at e; omega)
  refine wl_k rfl (wl_k rfl (wl_k rfl (wl_s (o_pickT (Value.bool true) rfl rfl (wl_nil (thenQ_n (?_)))))))
  refine cw_cond true rfl rfl (fun _ => ?_) (fun h => by cases h)
  refine cw_seq (?_)
  refine cw_region (by kernel_rfl) (wl_s (o_assign (vI (420 : Int)) rfl (wl_nil (thenQ_n (?_)))))
  refine cw_ret (thenQ_r (end_r rfl (res1 rfl rfl rfl) (?_)))
  have e : (checkM l) = (420 : Int) := by first | (rw [hr0_1]; exact scan_some (by omega) (by ((repeat (first | (refine (if_pos ?_).trans ?_; solve | omega | assumption | (simp only [opBad, dbs]; first | done | (repeat (first | omega | assumption | (right; first | omega | assumption | (constructor <;> first | omega | assumption)) | left))) | (rw [Bool.not_eq_true]; simp only [opBad, dbs]; first | done | omega | assumption | ((repeat' apply And.intro) <;> first | omega | assumption)) | (simp only [*, dbs]; done)) | (refine (if_neg ?_).trans ?_; solve | omega | assumption | (simp only [opBad, dbs]; first | done | (repeat (first | omega | assumption | (right; first | omega | assumption | (constructor <;> first | omega | assumption)) | left))) | (rw [Bool.not_eq_true]; simp only [opBad, dbs]; first | done | omega | assumption | ((repeat' apply And.intro) <;> first | omega | assumption)) | (simp only [*, dbs]; done)))); rfl))) | (rw [hr0_1]; exact scan_end (by omega)) | (unfold checkM; ((repeat (first | (refine (if_pos ?_).trans ?_; solve | omega | assumption | (simp only [opBad, dbs]; first | done | (repeat (first | omega | assumption | (right; first | omega | assumption | (constructor <;> first | omega | assumption)) | left))) | (rw [Bool.not_eq_true]; simp only [opBad, dbs]; first | done | omega | assumption | ((repeat' apply And.intro) <;> first | omega | assumption)) | (simp only [*, dbs]; done)) | (refine (if_neg ?_).trans ?_; solve | omega | assumption | (simp only [opBad, dbs]; first | done | (repeat (first | omega | assumption | (right; first | omega | assumption | (constructor <;> first | omega | assumption)) | left))) | (rw [Bool.not_eq_true]; simp only [opBad, dbs]; first | done | omega | assumption | ((repeat' apply And.intro) <;> first | omega | assumption)) | (simp only [*, dbs]; done)))); rfl))
  exact ⟨_, rfl, s0.keep, by rw [e]; first | done | exact rfl⟩

end Go.Proofs.Ytjpniibleelgiaa
