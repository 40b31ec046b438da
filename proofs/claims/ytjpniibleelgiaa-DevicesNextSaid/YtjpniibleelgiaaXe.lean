/- Walks, printed by gen.py. -/
import Derived.Test.YtjpniibleelgiaaXb
import Derived.Test.YtjpniibleelgiaaFwZ
import Derived.Test.YtjpniibleelgiaaMdB
set_option linter.unusedSimpArgs false
set_option linter.unusedVariables false
namespace Go.Proofs.Ytjpniibleelgiaa
open Go.Fw Go.RowKit

set_option maxHeartbeats 4000000 in
set_option maxRecDepth 100000 in
theorem c_merge {O : List Nat} (a_v : Value) (a : List DeviceOp) (b_v : Value) (b : List DeviceOp) (w : World) (h_a : RdL Enc.devop w O a_v a) (h_b : RdL Enc.devop w O b_v b) (hO : ∀ b ∈ O, b < w.heap.size) : CallsK Try.prog 31 [a_v, b_v] w (fun v w' => ∃ (x0 : Value), v = .tuple #[x0, vI ((mergeM a b).2)] ∧ RdL Enc.devop w' (O) x0 ((mergeM a b).1)) :=  by
 have lim_a := h_a.len_le
 have h_a : RdL Enc.devop w ([] ++ O) a_v a := h_a
 have lim_b := h_b.len_le
 have h_b : RdL Enc.devop w ([] ++ O) b_v b := h_b
 have s0 : St w O w [] := St.start hO
 refine callsK_of 25 Try.func31 rfl rfl (of_decide_eq_true rfl) (fun F0 => ?_)
 refine cw_seq (?_)
 refine cw_region (by kernel_rfl) (wl_s (o_assign (Value.slice none 0 0) rfl (wl_s (o_assign (vI (0 : Int)) rfl (wl_nil (thenQ_n (?_)))))))
 refine cw_seq (?_)
 refine cw_seq (?_)
 refine cw_region (by kernel_rfl) (wl_s (o_move (a_v) rfl (wl_s (o_callK (vs := [a_v]) enter_29 (c_check42 (O := [] ++ O) a_v a w h_a s0.lt) rfl s0 fun v844 w845 s846 m847 k848 r849 => (?_)))))
 obtain rfl := r849
 have h_a := h_a.mv m847
 have h_b := h_b.mv m847
 refine wl_s (o_neq .i64 (checkM a) (0 : Int) rfl rfl (wl_s (o_move (Value.bool ((checkM a) != (0 : Int))) rfl (?_))))
 cases hb850 : ((checkM a) != (0 : Int))
 ·have hp851 : checkM a = (0 : Int) := by first | simpa using hb850 | (have e := hb850; simp at e; omega)
  have hcka : checkM a = 0 := hp851
  have hcka_1 := (check_ok hcka).1
  refine wl_t rfl (o_move (b_v) rfl (wl_t rfl (o_callK (vs := [b_v]) enter_29 (c_check42 (O := [] ++ O) b_v b w845 h_b s846.lt) rfl s846 fun v852 w853 s854 m855 k856 r857 => (?_))))
  obtain rfl := r857
  have h_a := h_a.mv m855
  have h_b := h_b.mv m855
  refine wl_t rfl (o_neq .i64 (checkM b) (0 : Int) rfl rfl (wl_s (o_pickF (Value.bool ((checkM b) != (0 : Int))) rfl rfl (wl_nil (thenQ_n (?_))))))
  refine cw_cond ((checkM b) != (0 : Int)) rfl rfl (fun hc858 => ?_) (fun hc858 => ?_)
  ·have hp859 : checkM b ≠ (0 : Int) := by first | simpa using hc858 | (have e := hc858; simp at e; omega)
   refine cw_seq (?_)
   refine cw_region (by kernel_rfl) (wl_s (o_assign (Value.slice none 0 0) rfl (wl_s (o_assign (vI (420 : Int)) rfl (wl_nil (thenQ_n (?_)))))))
   refine cw_ret (thenQ_r (end_r rfl (res2 rfl rfl rfl rfl) (?_)))
   have e860 : ((mergeM a b).1) = ([]) := by first | exact congrArg (fun p => p.1) (show mergeM a b = _ from merge_1 (by assumption)) | exact congrArg (fun p => p.1) (show mergeM a b = _ from merge_2 (by assumption)) | exact congrArg (fun p => p.1) (show mergeM a b = _ from merge_3 (by assumption) (by assumption) (by assumption)) | exact congrArg (fun p => p.1) (show mergeM a b = _ from merge_4 (by assumption) (by assumption) (by assumption) (by assumption)) | exact congrArg (fun p => p.1) (show mergeM a b = _ from merge_5 (by assumption) (by assumption) (by assumption) (by assumption))
   have e861 : ((mergeM a b).2) = (420 : Int) := by first | exact congrArg (fun p => p.2) (show mergeM a b = _ from merge_1 (by assumption)) | exact congrArg (fun p => p.2) (show mergeM a b = _ from merge_2 (by assumption)) | exact congrArg (fun p => p.2) (show mergeM a b = _ from merge_3 (by assumption) (by assumption) (by assumption)) | exact congrArg (fun p => p.2) (show mergeM a b = _ from merge_4 (by assumption) (by assumption) (by assumption) (by assumption)) | exact congrArg (fun p => p.2) (show mergeM a b = _ from merge_5 (by assumption) (by assumption) (by assumption) (by assumption))
   exact ⟨_, rfl, s854.keep, by rw [e860, e861]; exact ⟨.slice none 0 0, rfl, RdL.nil _ _ _⟩⟩
  ·have hp862 : checkM b = (0 : Int) := by first | simpa using hc858 | (have e := hc858; simp at e; omega)
   have hckb : checkM b = 0 := hp862
   have hckb_1 := (check_ok hckb).1
   refine cw_skip (thenQ_n (?_))
   refine cw_seq (?_)
   refine cw_region (by kernel_rfl) (wl_s (o_move (a_v) rfl (wl_s (o_move (b_v) rfl (wl_s (o_call [a_v, b_v] _ enter_73 rfl (calls_of_cw 6 Try.func73 rfl rfl (of_decide_eq_true rfl) (fun F863 => ?_)) (fun _ _ h => h)))))))
   refine cw_seq (?_)
   refine cw_region (by kernel_rfl) (wl_s (o_box (a_v) [a_v] rfl (cells_one h_a.oneCell) s854 fun b864 w865 e870 s866 m867 k868 bx869 => (?_)))
   clear e870
   have h_a := h_a.mv m867
   have h_b := h_b.mv m867
   refine wl_s (o_box (b_v) [b_v] rfl (cells_one h_b.oneCell) s866 fun b871 w872 e877 s873 m874 k875 bx876 => (?_))
   have ne878 : NeB b864 b871 := by show b864 ≠ b871; have := bx869.lt; omega
   clear e877
   have h_a := h_a.mv m874
   have h_b := h_b.mv m874
   have bx869 := bx869.keep k875 (by simp)
   refine wl_s (o_assign (Value.nilFunc) rfl (wl_nil (thenQ_n (?_))))
   refine cw_seq (?_)
   refine cw_region (by kernel_rfl) (wl_s (o_makeFunc (first := []) (captured := [.tmp 2, .tmp 3]) [] [Value.pointer (some ⟨b864, 0, none⟩), Value.pointer (some ⟨b871, 0, none⟩)] rfl rfl (wl_s (o_assign (Value.func (.func 101) #[] #[Value.pointer (some ⟨b864, 0, none⟩), Value.pointer (some ⟨b871, 0, none⟩)]) rfl (wl_nil (thenQ_n (?_)))))))
   refine cw_ret (end_r rfl (res1 rfl rfl rfl) (Exists.intro _ (And.intro rfl (?_))))
   refine wl_s (o_call [Value.func (.func 101) #[] #[Value.pointer (some ⟨b864, 0, none⟩), Value.pointer (some ⟨b871, 0, none⟩)]] _ enter_72 rfl (calls_of_cw 5 Try.func72 rfl rfl (of_decide_eq_true rfl) (fun F879 => ?_)) (fun _ _ h => h))
   refine cw_seq (?_)
   refine cw_region (by kernel_rfl) (wl_s (o_assign (Value.slice none 0 0) rfl (wl_nil (thenQ_n (?_)))))
   refine cw_seq (?_)
   refine cw_region (by kernel_rfl) (wl_s (o_move (Value.func (.func 101) #[] #[Value.pointer (some ⟨b864, 0, none⟩), Value.pointer (some ⟨b871, 0, none⟩)]) rfl (wl_s (o_call [Value.slice none 0 0, Value.func (.func 101) #[] #[Value.pointer (some ⟨b864, 0, none⟩), Value.pointer (some ⟨b871, 0, none⟩)]] _ enter_100 rfl (calls_of_cwM 13 Try.func100 rfl rfl (of_decide_eq_true rfl) (fun F880 => ?_)) (fun _ _ h => h)))))
   refine cw_seq (?_)
   refine cw_region (by kernel_rfl) (wl_s (o_box (Value.slice none 0 0) [Value.slice none 0 0] rfl rfl s873 fun b881 w882 e887 s883 m884 k885 bx886 => (?_)))
   have ne888 : NeB b864 b881 := by show b864 ≠ b881; have := bx869.lt; omega
   have ne889 : NeB b871 b881 := by show b871 ≠ b881; have := bx876.lt; omega
   clear e887
   have h_a := h_a.mv m884
   have h_b := h_b.mv m884
   have bx869 := bx869.keep k885 (by simp)
   have bx876 := bx876.keep k885 (by simp)
   refine wl_s (o_assign (Value.slice none 0 0) rfl (wl_nil (thenQ_n (?_))))
   refine cw_seq (?_)
   refine cw_seq (?_)
   refine cw_region (by kernel_rfl) (wl_s (o_move (Value.func (.func 101) #[] #[Value.pointer (some ⟨b864, 0, none⟩), Value.pointer (some ⟨b871, 0, none⟩)]) rfl (wl_nil (thenQ_n (?_)))))
   refine cw_block (?_)
   refine cw_range (fs := []) (lb := [Value.pointer (some ⟨b864, 0, none⟩), Value.pointer (some ⟨b871, 0, none⟩)]) rfl rfl enter_101 rfl (fun l_r890 D_r890 w891 R_r890 _ hR_r890 hD893 hl894 k892 oD_r890 oL_r890 => ?_)
   have ne897 : NeB b864 D_r890 ∧ NeB b864 l_r890 := by show b864 ≠ D_r890 ∧ b864 ≠ l_r890; have := bx869.lt; omega
   have ne898 : NeB b871 D_r890 ∧ NeB b871 l_r890 := by show b871 ≠ D_r890 ∧ b871 ≠ l_r890; have := bx876.lt; omega
   have ne899 : NeB b881 D_r890 ∧ NeB b881 l_r890 := by show b881 ≠ D_r890 ∧ b881 ≠ l_r890; have := bx886.lt; omega
   have s895 := s883.adopt2 k892 hD893 (by omega) oD_r890.lt oL_r890.lt
   have m896 : Mv (b881 :: (b871 :: (b864 :: []))) w882 (l_r890 :: D_r890 :: (b881 :: (b871 :: (b864 :: [])))) w891 := Mv.adopt2 k892 hD893 (by omega)
   have h_a := h_a.mv m896
   have h_b := h_b.mv m896
   have bx869 := bx869.keep k892 (by simp)
   have bx876 := bx876.keep k892 (by simp)
   have bx886 := bx886.keep k892 (by simp)
   have ne900 : NeB D_r890 l_r890 := by show D_r890 ≠ l_r890; omega
   clear hl894
   refine calls_of_cw 47 Try.func101 rfl rfl (of_decide_eq_true rfl) (fun F901 => ?_)
   refine cw_block (?_)
   refine cw_loop (fun mI FI wI => ∃ (p : Nat) (q : Nat) (x : List DeviceOp) (vom0_b881_0 : Value) (vrm0_b864_0 : Value) (vrm0_b871_0 : Value) (B : List Nat), p ≤ a.length ∧ q ≤ b.length ∧ x ++ mergeL (a.drop p) (b.drop q) = mergeL a b ∧ x.length ≤ p + q ∧ mI = (a.length - p) + (b.length - q) ∧ (∃ F1, FI = upds F1 [(0, Value.func (.yield l_r890) #[] #[]), (1, Value.pointer (some ⟨b864, 0, none⟩)), (2, Value.pointer (some ⟨b871, 0, none⟩)), (47, undef)]) ∧ St w O wI B ∧ Own Enc.devop 40 w.heap.size (B ++ O) wI vom0_b881_0 (x) ∧ (∀ b, vom0_b881_0.ownBlock = some b → b ∈ B) ∧ RdL Enc.devop wI (B ++ O) vrm0_b864_0 (a.drop p) ∧ RdL Enc.devop wI (B ++ O) vrm0_b871_0 (b.drop q) ∧ RdL Enc.devop wI (B ++ O) (a_v) (a) ∧ RdL Enc.devop wI (B ++ O) (b_v) (b) ∧ Ob wI D_r890 (.deferred (some [])) ∧ D_r890 ∈ B ∧ Box wI b864 26 [vrm0_b864_0] ∧ b864 ∈ B ∧ Box wI b871 26 [vrm0_b871_0] ∧ b871 ∈ B ∧ Box wI b881 26 [vom0_b881_0] ∧ b881 ∈ B ∧ Ob wI l_r890 (R_r890 .ready none) ∧ l_r890 ∈ B ∧ (∀ b, vom0_b881_0.ownBlock = some b → b ≠ D_r890) ∧ (∀ b, vom0_b881_0.ownBlock = some b → b ≠ b864) ∧ (∀ b, vom0_b881_0.ownBlock = some b → b ≠ b871) ∧ (∀ b, vom0_b881_0.ownBlock = some b → b ≠ b881) ∧ (∀ b, vom0_b881_0.ownBlock = some b → b ≠ l_r890)) ((a.length - (0)) + (b.length - (0))) ?_ ?_
   ·exact ⟨(0), (0), ([]), (.slice none 0 0), a_v, b_v, (l_r890 :: D_r890 :: (b881 :: (b871 :: (b864 :: [])))), (by omega), (by omega), (by rfl), (by simp), rfl, ⟨_, upds_self _ ⟨rfl, rfl, rfl, rfl, trivial⟩⟩, s895, (by rw [show ([]) = [] from by simp]; exact (Own.nil Enc.devop 40 _ _ _)), (by intro b hb; simp [Value.ownBlock] at hb), (by rw [show a.drop (0) = a from by first | rfl | simp]; exact h_a), (by rw [show b.drop (0) = b from by first | rfl | simp]; exact h_b), h_a, h_b, oD_r890, (by first | assumption | (repeat (first | exact List.mem_cons_self | assumption | apply List.mem_cons_of_mem)) | (apply_assumption; assumption)), bx869, (by first | assumption | (repeat (first | exact List.mem_cons_self | assumption | apply List.mem_cons_of_mem)) | (apply_assumption; assumption)), bx876, (by first | assumption | (repeat (first | exact List.mem_cons_self | assumption | apply List.mem_cons_of_mem)) | (apply_assumption; assumption)), bx886, (by first | assumption | (repeat (first | exact List.mem_cons_self | assumption | apply List.mem_cons_of_mem)) | (apply_assumption; assumption)), oL_r890, (by first | assumption | (repeat (first | exact List.mem_cons_self | assumption | apply List.mem_cons_of_mem)) | (apply_assumption; assumption)), (fun b hb => by first | (simp [Value.ownBlock] at hb; done) | (intro e; simp_all; done)), (fun b hb => by first | (simp [Value.ownBlock] at hb; done) | (intro e; simp_all; done)), (fun b hb => by first | (simp [Value.ownBlock] at hb; done) | (intro e; simp_all; done)), (fun b hb => by first | (simp [Value.ownBlock] at hb; done) | (intro e; simp_all; done)), (fun b hb => by first | (simp [Value.ownBlock] at hb; done) | (intro e; simp_all; done))⟩
   ·intro mlm0 F wlm0 hI
    clear h_a h_b oD_r890 oL_r890
    obtain ⟨p, q, x, vom0_b881_0, vrm0_b864_0, vrm0_b871_0, Blm0, hrm0_0, hrm0_1, hrm0_2, hrm0_3, hmm0, ⟨Flm0, rfl⟩, slm0, hom0_b881_0, hBm0_b881_0, hrdm0_b864_0, hrdm0_b871_0, h_a, h_b, oD_r890, hin_D_r890, hbs_m0_b864, hin_b864, hbs_m0_b871, hin_b871, hbs_m0_b881, hin_b881, oL_r890, hin_l_r890, nbm0_b881_0_D_r890, nbm0_b881_0_b864, nbm0_b881_0_b871, nbm0_b881_0_b881, nbm0_b881_0_l_r890⟩ := hI
    have := hrdm0_b864_0.len_le
    have := hrdm0_b871_0.len_le
    have hlp := List.length_drop (i := p) (l := a)
    have hlq := List.length_drop (i := q) (l := b)
    refine cw_cut (fun FI wI => (p < a.length ∨ q < b.length) ∧ True ∧ (∃ F1, FI = upds F1 [(0, Value.func (.yield l_r890) #[] #[]), (1, Value.pointer (some ⟨b864, 0, none⟩)), (2, Value.pointer (some ⟨b871, 0, none⟩)), (47, undef)]) ∧ wlm0 = wI) ?_ ?_
    ·refine cw_seq (?_)
     refine cw_region (by kernel_rfl) (wl_s (o_loadBx Try.underlying26 rfl (vrm0_b864_0) rfl hbs_m0_b864 rfl (wl_s (o_lenR Try.underlying26 rfl hrdm0_b864_0 (wl_s (o_gtr .i64 ((a.drop p).length : Int) (0 : Int) rfl rfl (wl_s (o_move (Value.bool (decide ((0 : Int) < ((a.drop p).length : Int)))) rfl (?_)))))))))
     cases hb902 : (decide ((0 : Int) < ((a.drop p).length : Int)))
     ·have hp903 : ((a.drop p).length : Int) ≤ (0 : Int) := by first | simpa using hb902 | (have e := hb902; simp at e; omega)
      refine wl_t rfl (o_loadBx Try.underlying26 rfl (vrm0_b871_0) rfl hbs_m0_b871 rfl (wl_t rfl (o_lenR Try.underlying26 rfl hrdm0_b871_0 (wl_t rfl (o_gtr .i64 ((b.drop q).length : Int) (0 : Int) rfl rfl (wl_s (o_pickF (Value.bool (decide ((0 : Int) < ((b.drop q).length : Int)))) rfl rfl (wl_nil (thenQ_n (?_))))))))))
      refine cw_cond (decide ((0 : Int) < ((b.drop q).length : Int))) rfl rfl (fun hc904 => ?_) (fun hc904 => ?_)
      ·have hp905 : (0 : Int) < ((b.drop q).length : Int) := by first | simpa using hc904 | (have e := hc904; simp at e; omega)
       refine cw_skip (thenQ_n (?_))
       exact ⟨(by omega), trivial, ⟨_, upds_self _ ⟨rfl, rfl, rfl, rfl, trivial⟩⟩, rfl⟩
      ·have hp906 : ((b.drop q).length : Int) ≤ (0 : Int) := by first | simpa using hc904 | (have e := hc904; simp at e; omega)
       obtain rfl : x = mergeL a b := by rw [← hrm0_2, show a.drop p = [] from List.eq_nil_of_length_eq_zero (by omega), show b.drop q = [] from List.eq_nil_of_length_eq_zero (by omega), mergeL, List.append_nil]
       refine cw_exit (thenQ_x (thenQ_x (blockQ_x (end_n rfl (res0 rfl) (?_)))))
       refine ⟨⟨_, rfl⟩, ?_⟩
       refine ⟨.ready, none, by simp, oL_r890, fun w907 k908 => ?_⟩
       have s909 := slm0.keepB k908 (by repeat (first | assumption | constructor))
       have m910 : Mv Blm0 wlm0 Blm0 w907 := Mv.keepB k908 (by repeat (first | assumption | constructor))
       have oD_r890 := oD_r890.keep k908 (nin1 ne900)
       have hom0_b881_0 := hom0_b881_0.mv m910 k908 (fun b hb => nin1 (nbm0_b881_0_l_r890 b hb))
       have hbs_m0_b881 := hbs_m0_b881.keep k908 (nin1 ne899.2)
       refine blockQ_n (thenQ_n (?_))
       refine cw_seq (?_)
       refine cw_region (by kernel_rfl) (wl_s (o_loadBx Try.underlying26 rfl (vom0_b881_0) rfl hbs_m0_b881 rfl (wl_s (o_assign (vom0_b881_0) rfl (wl_nil (thenQ_n (?_)))))))
       refine cw_ret (?_)
       refine endM_rm rfl oD_r890 (fun w911 k912 => ?_)
       have s913 := s909.keepB k912 (by repeat (first | assumption | constructor))
       have m914 : Mv Blm0 w907 Blm0 w911 := Mv.keepB k912 (by repeat (first | assumption | constructor))
       have hom0_b881_0 := hom0_b881_0.mv m914 k912 (fun b hb => nin1 (nbm0_b881_0_D_r890 b hb))
       refine ⟨_, res1 rfl rfl rfl, ?_⟩
       refine Exists.intro _ (And.intro rfl (?_))
       refine wl_s (o_assign (vom0_b881_0) rfl (wl_nil (thenQ_n (?_))))
       refine cw_ret (end_r rfl (res1 rfl rfl rfl) (Exists.intro _ (And.intro rfl (?_))))
       refine wl_s (o_assign (vom0_b881_0) rfl (wl_nil (thenQ_n (?_))))
       refine cw_seq (?_)
       refine cw_seq (?_)
       refine cw_region (by kernel_rfl) (wl_s (o_move (vom0_b881_0) rfl (wl_s (o_callK (vs := [vom0_b881_0]) enter_70 (c_numbered (O := []) vom0_b881_0 (mergeL a b) w911 hom0_b881_0.rd0 no_blocks) rfl s913 fun v915 w916 s917 m918 k919 r920 => (?_)))))
       obtain rfl := r920
       have hom0_b881_0 := hom0_b881_0.mv m918 k919 (by simp)
       refine wl_s (o_not (numberedM (mergeL a b)) rfl (wl_nil (thenQ_n (?_))))
       refine cw_cond (!(numberedM (mergeL a b))) rfl rfl (fun hc921 => ?_) (fun hc921 => ?_)
       ·have hp922 : (numberedM (mergeL a b)) = false := by first | simpa using hc921 | (have e := hc921; rw [Bool.not_eq_true'] at e; exact e) | (have e := hc921; rw [Bool.not_eq_false'] at e; exact e) | (have e := hc921; simp at e; omega)
        refine cw_seq (?_)
        refine cw_region (by kernel_rfl) (wl_s (o_assign (Value.slice none 0 0) rfl (wl_s (o_assign (vI (420 : Int)) rfl (wl_nil (thenQ_n (?_)))))))
        refine cw_ret (thenQ_r (end_r rfl (res2 rfl rfl rfl rfl) (?_)))
        have e923 : ((mergeM a b).1) = ([]) := by first | exact congrArg (fun p => p.1) (show mergeM a b = _ from merge_1 (by assumption)) | exact congrArg (fun p => p.1) (show mergeM a b = _ from merge_2 (by assumption)) | exact congrArg (fun p => p.1) (show mergeM a b = _ from merge_3 (by assumption) (by assumption) (by assumption)) | exact congrArg (fun p => p.1) (show mergeM a b = _ from merge_4 (by assumption) (by assumption) (by assumption) (by assumption)) | exact congrArg (fun p => p.1) (show mergeM a b = _ from merge_5 (by assumption) (by assumption) (by assumption) (by assumption))
        have e924 : ((mergeM a b).2) = (420 : Int) := by first | exact congrArg (fun p => p.2) (show mergeM a b = _ from merge_1 (by assumption)) | exact congrArg (fun p => p.2) (show mergeM a b = _ from merge_2 (by assumption)) | exact congrArg (fun p => p.2) (show mergeM a b = _ from merge_3 (by assumption) (by assumption) (by assumption)) | exact congrArg (fun p => p.2) (show mergeM a b = _ from merge_4 (by assumption) (by assumption) (by assumption) (by assumption)) | exact congrArg (fun p => p.2) (show mergeM a b = _ from merge_5 (by assumption) (by assumption) (by assumption) (by assumption))
        exact ⟨_, rfl, s917.keep, by rw [e923, e924]; exact ⟨.slice none 0 0, rfl, RdL.nil _ _ _⟩⟩
       ·have hp925 : (numberedM (mergeL a b)) = true := by first | simpa using hc921 | (have e := hc921; rw [Bool.not_eq_true'] at e; exact e) | (have e := hc921; rw [Bool.not_eq_false'] at e; exact e) | (have e := hc921; simp at e; omega)
        refine cw_skip (thenQ_n (?_))
        refine cw_seq (?_)
        refine cw_seq (?_)
        refine cw_region (by kernel_rfl) (wl_s (o_move (vom0_b881_0) rfl (wl_s (o_lenO Try.underlying26 rfl hom0_b881_0 (wl_s (o_gtr .i64 ((mergeL a b).length : Int) (256 : Int) rfl rfl (wl_nil (thenQ_n (?_)))))))))
        refine cw_cond (decide ((256 : Int) < ((mergeL a b).length : Int))) rfl rfl (fun hc926 => ?_) (fun hc926 => ?_)
        ·have hp927 : (256 : Int) < ((mergeL a b).length : Int) := by first | simpa using hc926 | (have e := hc926; simp at e; omega)
         refine cw_seq (?_)
         refine cw_region (by kernel_rfl) (wl_s (o_assign (Value.slice none 0 0) rfl (wl_s (o_assign (vI (2 : Int)) rfl (wl_nil (thenQ_n (?_)))))))
         refine cw_ret (thenQ_r (end_r rfl (res2 rfl rfl rfl rfl) (?_)))
         have e928 : ((mergeM a b).1) = ([]) := by first | exact congrArg (fun p => p.1) (show mergeM a b = _ from merge_1 (by assumption)) | exact congrArg (fun p => p.1) (show mergeM a b = _ from merge_2 (by assumption)) | exact congrArg (fun p => p.1) (show mergeM a b = _ from merge_3 (by assumption) (by assumption) (by assumption)) | exact congrArg (fun p => p.1) (show mergeM a b = _ from merge_4 (by assumption) (by assumption) (by assumption) (by assumption)) | exact congrArg (fun p => p.1) (show mergeM a b = _ from merge_5 (by assumption) (by assumption) (by assumption) (by assumption))
         have e929 : ((mergeM a b).2) = (2 : Int) := by first | exact congrArg (fun p => p.2) (show mergeM a b = _ from merge_1 (by assumption)) | exact congrArg (fun p => p.2) (show mergeM a b = _ from merge_2 (by assumption)) | exact congrArg (fun p => p.2) (show mergeM a b = _ from merge_3 (by assumption) (by assumption) (by assumption)) | exact congrArg (fun p => p.2) (show mergeM a b = _ from merge_4 (by assumption) (by assumption) (by assumption) (by assumption)) | exact congrArg (fun p => p.2) (show mergeM a b = _ from merge_5 (by assumption) (by assumption) (by assumption) (by assumption))
         exact ⟨_, rfl, s917.keep, by rw [e928, e929]; exact ⟨.slice none 0 0, rfl, RdL.nil _ _ _⟩⟩
        ·have hp930 : ((mergeL a b).length : Int) ≤ (256 : Int) := by first | simpa using hc926 | (have e := hc926; simp at e; omega)
         refine cw_skip (thenQ_n (?_))
         refine cw_seq (?_)
         refine cw_region (by kernel_rfl) (wl_s (o_move (vom0_b881_0) rfl (wl_s (o_assign (vom0_b881_0) rfl (wl_s (o_assign (vI (0 : Int)) rfl (wl_nil (thenQ_n (?_)))))))))
         refine cw_ret (end_r rfl (res2 rfl rfl rfl rfl) (?_))
         have e931 : ((mergeM a b).1) = (mergeL a b) := by first | exact congrArg (fun p => p.1) (show mergeM a b = _ from merge_1 (by assumption)) | exact congrArg (fun p => p.1) (show mergeM a b = _ from merge_2 (by assumption)) | exact congrArg (fun p => p.1) (show mergeM a b = _ from merge_3 (by assumption) (by assumption) (by assumption)) | exact congrArg (fun p => p.1) (show mergeM a b = _ from merge_4 (by assumption) (by assumption) (by assumption) (by assumption)) | exact congrArg (fun p => p.1) (show mergeM a b = _ from merge_5 (by assumption) (by assumption) (by assumption) (by assumption))
         have e932 : ((mergeM a b).2) = (0 : Int) := by first | exact congrArg (fun p => p.2) (show mergeM a b = _ from merge_1 (by assumption)) | exact congrArg (fun p => p.2) (show mergeM a b = _ from merge_2 (by assumption)) | exact congrArg (fun p => p.2) (show mergeM a b = _ from merge_3 (by assumption) (by assumption) (by assumption)) | exact congrArg (fun p => p.2) (show mergeM a b = _ from merge_4 (by assumption) (by assumption) (by assumption) (by assumption)) | exact congrArg (fun p => p.2) (show mergeM a b = _ from merge_5 (by assumption) (by assumption) (by assumption) (by assumption))
         exact ⟨_, rfl, s917.keep, by rw [e931, e932]; exact ⟨vom0_b881_0, rfl, hom0_b881_0.pub s917⟩⟩
     ·have hp933 : (0 : Int) < ((a.drop p).length : Int) := by first | simpa using hb902 | (have e := hb902; simp at e; omega)
      refine wl_k rfl (wl_k rfl (wl_k rfl (wl_s (o_pickT (Value.bool true) rfl rfl (wl_nil (thenQ_n (?_)))))))
      refine cw_cond true rfl rfl (fun _ => ?_) (fun h => by cases h)
      refine cw_skip (thenQ_n (?_))
      exact ⟨(by omega), trivial, ⟨_, upds_self _ ⟨rfl, rfl, rfl, rfl, trivial⟩⟩, rfl⟩
    ·rintro F wlcm4 ⟨hrcm4_0, hmcm4, ⟨Flcm4, rfl⟩, rfl⟩
     refine cw_block (?_)
     refine cw_seq (?_)
     refine cw_region (by kernel_rfl) (wl_s (o_assign (vI (0 : Int)) rfl (wl_nil (thenQ_n (?_)))))
     refine cw_cut (fun FI wI => ∃ (n : Int) (B : List Nat), ((p = a.length ∧ q < b.length ∧ n = 1) ∨ (p < a.length ∧ q = b.length ∧ n = -1) ∨ (p < a.length ∧ q < b.length ∧ n = cmpM (a.drop p)[0]! (b.drop q)[0]!)) ∧ True ∧ (∃ F1, FI = upds F1 [(0, Value.func (.yield l_r890) #[] #[]), (1, Value.pointer (some ⟨b864, 0, none⟩)), (2, Value.pointer (some ⟨b871, 0, none⟩)), (4, vI n), (47, undef)]) ∧ St w O wI B ∧ RdL Enc.devop wI (B ++ O) (a_v) (a) ∧ RdL Enc.devop wI (B ++ O) (b_v) (b) ∧ Ob wI D_r890 (.deferred (some [])) ∧ D_r890 ∈ B ∧ RdL Enc.devop wI (B ++ O) (vrm0_b864_0) (a.drop p) ∧ Box wI b864 26 [vrm0_b864_0] ∧ b864 ∈ B ∧ RdL Enc.devop wI (B ++ O) (vrm0_b871_0) (b.drop q) ∧ Box wI b871 26 [vrm0_b871_0] ∧ b871 ∈ B ∧ Own Enc.devop 40 w.heap.size (B ++ O) wI vom0_b881_0 (x) ∧ (∀ b, vom0_b881_0.ownBlock = some b → b ∈ B) ∧ Box wI b881 26 [vom0_b881_0] ∧ b881 ∈ B ∧ Ob wI l_r890 (R_r890 .ready none) ∧ l_r890 ∈ B) ?_ ?_
     ·refine cw_block (?_)
      refine cw_seq (?_)
      refine cw_region (by kernel_rfl) (wl_s (o_loadBx Try.underlying26 rfl (vrm0_b864_0) rfl hbs_m0_b864 rfl (wl_s (o_lenR Try.underlying26 rfl hrdm0_b864_0 (wl_s (o_eql .i64 ((a.drop p).length : Int) (0 : Int) rfl rfl (wl_s (o_assign (Value.bool (((a.drop p).length : Int) == (0 : Int))) rfl (wl_nil (thenQ_n (?_)))))))))))
      refine cw_cond (((a.drop p).length : Int) == (0 : Int)) rfl rfl (fun hc934 => ?_) (fun hc934 => ?_)
      ·have hp935 : ((a.drop p).length : Int) = (0 : Int) := by first | simpa using hc934 | (have e := hc934; simp at e; omega)
       refine cw_region (by kernel_rfl) (wl_s (o_assign (vI (1 : Int)) rfl (wl_nil (blockQ_n (thenQ_n (?_))))))
       exact ⟨((1 : Int)), Blm0, (by first | exact .inl ⟨by omega, by omega, rfl⟩ | exact .inr (.inl ⟨by omega, by omega, rfl⟩) | exact .inr (.inr ⟨by omega, by omega, rfl⟩)), trivial, ⟨_, upds_self _ ⟨rfl, rfl, rfl, (by first | rfl | exact congrArg (Value.int _) (by first | omega | (rfl))), rfl, trivial⟩⟩, slm0, h_a, h_b, oD_r890, (by first | assumption | (repeat (first | exact List.mem_cons_self | assumption | apply List.mem_cons_of_mem)) | (apply_assumption; assumption)), hrdm0_b864_0, hbs_m0_b864, (by first | assumption | (repeat (first | exact List.mem_cons_self | assumption | apply List.mem_cons_of_mem)) | (apply_assumption; assumption)), hrdm0_b871_0, hbs_m0_b871, (by first | assumption | (repeat (first | exact List.mem_cons_self | assumption | apply List.mem_cons_of_mem)) | (apply_assumption; assumption)), hom0_b881_0, hBm0_b881_0, hbs_m0_b881, (by first | assumption | (repeat (first | exact List.mem_cons_self | assumption | apply List.mem_cons_of_mem)) | (apply_assumption; assumption)), oL_r890, (by first | assumption | (repeat (first | exact List.mem_cons_self | assumption | apply List.mem_cons_of_mem)) | (apply_assumption; assumption))⟩
      ·have hp936 : ((a.drop p).length : Int) ≠ (0 : Int) := by first | simpa using hc934 | (have e := hc934; simp at e; omega)
       refine cw_seq (?_)
       refine cw_region (by kernel_rfl) (wl_s (o_loadBx Try.underlying26 rfl (vrm0_b871_0) rfl hbs_m0_b871 rfl (wl_s (o_lenR Try.underlying26 rfl hrdm0_b871_0 (wl_s (o_eql .i64 ((b.drop q).length : Int) (0 : Int) rfl rfl (wl_s (o_assign (Value.bool (((b.drop q).length : Int) == (0 : Int))) rfl (wl_nil (thenQ_n (?_)))))))))))
       refine cw_cond (((b.drop q).length : Int) == (0 : Int)) rfl rfl (fun hc937 => ?_) (fun hc937 => ?_)
       ·have hp938 : ((b.drop q).length : Int) = (0 : Int) := by first | simpa using hc937 | (have e := hc937; simp at e; omega)
        refine cw_region (by kernel_rfl) (wl_s (o_assign (vI (-1 : Int)) rfl (wl_nil (blockQ_n (thenQ_n (?_))))))
        exact ⟨((-1 : Int)), Blm0, (by first | exact .inl ⟨by omega, by omega, rfl⟩ | exact .inr (.inl ⟨by omega, by omega, rfl⟩) | exact .inr (.inr ⟨by omega, by omega, rfl⟩)), trivial, ⟨_, upds_self _ ⟨rfl, rfl, rfl, (by first | rfl | exact congrArg (Value.int _) (by first | omega | (rfl))), rfl, trivial⟩⟩, slm0, h_a, h_b, oD_r890, (by first | assumption | (repeat (first | exact List.mem_cons_self | assumption | apply List.mem_cons_of_mem)) | (apply_assumption; assumption)), hrdm0_b864_0, hbs_m0_b864, (by first | assumption | (repeat (first | exact List.mem_cons_self | assumption | apply List.mem_cons_of_mem)) | (apply_assumption; assumption)), hrdm0_b871_0, hbs_m0_b871, (by first | assumption | (repeat (first | exact List.mem_cons_self | assumption | apply List.mem_cons_of_mem)) | (apply_assumption; assumption)), hom0_b881_0, hBm0_b881_0, hbs_m0_b881, (by first | assumption | (repeat (first | exact List.mem_cons_self | assumption | apply List.mem_cons_of_mem)) | (apply_assumption; assumption)), oL_r890, (by first | assumption | (repeat (first | exact List.mem_cons_self | assumption | apply List.mem_cons_of_mem)) | (apply_assumption; assumption))⟩
       ·have hp939 : ((b.drop q).length : Int) ≠ (0 : Int) := by first | simpa using hc937 | (have e := hc937; simp at e; omega)
        refine cw_draw' 6 _ _ [fun (vT : Value) (wT : World) => RdL Enc.devop wT (Blm0 ++ O) vT (a.drop p), fun (vT : Value) (wT : World) => ∃ aT, vT = .pointer (some aT) ∧ PT Enc.devop wT (Blm0 ++ O) (.pointer (some aT)) ((a.drop p)[0]!), isV (Value.agg #[vI (((a.drop p)[0]!).device), vI (((a.drop p)[0]!).no), vI (((a.drop p)[0]!).kind), vI (((a.drop p)[0]!).copy), vI (((a.drop p)[0]!).to), vI (((a.drop p)[0]!).token)]), fun (vT : Value) (wT : World) => RdL Enc.devop wT (Blm0 ++ O) vT (b.drop q), fun (vT : Value) (wT : World) => ∃ aT, vT = .pointer (some aT) ∧ PT Enc.devop wT (Blm0 ++ O) (.pointer (some aT)) ((b.drop q)[0]!), isV (Value.agg #[vI (((b.drop q)[0]!).device), vI (((b.drop q)[0]!).no), vI (((b.drop q)[0]!).kind), vI (((b.drop q)[0]!).copy), vI (((b.drop q)[0]!).to), vI (((b.drop q)[0]!).token)])] (by kernel_rfl) (by kernel_rfl) (by kernel_rfl) (by kernel_rfl) rfl rfl ⟨fun _ _ _ h k => h.mv (Mv.of_keep k), fun _ _ _ ⟨a, e, h⟩ k => ⟨a, e, h.mv (Mv.of_keep k)⟩, kI, fun _ _ _ h k => h.mv (Mv.of_keep k), fun _ _ _ ⟨a, e, h⟩ k => ⟨a, e, h.mv (Mv.of_keep k)⟩, kI, trivial⟩ ⟨?_, ?_, ?_, ?_, ?_, ?_, trivial⟩ ?_
        ·intro F1 w1 k1 hf hd
         have k0 := (Keep.drew [] wlm0).trans k1
         have m1 : Mv Blm0 wlm0 Blm0 w1 := Mv.of_keep k0
         have hbs_m0_b864 := hbs_m0_b864.keep k0 (by simp)
         have hrdm0_b864_0 := hrdm0_b864_0.mv m1
         obtain ⟨F2, rfl⟩ := lit_of (F := F1) [(1, Value.pointer (some ⟨b864, 0, none⟩))] ⟨hf 1 (by kernel_rfl), trivial⟩
         exact sp_plain rfl ((o_loadBx Try.underlying26 rfl (vrm0_b864_0) rfl hbs_m0_b864 rfl (⟨(Keep.refl _ _), hrdm0_b864_0⟩)))
        ·intro F1 w1 k1 hf hd
         obtain ⟨v940, e942, hl941⟩ : ∃ v, F1 14 = v ∧ RdL Enc.devop w1 (Blm0 ++ O) v (a.drop p) := ⟨_, rfl, hd 0 14 (by kernel_rfl)⟩
         have := hl941.len_le
         obtain ⟨F2, rfl⟩ := lit_of (F := F1) [(14, v940)] ⟨e942, trivial⟩
         exact sp_plain rfl ((o_idx Try.underlying26 s_40 .i64 (0 : Int) 0 rfl rfl rfl hl941 (by omega) fun a943 hp944 => (⟨(Keep.refl _ _), ⟨a943, rfl, hp944⟩⟩)))
        ·intro F1 w1 k1 hf hd
         obtain ⟨a945, e947, hp946⟩ : ∃ aX_, F1 15 = .pointer (some aX_) ∧ PT Enc.devop w1 (Blm0 ++ O) (.pointer (some aX_)) ((a.drop p)[0]!) := hd 1 15 (by kernel_rfl)
         obtain ⟨F2, rfl⟩ := lit_of (F := F1) [(15, Value.pointer (some a945))] ⟨e947, trivial⟩
         refine sp_plain rfl ((o_loadS Try.underlying40 rfl s_40 rfl hp946 fun cs948 hs949 => (?_)))
         obtain rfl := hs949
         exact ⟨(Keep.refl _ _), rfl⟩
        ·intro F1 w1 k1 hf hd
         have k0 := (Keep.drew [] wlm0).trans k1
         have m1 : Mv Blm0 wlm0 Blm0 w1 := Mv.of_keep k0
         have hbs_m0_b871 := hbs_m0_b871.keep k0 (by simp)
         have hrdm0_b871_0 := hrdm0_b871_0.mv m1
         obtain ⟨F2, rfl⟩ := lit_of (F := F1) [(2, Value.pointer (some ⟨b871, 0, none⟩))] ⟨hf 2 (by kernel_rfl), trivial⟩
         exact sp_plain rfl ((o_loadBx Try.underlying26 rfl (vrm0_b871_0) rfl hbs_m0_b871 rfl (⟨(Keep.refl _ _), hrdm0_b871_0⟩)))
        ·intro F1 w1 k1 hf hd
         obtain ⟨v950, e952, hl951⟩ : ∃ v, F1 17 = v ∧ RdL Enc.devop w1 (Blm0 ++ O) v (b.drop q) := ⟨_, rfl, hd 3 17 (by kernel_rfl)⟩
         have := hl951.len_le
         obtain ⟨F2, rfl⟩ := lit_of (F := F1) [(17, v950)] ⟨e952, trivial⟩
         exact sp_plain rfl ((o_idx Try.underlying26 s_40 .i64 (0 : Int) 0 rfl rfl rfl hl951 (by omega) fun a953 hp954 => (⟨(Keep.refl _ _), ⟨a953, rfl, hp954⟩⟩)))
        ·intro F1 w1 k1 hf hd
         obtain ⟨a955, e957, hp956⟩ : ∃ aX_, F1 18 = .pointer (some aX_) ∧ PT Enc.devop w1 (Blm0 ++ O) (.pointer (some aX_)) ((b.drop q)[0]!) := hd 4 18 (by kernel_rfl)
         obtain ⟨F2, rfl⟩ := lit_of (F := F1) [(18, Value.pointer (some a955))] ⟨e957, trivial⟩
         refine sp_plain rfl ((o_loadS Try.underlying40 rfl s_40 rfl hp956 fun cs958 hs959 => (?_)))
         obtain rfl := hs959
         exact ⟨(Keep.refl _ _), rfl⟩
        intro F961 w962 k960 hT963 hF964
        have s965 := slm0.call k960
        have m966 : Mv Blm0 wlm0 Blm0 w962 := Mv.of_keep k960
        have hrdm0_b864_0 := hrdm0_b864_0.mv m966
        have hrdm0_b871_0 := hrdm0_b871_0.mv m966
        have h_a := h_a.mv m966
        have h_b := h_b.mv m966
        have oD_r890 := oD_r890.keep k960 (by simp)
        have hbs_m0_b864 := hbs_m0_b864.keep k960 (by simp)
        have hbs_m0_b871 := hbs_m0_b871.keep k960 (by simp)
        have hom0_b881_0 := hom0_b881_0.mv m966 k960 (by simp)
        have hbs_m0_b881 := hbs_m0_b881.keep k960 (by simp)
        have oL_r890 := oL_r890.keep k960 (by simp)
        obtain ⟨F2, rfl⟩ := lit_of (F := F961) [(0, Value.func (.yield l_r890) #[] #[]), (1, Value.pointer (some ⟨b864, 0, none⟩)), (2, Value.pointer (some ⟨b871, 0, none⟩)), (4, vI (0 : Int)), (47, undef), (16, Value.agg #[vI (((a.drop p)[0]!).device), vI (((a.drop p)[0]!).no), vI (((a.drop p)[0]!).kind), vI (((a.drop p)[0]!).copy), vI (((a.drop p)[0]!).to), vI (((a.drop p)[0]!).token)]), (19, Value.agg #[vI (((b.drop q)[0]!).device), vI (((b.drop q)[0]!).no), vI (((b.drop q)[0]!).kind), vI (((b.drop q)[0]!).copy), vI (((b.drop q)[0]!).to), vI (((b.drop q)[0]!).token)])] ⟨hF964 0 (by kernel_rfl), hF964 1 (by kernel_rfl), hF964 2 (by kernel_rfl), hF964 4 (by kernel_rfl), hF964 47 (by kernel_rfl), hT963 2 16 (by kernel_rfl) (by decide), hT963 5 19 (by kernel_rfl) (by decide), trivial⟩
        clear hT963 hF964
        refine wl_s (o_callK (vs := [Value.agg #[vI (((a.drop p)[0]!).device), vI (((a.drop p)[0]!).no), vI (((a.drop p)[0]!).kind), vI (((a.drop p)[0]!).copy), vI (((a.drop p)[0]!).to), vI (((a.drop p)[0]!).token)], Value.agg #[vI (((b.drop q)[0]!).device), vI (((b.drop q)[0]!).no), vI (((b.drop q)[0]!).kind), vI (((b.drop q)[0]!).copy), vI (((b.drop q)[0]!).to), vI (((b.drop q)[0]!).token)]]) enter_61 (c_compare (O := Blm0 ++ O) [vI (((a.drop p)[0]!).device), vI (((a.drop p)[0]!).no), vI (((a.drop p)[0]!).kind), vI (((a.drop p)[0]!).copy), vI (((a.drop p)[0]!).to), vI (((a.drop p)[0]!).token)] ((a.drop p)[0]!) [vI (((b.drop q)[0]!).device), vI (((b.drop q)[0]!).no), vI (((b.drop q)[0]!).kind), vI (((b.drop q)[0]!).copy), vI (((b.drop q)[0]!).to), vI (((b.drop q)[0]!).token)] ((b.drop q)[0]!) w962 rfl rfl s965.lt) rfl s965 fun v969 w970 s971 m972 k973 r974 => (?_))
        obtain rfl := r974
        have h_a := h_a.mv m972
        have h_b := h_b.mv m972
        have oD_r890 := oD_r890.keep k973 (by simp)
        have hrdm0_b864_0 := hrdm0_b864_0.mv m972
        have hbs_m0_b864 := hbs_m0_b864.keep k973 (by simp)
        have hrdm0_b871_0 := hrdm0_b871_0.mv m972
        have hbs_m0_b871 := hbs_m0_b871.keep k973 (by simp)
        have hom0_b881_0 := hom0_b881_0.mv m972 k973 (by simp)
        have hbs_m0_b881 := hbs_m0_b881.keep k973 (by simp)
        have oL_r890 := oL_r890.keep k973 (by simp)
        refine wl_s (o_assign (vI (cmpM ((a.drop p)[0]!) ((b.drop q)[0]!))) rfl (wl_nil (blockQ_n (thenQ_n (?_)))))
        exact ⟨(cmpM ((a.drop p)[0]!) ((b.drop q)[0]!)), Blm0, (by first | exact .inl ⟨by omega, by omega, rfl⟩ | exact .inr (.inl ⟨by omega, by omega, rfl⟩) | exact .inr (.inr ⟨by omega, by omega, rfl⟩)), trivial, ⟨_, upds_self _ ⟨rfl, rfl, rfl, rfl, rfl, trivial⟩⟩, s971, h_a, h_b, oD_r890, (by first | assumption | (repeat (first | exact List.mem_cons_self | assumption | apply List.mem_cons_of_mem)) | (apply_assumption; assumption)), hrdm0_b864_0, hbs_m0_b864, (by first | assumption | (repeat (first | exact List.mem_cons_self | assumption | apply List.mem_cons_of_mem)) | (apply_assumption; assumption)), hrdm0_b871_0, hbs_m0_b871, (by first | assumption | (repeat (first | exact List.mem_cons_self | assumption | apply List.mem_cons_of_mem)) | (apply_assumption; assumption)), hom0_b881_0, hBm0_b881_0, hbs_m0_b881, (by first | assumption | (repeat (first | exact List.mem_cons_self | assumption | apply List.mem_cons_of_mem)) | (apply_assumption; assumption)), oL_r890, (by first | assumption | (repeat (first | exact List.mem_cons_self | assumption | apply List.mem_cons_of_mem)) | (apply_assumption; assumption))⟩
     ·intro F wlcm5 hI
      clear h_a h_b oD_r890 hrdm0_b864_0 hbs_m0_b864 hrdm0_b871_0 hbs_m0_b871 hom0_b881_0 hBm0_b881_0 hbs_m0_b881 oL_r890
      obtain ⟨n, Blcm5, hrcm5_0, hmcm5, ⟨Flcm5, rfl⟩, slcm5, h_a, h_b, oD_r890, hin_D_r890, hrdm0_b864_0, hbs_m0_b864, hin_b864, hrdm0_b871_0, hbs_m0_b871, hin_b871, hom0_b881_0, hBm0_b881_0, hbs_m0_b881, hin_b881, oL_r890, hin_l_r890⟩ := hI
      refine cw_seq (?_)
      refine cw_region (by kernel_rfl) (wl_s (o_alloc [vI (0 : Int), vI (0 : Int), vI (0 : Int), vI (0 : Int), vI (0 : Int), vI (0 : Int)] z_40 rfl slcm5 fun b975 w976 e981 s977 m978 k979 bx980 => (?_)))
      have ne982 : NeB D_r890 b975 := by show D_r890 ≠ b975; have := oD_r890.lt; omega
      have ne983 : NeB b864 b975 := by show b864 ≠ b975; have := hbs_m0_b864.lt; omega
      have ne984 : NeB b871 b975 := by show b871 ≠ b975; have := hbs_m0_b871.lt; omega
      have ne985 : NeB b881 b975 := by show b881 ≠ b975; have := hbs_m0_b881.lt; omega
      have ne986 : NeB l_r890 b975 := by show l_r890 ≠ b975; have := oL_r890.lt; omega
      have ne987 : ∀ b, vom0_b881_0.ownBlock = some b → b ≠ b975 := fun b hb => by have := (hom0_b881_0.lt b hb).2; omega
      have hBm0_b881_0 : ∀ b, vom0_b881_0.ownBlock = some b → b ∈ (b975 :: Blcm5) := fun b hb => List.mem_cons_of_mem _ (hBm0_b881_0 b hb)
      clear e981
      have h_a := h_a.mv m978
      have h_b := h_b.mv m978
      have oD_r890 := oD_r890.keep k979 (by simp)
      have hrdm0_b864_0 := hrdm0_b864_0.mv m978
      have hbs_m0_b864 := hbs_m0_b864.keep k979 (by simp)
      have hrdm0_b871_0 := hrdm0_b871_0.mv m978
      have hbs_m0_b871 := hbs_m0_b871.keep k979 (by simp)
      have hom0_b881_0 := hom0_b881_0.mv m978 k979 (by simp)
      have hbs_m0_b881 := hbs_m0_b881.keep k979 (by simp)
      have oL_r890 := oL_r890.keep k979 (by simp)
      refine wl_nil (thenQ_n (?_))
      refine cw_cut (fun FI wI => ∃ (p2 : Nat) (o : DeviceOp) (vrcm36_b864_0 : Value) (B : List Nat), ((n ≤ 0 ∧ p < a.length ∧ p2 = p + 1 ∧ o = (a.drop p)[0]!) ∨ (0 < n ∧ q < b.length ∧ p2 = p)) ∧ True ∧ (∃ F1, FI = upds F1 [(0, Value.func (.yield l_r890) #[] #[]), (1, Value.pointer (some ⟨b864, 0, none⟩)), (2, Value.pointer (some ⟨b871, 0, none⟩)), (4, vI n), (5, Value.pointer (some ⟨b975, 0, none⟩)), (47, undef)]) ∧ St w O wI B ∧ RdL Enc.devop wI (B ++ O) vrcm36_b864_0 (a.drop p2) ∧ RdL Enc.devop wI (B ++ O) (a_v) (a) ∧ RdL Enc.devop wI (B ++ O) (b_v) (b) ∧ Ob wI D_r890 (.deferred (some [])) ∧ D_r890 ∈ B ∧ Box wI b864 26 [vrcm36_b864_0] ∧ b864 ∈ B ∧ RdL Enc.devop wI (B ++ O) (vrm0_b871_0) (b.drop q) ∧ Box wI b871 26 [vrm0_b871_0] ∧ b871 ∈ B ∧ Own Enc.devop 40 w.heap.size (B ++ O) wI vom0_b881_0 (x) ∧ (∀ b, vom0_b881_0.ownBlock = some b → b ∈ B) ∧ Box wI b881 26 [vom0_b881_0] ∧ b881 ∈ B ∧ Box wI b975 40 [vI o.device, vI o.no, vI o.kind, vI o.copy, vI o.to, vI o.token] ∧ b975 ∈ B ∧ Ob wI l_r890 (R_r890 .ready none) ∧ l_r890 ∈ B) ?_ ?_
      ·refine cw_seq (?_)
       refine cw_region (by kernel_rfl) (wl_s (o_move (vI n) rfl (wl_s (o_leq .i64 n (0 : Int) rfl rfl (wl_nil (thenQ_n (?_)))))))
       refine cw_cond (decide (n ≤ (0 : Int))) rfl rfl (fun hc988 => ?_) (fun hc988 => ?_)
       ·have hp989 : n ≤ (0 : Int) := by first | simpa using hc988 | (have e := hc988; simp at e; omega)
        refine cw_drawL 5 [3, 4] _ _ _ [fun (vT : Value) (wT : World) => RdL Enc.devop wT ((b975 :: Blcm5) ++ O) vT (a.drop p), fun (vT : Value) (wT : World) => ∃ aT, vT = .pointer (some aT) ∧ PT Enc.devop wT ((b975 :: Blcm5) ++ O) (.pointer (some aT)) ((a.drop p)[0]!), isV (Value.agg #[vI (((a.drop p)[0]!).device), vI (((a.drop p)[0]!).no), vI (((a.drop p)[0]!).kind), vI (((a.drop p)[0]!).copy), vI (((a.drop p)[0]!).to), vI (((a.drop p)[0]!).token)]), fun (vT : Value) (wT : World) => RdL Enc.devop wT ((b975 :: Blcm5) ++ O) vT (a.drop p), fun (vT : Value) (wT : World) => RdL Enc.devop wT ((b975 :: Blcm5) ++ O) vT (((a.drop p).drop 1))] (by kernel_rfl) (by kernel_rfl) (by kernel_rfl) (by kernel_rfl) (by decide) rfl rfl rfl ⟨fun _ _ _ h k => h.mv (Mv.of_keep k), fun _ _ _ ⟨a, e, h⟩ k => ⟨a, e, h.mv (Mv.of_keep k)⟩, kI, fun _ _ _ h k => h.mv (Mv.of_keep k), fun _ _ _ h k => h.mv (Mv.of_keep k), trivial⟩ ⟨?_, ?_, ?_, ?_, ?_, trivial⟩ ?_ ?_
        ·intro F1 w1 k1 hf hd
         have k0 := (Keep.drew [] w976).trans k1
         have m1 : Mv (b975 :: Blcm5) w976 (b975 :: Blcm5) w1 := Mv.of_keep k0
         have hbs_m0_b864 := hbs_m0_b864.keep k0 (by simp)
         have hrdm0_b864_0 := hrdm0_b864_0.mv m1
         obtain ⟨F2, rfl⟩ := lit_of (F := F1) [(1, Value.pointer (some ⟨b864, 0, none⟩))] ⟨hf 1 (by kernel_rfl), trivial⟩
         exact sp_plain rfl ((o_loadBx Try.underlying26 rfl (vrm0_b864_0) rfl hbs_m0_b864 rfl (⟨(Keep.refl _ _), hrdm0_b864_0⟩)))
        ·intro F1 w1 k1 hf hd
         obtain ⟨v990, e992, hl991⟩ : ∃ v, F1 31 = v ∧ RdL Enc.devop w1 ((b975 :: Blcm5) ++ O) v (a.drop p) := ⟨_, rfl, hd 0 31 (by kernel_rfl)⟩
         have := hl991.len_le
         obtain ⟨F2, rfl⟩ := lit_of (F := F1) [(31, v990)] ⟨e992, trivial⟩
         exact sp_plain rfl ((o_idx Try.underlying26 s_40 .i64 (0 : Int) 0 rfl rfl rfl hl991 (by omega) fun a993 hp994 => (⟨(Keep.refl _ _), ⟨a993, rfl, hp994⟩⟩)))
        ·intro F1 w1 k1 hf hd
         obtain ⟨a995, e997, hp996⟩ : ∃ aX_, F1 32 = .pointer (some aX_) ∧ PT Enc.devop w1 ((b975 :: Blcm5) ++ O) (.pointer (some aX_)) ((a.drop p)[0]!) := hd 1 32 (by kernel_rfl)
         obtain ⟨F2, rfl⟩ := lit_of (F := F1) [(32, Value.pointer (some a995))] ⟨e997, trivial⟩
         refine sp_plain rfl ((o_loadS Try.underlying40 rfl s_40 rfl hp996 fun cs998 hs999 => (?_)))
         obtain rfl := hs999
         exact ⟨(Keep.refl _ _), rfl⟩
        ·intro F1 w1 k1 hf hd
         have k0 := (Keep.drew [] w976).trans k1
         have m1 : Mv (b975 :: Blcm5) w976 (b975 :: Blcm5) w1 := Mv.of_keep k0
         have hbs_m0_b864 := hbs_m0_b864.keep k0 (by simp)
         have hrdm0_b864_0 := hrdm0_b864_0.mv m1
         obtain ⟨F2, rfl⟩ := lit_of (F := F1) [(1, Value.pointer (some ⟨b864, 0, none⟩))] ⟨hf 1 (by kernel_rfl), trivial⟩
         exact sp_plain rfl ((o_loadBx Try.underlying26 rfl (vrm0_b864_0) rfl hbs_m0_b864 rfl (⟨(Keep.refl _ _), hrdm0_b864_0⟩)))
        ·intro F1 w1 k1 hf hd
         obtain ⟨v1000, e1002, hl1001⟩ : ∃ v, F1 34 = v ∧ RdL Enc.devop w1 ((b975 :: Blcm5) ++ O) v (a.drop p) := ⟨_, rfl, hd 3 34 (by kernel_rfl)⟩
         have := hl1001.len_le
         obtain ⟨F2, rfl⟩ := lit_of (F := F1) [(34, v1000)] ⟨e1002, trivial⟩
         refine sp_plain rfl ((o_sliceR Try.underlying26 s_40 1 ((a.drop p).length) rfl (.inr ⟨.const (vI (1 : Int)), .i64, (1 : Int), rfl, rfl, rfl⟩) (.inl ⟨rfl, rfl⟩) (by omega) (by omega) hl1001 fun v1003 hl1004 => (?_)))
         rw [List.take_length] at hl1004
         exact ⟨(Keep.refl _ _), hl1004⟩
        ·intro F1006 w1007 k1005 hT1008 hF1009
         have s1010 := s977.call k1005
         have m1011 : Mv (b975 :: Blcm5) w976 (b975 :: Blcm5) w1007 := Mv.of_keep k1005
         have h_a := h_a.mv m1011
         have h_b := h_b.mv m1011
         have oD_r890 := oD_r890.keep k1005 (by simp)
         have hbs_m0_b864 := hbs_m0_b864.keep k1005 (by simp)
         have hrdm0_b871_0 := hrdm0_b871_0.mv m1011
         have hbs_m0_b871 := hbs_m0_b871.keep k1005 (by simp)
         have hom0_b881_0 := hom0_b881_0.mv m1011 k1005 (by simp)
         have hbs_m0_b881 := hbs_m0_b881.keep k1005 (by simp)
         have oL_r890 := oL_r890.keep k1005 (by simp)
         have bx980 := bx980.keep k1005 (by simp)
         obtain ⟨v1014, e1016, hl1015⟩ : ∃ v, F1006 35 = v ∧ RdL Enc.devop w1007 ((b975 :: Blcm5) ++ O) v (((a.drop p).drop 1)) := ⟨_, rfl, hT1008 4 35 (by kernel_rfl) (by decide)⟩
         have := hl1015.len_le
         obtain ⟨F2, rfl⟩ := lit_of (F := F1006) [(0, Value.func (.yield l_r890) #[] #[]), (1, Value.pointer (some ⟨b864, 0, none⟩)), (2, Value.pointer (some ⟨b871, 0, none⟩)), (4, vI n), (5, Value.pointer (some ⟨b975, 0, none⟩)), (47, undef), (33, Value.agg #[vI (((a.drop p)[0]!).device), vI (((a.drop p)[0]!).no), vI (((a.drop p)[0]!).kind), vI (((a.drop p)[0]!).copy), vI (((a.drop p)[0]!).to), vI (((a.drop p)[0]!).token)]), (35, v1014)] ⟨hF1009 0 (by kernel_rfl), hF1009 1 (by kernel_rfl), hF1009 2 (by kernel_rfl), hF1009 4 (by kernel_rfl), hF1009 5 (by kernel_rfl), hF1009 47 (by kernel_rfl), hT1008 2 33 (by kernel_rfl) (by decide), e1016, trivial⟩
         clear hT1008 hF1009
         refine wl_n (o_store (vs := [vI (((a.drop p)[0]!).device), vI (((a.drop p)[0]!).no), vI (((a.drop p)[0]!).kind), vI (((a.drop p)[0]!).copy), vI (((a.drop p)[0]!).to), vI (((a.drop p)[0]!).token)]) (.agg #[vI (((a.drop p)[0]!).device), vI (((a.drop p)[0]!).no), vI (((a.drop p)[0]!).kind), vI (((a.drop p)[0]!).copy), vI (((a.drop p)[0]!).to), vI (((a.drop p)[0]!).token)]) rfl rfl rfl s_40 (fun u hu => by simp only [List.mem_cons, List.not_mem_nil, or_false] at hu; rcases hu with rfl | rfl | rfl | rfl | rfl | rfl <;> first | rfl) (by repeat (first | assumption | constructor)) bx980 (of_decide_eq_true rfl) s1010 fun w1017 s1018 m1019 k1020 bx1021 => (?_))
         have hl1015 := hl1015.mv m1019
         have h_a := h_a.mv m1019
         have h_b := h_b.mv m1019
         have oD_r890 := oD_r890.keep k1020 (nin1 ne982)
         have hbs_m0_b864 := hbs_m0_b864.keep k1020 (nin1 ne983)
         have hrdm0_b871_0 := hrdm0_b871_0.mv m1019
         have hbs_m0_b871 := hbs_m0_b871.keep k1020 (nin1 ne984)
         have hom0_b881_0 := hom0_b881_0.mv m1019 k1020 (fun b hb => nin1 (ne987 b hb))
         have hbs_m0_b881 := hbs_m0_b881.keep k1020 (nin1 ne985)
         have oL_r890 := oL_r890.keep k1020 (nin1 ne986)
         refine wl_n (o_store1 (v1014) rfl rfl hl1015.oneCell s_26 (by repeat (first | assumption | constructor)) hbs_m0_b864 (of_decide_eq_true rfl) s1018 fun w1022 s1023 m1024 k1025 bx1026 => (?_))
         have hl1015 := hl1015.mv m1024
         have h_a := h_a.mv m1024
         have h_b := h_b.mv m1024
         have oD_r890 := oD_r890.keep k1025 (nin1 (Ne.symm ne897.1))
         have hrdm0_b871_0 := hrdm0_b871_0.mv m1024
         have hbs_m0_b871 := hbs_m0_b871.keep k1025 (nin1 (Ne.symm ne878))
         have hom0_b881_0 := hom0_b881_0.mv m1024 k1025 (fun b hb => nin1 (nbm0_b881_0_b864 b hb))
         have hbs_m0_b881 := hbs_m0_b881.keep k1025 (nin1 (Ne.symm ne888))
         have oL_r890 := oL_r890.keep k1025 (nin1 (Ne.symm ne897.2))
         have bx1021 := bx1021.keep k1025 (nin1 (Ne.symm ne983))
         refine wl_nil (thenQ_n (?_))
         exact ⟨(p + 1), ((a.drop p)[0]!), v1014, (b975 :: Blcm5), (by first | exact .inl ⟨by omega, by omega, rfl, rfl⟩ | exact .inr ⟨by omega, by omega, rfl⟩), trivial, ⟨_, upds_self _ ⟨rfl, rfl, rfl, rfl, rfl, rfl, trivial⟩⟩, s1023, (by rw [show a.drop (p + 1) = ((a.drop p).drop 1) from (by first | rfl | rw [List.drop_drop])]; exact hl1015), h_a, h_b, oD_r890, (by first | assumption | (repeat (first | exact List.mem_cons_self | assumption | apply List.mem_cons_of_mem)) | (apply_assumption; assumption)), bx1026, (by first | assumption | (repeat (first | exact List.mem_cons_self | assumption | apply List.mem_cons_of_mem)) | (apply_assumption; assumption)), hrdm0_b871_0, hbs_m0_b871, (by first | assumption | (repeat (first | exact List.mem_cons_self | assumption | apply List.mem_cons_of_mem)) | (apply_assumption; assumption)), hom0_b881_0, hBm0_b881_0, hbs_m0_b881, (by first | assumption | (repeat (first | exact List.mem_cons_self | assumption | apply List.mem_cons_of_mem)) | (apply_assumption; assumption)), bx1021, (by first | assumption | (repeat (first | exact List.mem_cons_self | assumption | apply List.mem_cons_of_mem)) | (apply_assumption; assumption)), oL_r890, (by first | assumption | (repeat (first | exact List.mem_cons_self | assumption | apply List.mem_cons_of_mem)) | (apply_assumption; assumption))⟩
        ·intro cx_ hcx_
         match cx_, hcx_ with
         | 0, _ =>
          intro F1028 w1029 k1027 hT1030 hF1031
          have s1032 := s977.call k1027
          have m1033 : Mv (b975 :: Blcm5) w976 (b975 :: Blcm5) w1029 := Mv.of_keep k1027
          have h_a := h_a.mv m1033
          have h_b := h_b.mv m1033
          have oD_r890 := oD_r890.keep k1027 (by simp)
          have hrdm0_b864_0 := hrdm0_b864_0.mv m1033
          have hbs_m0_b864 := hbs_m0_b864.keep k1027 (by simp)
          have hrdm0_b871_0 := hrdm0_b871_0.mv m1033
          have hbs_m0_b871 := hbs_m0_b871.keep k1027 (by simp)
          have hom0_b881_0 := hom0_b881_0.mv m1033 k1027 (by simp)
          have hbs_m0_b881 := hbs_m0_b881.keep k1027 (by simp)
          have oL_r890 := oL_r890.keep k1027 (by simp)
          have bx980 := bx980.keep k1027 (by simp)
          obtain ⟨F2, rfl⟩ := lit_of (F := F1028) [(0, Value.func (.yield l_r890) #[] #[]), (1, Value.pointer (some ⟨b864, 0, none⟩)), (2, Value.pointer (some ⟨b871, 0, none⟩)), (4, vI n), (5, Value.pointer (some ⟨b975, 0, none⟩)), (47, undef), (33, Value.agg #[vI (((a.drop p)[0]!).device), vI (((a.drop p)[0]!).no), vI (((a.drop p)[0]!).kind), vI (((a.drop p)[0]!).copy), vI (((a.drop p)[0]!).to), vI (((a.drop p)[0]!).token)])] ⟨hF1031 0 (by kernel_rfl), hF1031 1 (by kernel_rfl), hF1031 2 (by kernel_rfl), hF1031 4 (by kernel_rfl), hF1031 5 (by kernel_rfl), hF1031 47 (by kernel_rfl), hT1030 2 33 (by kernel_rfl) (by decide) (by decide), trivial⟩
          clear hT1030 hF1031
          refine wl_n (o_store (vs := [vI (((a.drop p)[0]!).device), vI (((a.drop p)[0]!).no), vI (((a.drop p)[0]!).kind), vI (((a.drop p)[0]!).copy), vI (((a.drop p)[0]!).to), vI (((a.drop p)[0]!).token)]) (.agg #[vI (((a.drop p)[0]!).device), vI (((a.drop p)[0]!).no), vI (((a.drop p)[0]!).kind), vI (((a.drop p)[0]!).copy), vI (((a.drop p)[0]!).to), vI (((a.drop p)[0]!).token)]) rfl rfl rfl s_40 (fun u hu => by simp only [List.mem_cons, List.not_mem_nil, or_false] at hu; rcases hu with rfl | rfl | rfl | rfl | rfl | rfl <;> first | rfl) (by repeat (first | assumption | constructor)) bx980 (of_decide_eq_true rfl) s1032 fun w1036 s1037 m1038 k1039 bx1040 => (?_))
          have h_a := h_a.mv m1038
          have h_b := h_b.mv m1038
          have oD_r890 := oD_r890.keep k1039 (nin1 ne982)
          have hrdm0_b864_0 := hrdm0_b864_0.mv m1038
          have hbs_m0_b864 := hbs_m0_b864.keep k1039 (nin1 ne983)
          have hrdm0_b871_0 := hrdm0_b871_0.mv m1038
          have hbs_m0_b871 := hbs_m0_b871.keep k1039 (nin1 ne984)
          have hom0_b881_0 := hom0_b881_0.mv m1038 k1039 (fun b hb => nin1 (ne987 b hb))
          have hbs_m0_b881 := hbs_m0_b881.keep k1039 (nin1 ne985)
          have oL_r890 := oL_r890.keep k1039 (nin1 ne986)
          refine wl_s (o_loadBx Try.underlying26 rfl (vrm0_b864_0) rfl hbs_m0_b864 rfl (wl_s (o_sliceR Try.underlying26 s_40 1 ((a.drop p).length) rfl (.inr ⟨.const (vI (1 : Int)), .i64, (1 : Int), rfl, rfl, rfl⟩) (.inl ⟨rfl, rfl⟩) (by omega) (by omega) hrdm0_b864_0 fun v1041 hl1042 => (?_))))
          rw [List.take_length] at hl1042
          refine wl_n (o_store1 (v1041) rfl rfl hl1042.oneCell s_26 (by repeat (first | assumption | constructor)) hbs_m0_b864 (of_decide_eq_true rfl) s1037 fun w1043 s1044 m1045 k1046 bx1047 => (?_))
          have hl1042 := hl1042.mv m1045
          have h_a := h_a.mv m1045
          have h_b := h_b.mv m1045
          have oD_r890 := oD_r890.keep k1046 (nin1 (Ne.symm ne897.1))
          have hrdm0_b871_0 := hrdm0_b871_0.mv m1045
          have hbs_m0_b871 := hbs_m0_b871.keep k1046 (nin1 (Ne.symm ne878))
          have hom0_b881_0 := hom0_b881_0.mv m1045 k1046 (fun b hb => nin1 (nbm0_b881_0_b864 b hb))
          have hbs_m0_b881 := hbs_m0_b881.keep k1046 (nin1 (Ne.symm ne888))
          have oL_r890 := oL_r890.keep k1046 (nin1 (Ne.symm ne897.2))
          have bx1040 := bx1040.keep k1046 (nin1 (Ne.symm ne983))
          refine wl_nil (thenQ_n (?_))
          exact ⟨(p + 1), ((a.drop p)[0]!), v1041, (b975 :: Blcm5), (by first | exact .inl ⟨by omega, by omega, rfl, rfl⟩ | exact .inr ⟨by omega, by omega, rfl⟩), trivial, ⟨_, upds_self _ ⟨rfl, rfl, rfl, rfl, rfl, rfl, trivial⟩⟩, s1044, (by rw [show a.drop (p + 1) = ((a.drop p).drop 1) from (by first | rfl | rw [List.drop_drop])]; exact hl1042), h_a, h_b, oD_r890, (by first | assumption | (repeat (first | exact List.mem_cons_self | assumption | apply List.mem_cons_of_mem)) | (apply_assumption; assumption)), bx1047, (by first | assumption | (repeat (first | exact List.mem_cons_self | assumption | apply List.mem_cons_of_mem)) | (apply_assumption; assumption)), hrdm0_b871_0, hbs_m0_b871, (by first | assumption | (repeat (first | exact List.mem_cons_self | assumption | apply List.mem_cons_of_mem)) | (apply_assumption; assumption)), hom0_b881_0, hBm0_b881_0, hbs_m0_b881, (by first | assumption | (repeat (first | exact List.mem_cons_self | assumption | apply List.mem_cons_of_mem)) | (apply_assumption; assumption)), bx1040, (by first | assumption | (repeat (first | exact List.mem_cons_self | assumption | apply List.mem_cons_of_mem)) | (apply_assumption; assumption)), oL_r890, (by first | assumption | (repeat (first | exact List.mem_cons_self | assumption | apply List.mem_cons_of_mem)) | (apply_assumption; assumption))⟩
         | 1, _ =>
          intro F1049 w1050 k1048 hT1051 hF1052
          have s1053 := s977.call k1048
          have m1054 : Mv (b975 :: Blcm5) w976 (b975 :: Blcm5) w1050 := Mv.of_keep k1048
          have h_a := h_a.mv m1054
          have h_b := h_b.mv m1054
          have oD_r890 := oD_r890.keep k1048 (by simp)
          have hbs_m0_b864 := hbs_m0_b864.keep k1048 (by simp)
          have hrdm0_b871_0 := hrdm0_b871_0.mv m1054
          have hbs_m0_b871 := hbs_m0_b871.keep k1048 (by simp)
          have hom0_b881_0 := hom0_b881_0.mv m1054 k1048 (by simp)
          have hbs_m0_b881 := hbs_m0_b881.keep k1048 (by simp)
          have oL_r890 := oL_r890.keep k1048 (by simp)
          have bx980 := bx980.keep k1048 (by simp)
          obtain ⟨v1057, e1059, hl1058⟩ : ∃ v, F1049 34 = v ∧ RdL Enc.devop w1050 ((b975 :: Blcm5) ++ O) v (a.drop p) := ⟨_, rfl, hT1051 3 34 (by kernel_rfl) (by decide) (by decide)⟩
          have := hl1058.len_le
          obtain ⟨F2, rfl⟩ := lit_of (F := F1049) [(0, Value.func (.yield l_r890) #[] #[]), (1, Value.pointer (some ⟨b864, 0, none⟩)), (2, Value.pointer (some ⟨b871, 0, none⟩)), (4, vI n), (5, Value.pointer (some ⟨b975, 0, none⟩)), (47, undef), (33, Value.agg #[vI (((a.drop p)[0]!).device), vI (((a.drop p)[0]!).no), vI (((a.drop p)[0]!).kind), vI (((a.drop p)[0]!).copy), vI (((a.drop p)[0]!).to), vI (((a.drop p)[0]!).token)]), (34, v1057)] ⟨hF1052 0 (by kernel_rfl), hF1052 1 (by kernel_rfl), hF1052 2 (by kernel_rfl), hF1052 4 (by kernel_rfl), hF1052 5 (by kernel_rfl), hF1052 47 (by kernel_rfl), hT1051 2 33 (by kernel_rfl) (by decide) (by decide), e1059, trivial⟩
          clear hT1051 hF1052
          refine wl_n (o_store (vs := [vI (((a.drop p)[0]!).device), vI (((a.drop p)[0]!).no), vI (((a.drop p)[0]!).kind), vI (((a.drop p)[0]!).copy), vI (((a.drop p)[0]!).to), vI (((a.drop p)[0]!).token)]) (.agg #[vI (((a.drop p)[0]!).device), vI (((a.drop p)[0]!).no), vI (((a.drop p)[0]!).kind), vI (((a.drop p)[0]!).copy), vI (((a.drop p)[0]!).to), vI (((a.drop p)[0]!).token)]) rfl rfl rfl s_40 (fun u hu => by simp only [List.mem_cons, List.not_mem_nil, or_false] at hu; rcases hu with rfl | rfl | rfl | rfl | rfl | rfl <;> first | rfl) (by repeat (first | assumption | constructor)) bx980 (of_decide_eq_true rfl) s1053 fun w1060 s1061 m1062 k1063 bx1064 => (?_))
          have hl1058 := hl1058.mv m1062
          have h_a := h_a.mv m1062
          have h_b := h_b.mv m1062
          have oD_r890 := oD_r890.keep k1063 (nin1 ne982)
          have hbs_m0_b864 := hbs_m0_b864.keep k1063 (nin1 ne983)
          have hrdm0_b871_0 := hrdm0_b871_0.mv m1062
          have hbs_m0_b871 := hbs_m0_b871.keep k1063 (nin1 ne984)
          have hom0_b881_0 := hom0_b881_0.mv m1062 k1063 (fun b hb => nin1 (ne987 b hb))
          have hbs_m0_b881 := hbs_m0_b881.keep k1063 (nin1 ne985)
          have oL_r890 := oL_r890.keep k1063 (nin1 ne986)
          refine wl_s (o_sliceR Try.underlying26 s_40 1 ((a.drop p).length) rfl (.inr ⟨.const (vI (1 : Int)), .i64, (1 : Int), rfl, rfl, rfl⟩) (.inl ⟨rfl, rfl⟩) (by omega) (by omega) hl1058 fun v1065 hl1066 => (?_))
          rw [List.take_length] at hl1066
          refine wl_n (o_store1 (v1065) rfl rfl hl1066.oneCell s_26 (by repeat (first | assumption | constructor)) hbs_m0_b864 (of_decide_eq_true rfl) s1061 fun w1067 s1068 m1069 k1070 bx1071 => (?_))
          have hl1066 := hl1066.mv m1069
          have h_a := h_a.mv m1069
          have h_b := h_b.mv m1069
          have oD_r890 := oD_r890.keep k1070 (nin1 (Ne.symm ne897.1))
          have hrdm0_b871_0 := hrdm0_b871_0.mv m1069
          have hbs_m0_b871 := hbs_m0_b871.keep k1070 (nin1 (Ne.symm ne878))
          have hom0_b881_0 := hom0_b881_0.mv m1069 k1070 (fun b hb => nin1 (nbm0_b881_0_b864 b hb))
          have hbs_m0_b881 := hbs_m0_b881.keep k1070 (nin1 (Ne.symm ne888))
          have oL_r890 := oL_r890.keep k1070 (nin1 (Ne.symm ne897.2))
          have bx1064 := bx1064.keep k1070 (nin1 (Ne.symm ne983))
          refine wl_nil (thenQ_n (?_))
          exact ⟨(p + 1), ((a.drop p)[0]!), v1065, (b975 :: Blcm5), (by first | exact .inl ⟨by omega, by omega, rfl, rfl⟩ | exact .inr ⟨by omega, by omega, rfl⟩), trivial, ⟨_, upds_self _ ⟨rfl, rfl, rfl, rfl, rfl, rfl, trivial⟩⟩, s1068, (by rw [show a.drop (p + 1) = ((a.drop p).drop 1) from (by first | rfl | rw [List.drop_drop])]; exact hl1066), h_a, h_b, oD_r890, (by first | assumption | (repeat (first | exact List.mem_cons_self | assumption | apply List.mem_cons_of_mem)) | (apply_assumption; assumption)), bx1071, (by first | assumption | (repeat (first | exact List.mem_cons_self | assumption | apply List.mem_cons_of_mem)) | (apply_assumption; assumption)), hrdm0_b871_0, hbs_m0_b871, (by first | assumption | (repeat (first | exact List.mem_cons_self | assumption | apply List.mem_cons_of_mem)) | (apply_assumption; assumption)), hom0_b881_0, hBm0_b881_0, hbs_m0_b881, (by first | assumption | (repeat (first | exact List.mem_cons_self | assumption | apply List.mem_cons_of_mem)) | (apply_assumption; assumption)), bx1064, (by first | assumption | (repeat (first | exact List.mem_cons_self | assumption | apply List.mem_cons_of_mem)) | (apply_assumption; assumption)), oL_r890, (by first | assumption | (repeat (first | exact List.mem_cons_self | assumption | apply List.mem_cons_of_mem)) | (apply_assumption; assumption))⟩
       ·have hp1072 : (0 : Int) < n := by first | simpa using hc988 | (have e := hc988; simp at e; omega)
        refine cw_skip (thenQ_n (?_))
        exact ⟨(p), ((⟨(0 : Int), (0 : Int), (0 : Int), (0 : Int), (0 : Int), (0 : Int)⟩ : DeviceOp)), vrm0_b864_0, (b975 :: Blcm5), (by first | exact .inl ⟨by omega, by omega, rfl, rfl⟩ | exact .inr ⟨by omega, by omega, rfl⟩), trivial, ⟨_, upds_self _ ⟨rfl, rfl, rfl, rfl, rfl, rfl, trivial⟩⟩, s977, (by rw [show a.drop (p) = a.drop p from (by first | rfl | rw [List.drop_drop])]; exact hrdm0_b864_0), h_a, h_b, oD_r890, (by first | assumption | (repeat (first | exact List.mem_cons_self | assumption | apply List.mem_cons_of_mem)) | (apply_assumption; assumption)), hbs_m0_b864, (by first | assumption | (repeat (first | exact List.mem_cons_self | assumption | apply List.mem_cons_of_mem)) | (apply_assumption; assumption)), hrdm0_b871_0, hbs_m0_b871, (by first | assumption | (repeat (first | exact List.mem_cons_self | assumption | apply List.mem_cons_of_mem)) | (apply_assumption; assumption)), hom0_b881_0, hBm0_b881_0, hbs_m0_b881, (by first | assumption | (repeat (first | exact List.mem_cons_self | assumption | apply List.mem_cons_of_mem)) | (apply_assumption; assumption)), (by rw [show ([vI (((⟨(0 : Int), (0 : Int), (0 : Int), (0 : Int), (0 : Int), (0 : Int)⟩ : DeviceOp)).device), vI (((⟨(0 : Int), (0 : Int), (0 : Int), (0 : Int), (0 : Int), (0 : Int)⟩ : DeviceOp)).no), vI (((⟨(0 : Int), (0 : Int), (0 : Int), (0 : Int), (0 : Int), (0 : Int)⟩ : DeviceOp)).kind), vI (((⟨(0 : Int), (0 : Int), (0 : Int), (0 : Int), (0 : Int), (0 : Int)⟩ : DeviceOp)).copy), vI (((⟨(0 : Int), (0 : Int), (0 : Int), (0 : Int), (0 : Int), (0 : Int)⟩ : DeviceOp)).to), vI (((⟨(0 : Int), (0 : Int), (0 : Int), (0 : Int), (0 : Int), (0 : Int)⟩ : DeviceOp)).token)] : List Value) = [vI (0 : Int), vI (0 : Int), vI (0 : Int), vI (0 : Int), vI (0 : Int), vI (0 : Int)] from by first | rfl | simp]; exact bx980), (by first | assumption | (repeat (first | exact List.mem_cons_self | assumption | apply List.mem_cons_of_mem)) | (apply_assumption; assumption)), oL_r890, (by first | assumption | (repeat (first | exact List.mem_cons_self | assumption | apply List.mem_cons_of_mem)) | (apply_assumption; assumption))⟩
      ·intro F wlcm36 hI
       clear h_a h_b oD_r890 hrdm0_b871_0 hbs_m0_b871 hom0_b881_0 hBm0_b881_0 hbs_m0_b881 oL_r890
       obtain ⟨p2, o, vrcm36_b864_0, Blcm36, hrcm36_0, hmcm36, ⟨Flcm36, rfl⟩, slcm36, hrdcm36_b864_0, h_a, h_b, oD_r890, hin_D_r890, hbs_cm36_b864, hin_b864, hrdm0_b871_0, hbs_m0_b871, hin_b871, hom0_b881_0, hBm0_b881_0, hbs_m0_b881, hin_b881, hbs_cm36_b975, hin_b975, oL_r890, hin_l_r890⟩ := hI
       have := hrdcm36_b864_0.len_le
       refine cw_cut (fun FI wI => ∃ (q2 : Nat) (o2 : DeviceOp) (vrcm43_b871_0 : Value) (B : List Nat), p2 ≤ a.length ∧ q2 ≤ b.length ∧ x ++ [o2] ++ mergeL (a.drop p2) (b.drop q2) = mergeL a b ∧ (x ++ [o2]).length ≤ p2 + q2 ∧ p + q < p2 + q2 ∧ True ∧ (∃ F1, FI = upds F1 [(0, Value.func (.yield l_r890) #[] #[]), (1, Value.pointer (some ⟨b864, 0, none⟩)), (2, Value.pointer (some ⟨b871, 0, none⟩)), (5, Value.pointer (some ⟨b975, 0, none⟩)), (47, undef)]) ∧ St w O wI B ∧ RdL Enc.devop wI (B ++ O) vrcm43_b871_0 (b.drop q2) ∧ RdL Enc.devop wI (B ++ O) (a_v) (a) ∧ RdL Enc.devop wI (B ++ O) (b_v) (b) ∧ Ob wI D_r890 (.deferred (some [])) ∧ D_r890 ∈ B ∧ RdL Enc.devop wI (B ++ O) (vrcm36_b864_0) (a.drop p2) ∧ Box wI b864 26 [vrcm36_b864_0] ∧ b864 ∈ B ∧ Box wI b871 26 [vrcm43_b871_0] ∧ b871 ∈ B ∧ Own Enc.devop 40 w.heap.size (B ++ O) wI vom0_b881_0 (x) ∧ (∀ b, vom0_b881_0.ownBlock = some b → b ∈ B) ∧ Box wI b881 26 [vom0_b881_0] ∧ b881 ∈ B ∧ Box wI b975 40 [vI o2.device, vI o2.no, vI o2.kind, vI o2.copy, vI o2.to, vI o2.token] ∧ b975 ∈ B ∧ Ob wI l_r890 (R_r890 .ready none) ∧ l_r890 ∈ B) ?_ ?_
       ·refine cw_seq (?_)
        refine cw_region (by kernel_rfl) (wl_s (o_move (vI n) rfl (wl_s (o_geq .i64 n (0 : Int) rfl rfl (wl_nil (thenQ_n (?_)))))))
        refine cw_cond (decide ((0 : Int) ≤ n)) rfl rfl (fun hc1073 => ?_) (fun hc1073 => ?_)
        ·have hp1074 : (0 : Int) ≤ n := by first | simpa using hc1073 | (have e := hc1073; simp at e; omega)
         refine cw_drawL 5 [3, 4] _ _ _ [fun (vT : Value) (wT : World) => RdL Enc.devop wT (Blcm36 ++ O) vT (b.drop q), fun (vT : Value) (wT : World) => ∃ aT, vT = .pointer (some aT) ∧ PT Enc.devop wT (Blcm36 ++ O) (.pointer (some aT)) ((b.drop q)[0]!), isV (Value.agg #[vI (((b.drop q)[0]!).device), vI (((b.drop q)[0]!).no), vI (((b.drop q)[0]!).kind), vI (((b.drop q)[0]!).copy), vI (((b.drop q)[0]!).to), vI (((b.drop q)[0]!).token)]), fun (vT : Value) (wT : World) => RdL Enc.devop wT (Blcm36 ++ O) vT (b.drop q), fun (vT : Value) (wT : World) => RdL Enc.devop wT (Blcm36 ++ O) vT (((b.drop q).drop 1))] (by kernel_rfl) (by kernel_rfl) (by kernel_rfl) (by kernel_rfl) (by decide) rfl rfl rfl ⟨fun _ _ _ h k => h.mv (Mv.of_keep k), fun _ _ _ ⟨a, e, h⟩ k => ⟨a, e, h.mv (Mv.of_keep k)⟩, kI, fun _ _ _ h k => h.mv (Mv.of_keep k), fun _ _ _ h k => h.mv (Mv.of_keep k), trivial⟩ ⟨?_, ?_, ?_, ?_, ?_, trivial⟩ ?_ ?_
         ·intro F1 w1 k1 hf hd
          have k0 := (Keep.drew [] wlcm36).trans k1
          have m1 : Mv Blcm36 wlcm36 Blcm36 w1 := Mv.of_keep k0
          have hbs_m0_b871 := hbs_m0_b871.keep k0 (by simp)
          have hrdm0_b871_0 := hrdm0_b871_0.mv m1
          obtain ⟨F2, rfl⟩ := lit_of (F := F1) [(2, Value.pointer (some ⟨b871, 0, none⟩))] ⟨hf 2 (by kernel_rfl), trivial⟩
          exact sp_plain rfl ((o_loadBx Try.underlying26 rfl (vrm0_b871_0) rfl hbs_m0_b871 rfl (⟨(Keep.refl _ _), hrdm0_b871_0⟩)))
         ·intro F1 w1 k1 hf hd
          obtain ⟨v1075, e1077, hl1076⟩ : ∃ v, F1 38 = v ∧ RdL Enc.devop w1 (Blcm36 ++ O) v (b.drop q) := ⟨_, rfl, hd 0 38 (by kernel_rfl)⟩
          have := hl1076.len_le
          obtain ⟨F2, rfl⟩ := lit_of (F := F1) [(38, v1075)] ⟨e1077, trivial⟩
          exact sp_plain rfl ((o_idx Try.underlying26 s_40 .i64 (0 : Int) 0 rfl rfl rfl hl1076 (by omega) fun a1078 hp1079 => (⟨(Keep.refl _ _), ⟨a1078, rfl, hp1079⟩⟩)))
         ·intro F1 w1 k1 hf hd
          obtain ⟨a1080, e1082, hp1081⟩ : ∃ aX_, F1 39 = .pointer (some aX_) ∧ PT Enc.devop w1 (Blcm36 ++ O) (.pointer (some aX_)) ((b.drop q)[0]!) := hd 1 39 (by kernel_rfl)
          obtain ⟨F2, rfl⟩ := lit_of (F := F1) [(39, Value.pointer (some a1080))] ⟨e1082, trivial⟩
          refine sp_plain rfl ((o_loadS Try.underlying40 rfl s_40 rfl hp1081 fun cs1083 hs1084 => (?_)))
          obtain rfl := hs1084
          exact ⟨(Keep.refl _ _), rfl⟩
         ·intro F1 w1 k1 hf hd
          have k0 := (Keep.drew [] wlcm36).trans k1
          have m1 : Mv Blcm36 wlcm36 Blcm36 w1 := Mv.of_keep k0
          have hbs_m0_b871 := hbs_m0_b871.keep k0 (by simp)
          have hrdm0_b871_0 := hrdm0_b871_0.mv m1
          obtain ⟨F2, rfl⟩ := lit_of (F := F1) [(2, Value.pointer (some ⟨b871, 0, none⟩))] ⟨hf 2 (by kernel_rfl), trivial⟩
          exact sp_plain rfl ((o_loadBx Try.underlying26 rfl (vrm0_b871_0) rfl hbs_m0_b871 rfl (⟨(Keep.refl _ _), hrdm0_b871_0⟩)))
         ·intro F1 w1 k1 hf hd
          obtain ⟨v1085, e1087, hl1086⟩ : ∃ v, F1 41 = v ∧ RdL Enc.devop w1 (Blcm36 ++ O) v (b.drop q) := ⟨_, rfl, hd 3 41 (by kernel_rfl)⟩
          have := hl1086.len_le
          obtain ⟨F2, rfl⟩ := lit_of (F := F1) [(41, v1085)] ⟨e1087, trivial⟩
          refine sp_plain rfl ((o_sliceR Try.underlying26 s_40 1 ((b.drop q).length) rfl (.inr ⟨.const (vI (1 : Int)), .i64, (1 : Int), rfl, rfl, rfl⟩) (.inl ⟨rfl, rfl⟩) (by omega) (by omega) hl1086 fun v1088 hl1089 => (?_)))
          rw [List.take_length] at hl1089
          exact ⟨(Keep.refl _ _), hl1089⟩
         ·intro F1091 w1092 k1090 hT1093 hF1094
          have s1095 := slcm36.call k1090
          have m1096 : Mv Blcm36 wlcm36 Blcm36 w1092 := Mv.of_keep k1090
          have h_a := h_a.mv m1096
          have h_b := h_b.mv m1096
          have oD_r890 := oD_r890.keep k1090 (by simp)
          have hrdcm36_b864_0 := hrdcm36_b864_0.mv m1096
          have hbs_cm36_b864 := hbs_cm36_b864.keep k1090 (by simp)
          have hbs_m0_b871 := hbs_m0_b871.keep k1090 (by simp)
          have hom0_b881_0 := hom0_b881_0.mv m1096 k1090 (by simp)
          have hbs_m0_b881 := hbs_m0_b881.keep k1090 (by simp)
          have hbs_cm36_b975 := hbs_cm36_b975.keep k1090 (by simp)
          have oL_r890 := oL_r890.keep k1090 (by simp)
          obtain ⟨v1099, e1101, hl1100⟩ : ∃ v, F1091 42 = v ∧ RdL Enc.devop w1092 (Blcm36 ++ O) v (((b.drop q).drop 1)) := ⟨_, rfl, hT1093 4 42 (by kernel_rfl) (by decide)⟩
          have := hl1100.len_le
          obtain ⟨F2, rfl⟩ := lit_of (F := F1091) [(0, Value.func (.yield l_r890) #[] #[]), (1, Value.pointer (some ⟨b864, 0, none⟩)), (2, Value.pointer (some ⟨b871, 0, none⟩)), (5, Value.pointer (some ⟨b975, 0, none⟩)), (47, undef), (40, Value.agg #[vI (((b.drop q)[0]!).device), vI (((b.drop q)[0]!).no), vI (((b.drop q)[0]!).kind), vI (((b.drop q)[0]!).copy), vI (((b.drop q)[0]!).to), vI (((b.drop q)[0]!).token)]), (42, v1099)] ⟨hF1094 0 (by kernel_rfl), hF1094 1 (by kernel_rfl), hF1094 2 (by kernel_rfl), hF1094 5 (by kernel_rfl), hF1094 47 (by kernel_rfl), hT1093 2 40 (by kernel_rfl) (by decide), e1101, trivial⟩
          clear hT1093 hF1094
          refine wl_n (o_store (vs := [vI (((b.drop q)[0]!).device), vI (((b.drop q)[0]!).no), vI (((b.drop q)[0]!).kind), vI (((b.drop q)[0]!).copy), vI (((b.drop q)[0]!).to), vI (((b.drop q)[0]!).token)]) (.agg #[vI (((b.drop q)[0]!).device), vI (((b.drop q)[0]!).no), vI (((b.drop q)[0]!).kind), vI (((b.drop q)[0]!).copy), vI (((b.drop q)[0]!).to), vI (((b.drop q)[0]!).token)]) rfl rfl rfl s_40 (fun u hu => by simp only [List.mem_cons, List.not_mem_nil, or_false] at hu; rcases hu with rfl | rfl | rfl | rfl | rfl | rfl <;> first | rfl) (by repeat (first | assumption | constructor)) hbs_cm36_b975 (of_decide_eq_true rfl) s1095 fun w1102 s1103 m1104 k1105 bx1106 => (?_))
          have hl1100 := hl1100.mv m1104
          have h_a := h_a.mv m1104
          have h_b := h_b.mv m1104
          have oD_r890 := oD_r890.keep k1105 (nin1 ne982)
          have hrdcm36_b864_0 := hrdcm36_b864_0.mv m1104
          have hbs_cm36_b864 := hbs_cm36_b864.keep k1105 (nin1 ne983)
          have hbs_m0_b871 := hbs_m0_b871.keep k1105 (nin1 ne984)
          have hom0_b881_0 := hom0_b881_0.mv m1104 k1105 (fun b hb => nin1 (ne987 b hb))
          have hbs_m0_b881 := hbs_m0_b881.keep k1105 (nin1 ne985)
          have oL_r890 := oL_r890.keep k1105 (nin1 ne986)
          refine wl_n (o_store1 (v1099) rfl rfl hl1100.oneCell s_26 (by repeat (first | assumption | constructor)) hbs_m0_b871 (of_decide_eq_true rfl) s1103 fun w1107 s1108 m1109 k1110 bx1111 => (?_))
          have hl1100 := hl1100.mv m1109
          have h_a := h_a.mv m1109
          have h_b := h_b.mv m1109
          have oD_r890 := oD_r890.keep k1110 (nin1 (Ne.symm ne898.1))
          have hrdcm36_b864_0 := hrdcm36_b864_0.mv m1109
          have hbs_cm36_b864 := hbs_cm36_b864.keep k1110 (nin1 ne878)
          have hom0_b881_0 := hom0_b881_0.mv m1109 k1110 (fun b hb => nin1 (nbm0_b881_0_b871 b hb))
          have hbs_m0_b881 := hbs_m0_b881.keep k1110 (nin1 (Ne.symm ne889))
          have bx1106 := bx1106.keep k1110 (nin1 (Ne.symm ne984))
          have oL_r890 := oL_r890.keep k1110 (nin1 (Ne.symm ne898.2))
          refine wl_nil (thenQ_n (?_))
          exact ⟨(q + 1), ((b.drop q)[0]!), v1099, Blcm36, (by omega), (by omega), (cut_b hrcm5_0 hrcm36_0 (by assumption) hrm0_2), (by simp; omega), (by omega), trivial, ⟨_, upds_self _ ⟨rfl, rfl, rfl, rfl, rfl, trivial⟩⟩, s1108, (by rw [show b.drop (q + 1) = ((b.drop q).drop 1) from (by first | rfl | rw [List.drop_drop])]; exact hl1100), h_a, h_b, oD_r890, (by first | assumption | (repeat (first | exact List.mem_cons_self | assumption | apply List.mem_cons_of_mem)) | (apply_assumption; assumption)), hrdcm36_b864_0, hbs_cm36_b864, (by first | assumption | (repeat (first | exact List.mem_cons_self | assumption | apply List.mem_cons_of_mem)) | (apply_assumption; assumption)), bx1111, (by first | assumption | (repeat (first | exact List.mem_cons_self | assumption | apply List.mem_cons_of_mem)) | (apply_assumption; assumption)), hom0_b881_0, hBm0_b881_0, hbs_m0_b881, (by first | assumption | (repeat (first | exact List.mem_cons_self | assumption | apply List.mem_cons_of_mem)) | (apply_assumption; assumption)), bx1106, (by first | assumption | (repeat (first | exact List.mem_cons_self | assumption | apply List.mem_cons_of_mem)) | (apply_assumption; assumption)), oL_r890, (by first | assumption | (repeat (first | exact List.mem_cons_self | assumption | apply List.mem_cons_of_mem)) | (apply_assumption; assumption))⟩
         ·intro cx_ hcx_
          match cx_, hcx_ with
          | 0, _ =>
           intro F1113 w1114 k1112 hT1115 hF1116
           have s1117 := slcm36.call k1112
           have m1118 : Mv Blcm36 wlcm36 Blcm36 w1114 := Mv.of_keep k1112
           have h_a := h_a.mv m1118
           have h_b := h_b.mv m1118
           have oD_r890 := oD_r890.keep k1112 (by simp)
           have hrdcm36_b864_0 := hrdcm36_b864_0.mv m1118
           have hbs_cm36_b864 := hbs_cm36_b864.keep k1112 (by simp)
           have hrdm0_b871_0 := hrdm0_b871_0.mv m1118
           have hbs_m0_b871 := hbs_m0_b871.keep k1112 (by simp)
           have hom0_b881_0 := hom0_b881_0.mv m1118 k1112 (by simp)
           have hbs_m0_b881 := hbs_m0_b881.keep k1112 (by simp)
           have hbs_cm36_b975 := hbs_cm36_b975.keep k1112 (by simp)
           have oL_r890 := oL_r890.keep k1112 (by simp)
           obtain ⟨F2, rfl⟩ := lit_of (F := F1113) [(0, Value.func (.yield l_r890) #[] #[]), (1, Value.pointer (some ⟨b864, 0, none⟩)), (2, Value.pointer (some ⟨b871, 0, none⟩)), (5, Value.pointer (some ⟨b975, 0, none⟩)), (47, undef), (40, Value.agg #[vI (((b.drop q)[0]!).device), vI (((b.drop q)[0]!).no), vI (((b.drop q)[0]!).kind), vI (((b.drop q)[0]!).copy), vI (((b.drop q)[0]!).to), vI (((b.drop q)[0]!).token)])] ⟨hF1116 0 (by kernel_rfl), hF1116 1 (by kernel_rfl), hF1116 2 (by kernel_rfl), hF1116 5 (by kernel_rfl), hF1116 47 (by kernel_rfl), hT1115 2 40 (by kernel_rfl) (by decide) (by decide), trivial⟩
           clear hT1115 hF1116
           refine wl_n (o_store (vs := [vI (((b.drop q)[0]!).device), vI (((b.drop q)[0]!).no), vI (((b.drop q)[0]!).kind), vI (((b.drop q)[0]!).copy), vI (((b.drop q)[0]!).to), vI (((b.drop q)[0]!).token)]) (.agg #[vI (((b.drop q)[0]!).device), vI (((b.drop q)[0]!).no), vI (((b.drop q)[0]!).kind), vI (((b.drop q)[0]!).copy), vI (((b.drop q)[0]!).to), vI (((b.drop q)[0]!).token)]) rfl rfl rfl s_40 (fun u hu => by simp only [List.mem_cons, List.not_mem_nil, or_false] at hu; rcases hu with rfl | rfl | rfl | rfl | rfl | rfl <;> first | rfl) (by repeat (first | assumption | constructor)) hbs_cm36_b975 (of_decide_eq_true rfl) s1117 fun w1121 s1122 m1123 k1124 bx1125 => (?_))
           have h_a := h_a.mv m1123
           have h_b := h_b.mv m1123
           have oD_r890 := oD_r890.keep k1124 (nin1 ne982)
           have hrdcm36_b864_0 := hrdcm36_b864_0.mv m1123
           have hbs_cm36_b864 := hbs_cm36_b864.keep k1124 (nin1 ne983)
           have hrdm0_b871_0 := hrdm0_b871_0.mv m1123
           have hbs_m0_b871 := hbs_m0_b871.keep k1124 (nin1 ne984)
           have hom0_b881_0 := hom0_b881_0.mv m1123 k1124 (fun b hb => nin1 (ne987 b hb))
           have hbs_m0_b881 := hbs_m0_b881.keep k1124 (nin1 ne985)
           have oL_r890 := oL_r890.keep k1124 (nin1 ne986)
           refine wl_s (o_loadBx Try.underlying26 rfl (vrm0_b871_0) rfl hbs_m0_b871 rfl (wl_s (o_sliceR Try.underlying26 s_40 1 ((b.drop q).length) rfl (.inr ⟨.const (vI (1 : Int)), .i64, (1 : Int), rfl, rfl, rfl⟩) (.inl ⟨rfl, rfl⟩) (by omega) (by omega) hrdm0_b871_0 fun v1126 hl1127 => (?_))))
           rw [List.take_length] at hl1127
           refine wl_n (o_store1 (v1126) rfl rfl hl1127.oneCell s_26 (by repeat (first | assumption | constructor)) hbs_m0_b871 (of_decide_eq_true rfl) s1122 fun w1128 s1129 m1130 k1131 bx1132 => (?_))
           have hl1127 := hl1127.mv m1130
           have h_a := h_a.mv m1130
           have h_b := h_b.mv m1130
           have oD_r890 := oD_r890.keep k1131 (nin1 (Ne.symm ne898.1))
           have hrdcm36_b864_0 := hrdcm36_b864_0.mv m1130
           have hbs_cm36_b864 := hbs_cm36_b864.keep k1131 (nin1 ne878)
           have hom0_b881_0 := hom0_b881_0.mv m1130 k1131 (fun b hb => nin1 (nbm0_b881_0_b871 b hb))
           have hbs_m0_b881 := hbs_m0_b881.keep k1131 (nin1 (Ne.symm ne889))
           have bx1125 := bx1125.keep k1131 (nin1 (Ne.symm ne984))
           have oL_r890 := oL_r890.keep k1131 (nin1 (Ne.symm ne898.2))
           refine wl_nil (thenQ_n (?_))
           exact ⟨(q + 1), ((b.drop q)[0]!), v1126, Blcm36, (by omega), (by omega), (cut_b hrcm5_0 hrcm36_0 (by assumption) hrm0_2), (by simp; omega), (by omega), trivial, ⟨_, upds_self _ ⟨rfl, rfl, rfl, rfl, rfl, trivial⟩⟩, s1129, (by rw [show b.drop (q + 1) = ((b.drop q).drop 1) from (by first | rfl | rw [List.drop_drop])]; exact hl1127), h_a, h_b, oD_r890, (by first | assumption | (repeat (first | exact List.mem_cons_self | assumption | apply List.mem_cons_of_mem)) | (apply_assumption; assumption)), hrdcm36_b864_0, hbs_cm36_b864, (by first | assumption | (repeat (first | exact List.mem_cons_self | assumption | apply List.mem_cons_of_mem)) | (apply_assumption; assumption)), bx1132, (by first | assumption | (repeat (first | exact List.mem_cons_self | assumption | apply List.mem_cons_of_mem)) | (apply_assumption; assumption)), hom0_b881_0, hBm0_b881_0, hbs_m0_b881, (by first | assumption | (repeat (first | exact List.mem_cons_self | assumption | apply List.mem_cons_of_mem)) | (apply_assumption; assumption)), bx1125, (by first | assumption | (repeat (first | exact List.mem_cons_self | assumption | apply List.mem_cons_of_mem)) | (apply_assumption; assumption)), oL_r890, (by first | assumption | (repeat (first | exact List.mem_cons_self | assumption | apply List.mem_cons_of_mem)) | (apply_assumption; assumption))⟩
          | 1, _ =>
           intro F1134 w1135 k1133 hT1136 hF1137
           have s1138 := slcm36.call k1133
           have m1139 : Mv Blcm36 wlcm36 Blcm36 w1135 := Mv.of_keep k1133
           have h_a := h_a.mv m1139
           have h_b := h_b.mv m1139
           have oD_r890 := oD_r890.keep k1133 (by simp)
           have hrdcm36_b864_0 := hrdcm36_b864_0.mv m1139
           have hbs_cm36_b864 := hbs_cm36_b864.keep k1133 (by simp)
           have hbs_m0_b871 := hbs_m0_b871.keep k1133 (by simp)
           have hom0_b881_0 := hom0_b881_0.mv m1139 k1133 (by simp)
           have hbs_m0_b881 := hbs_m0_b881.keep k1133 (by simp)
           have hbs_cm36_b975 := hbs_cm36_b975.keep k1133 (by simp)
           have oL_r890 := oL_r890.keep k1133 (by simp)
           obtain ⟨v1142, e1144, hl1143⟩ : ∃ v, F1134 41 = v ∧ RdL Enc.devop w1135 (Blcm36 ++ O) v (b.drop q) := ⟨_, rfl, hT1136 3 41 (by kernel_rfl) (by decide) (by decide)⟩
           have := hl1143.len_le
           obtain ⟨F2, rfl⟩ := lit_of (F := F1134) [(0, Value.func (.yield l_r890) #[] #[]), (1, Value.pointer (some ⟨b864, 0, none⟩)), (2, Value.pointer (some ⟨b871, 0, none⟩)), (5, Value.pointer (some ⟨b975, 0, none⟩)), (47, undef), (40, Value.agg #[vI (((b.drop q)[0]!).device), vI (((b.drop q)[0]!).no), vI (((b.drop q)[0]!).kind), vI (((b.drop q)[0]!).copy), vI (((b.drop q)[0]!).to), vI (((b.drop q)[0]!).token)]), (41, v1142)] ⟨hF1137 0 (by kernel_rfl), hF1137 1 (by kernel_rfl), hF1137 2 (by kernel_rfl), hF1137 5 (by kernel_rfl), hF1137 47 (by kernel_rfl), hT1136 2 40 (by kernel_rfl) (by decide) (by decide), e1144, trivial⟩
           clear hT1136 hF1137
           refine wl_n (o_store (vs := [vI (((b.drop q)[0]!).device), vI (((b.drop q)[0]!).no), vI (((b.drop q)[0]!).kind), vI (((b.drop q)[0]!).copy), vI (((b.drop q)[0]!).to), vI (((b.drop q)[0]!).token)]) (.agg #[vI (((b.drop q)[0]!).device), vI (((b.drop q)[0]!).no), vI (((b.drop q)[0]!).kind), vI (((b.drop q)[0]!).copy), vI (((b.drop q)[0]!).to), vI (((b.drop q)[0]!).token)]) rfl rfl rfl s_40 (fun u hu => by simp only [List.mem_cons, List.not_mem_nil, or_false] at hu; rcases hu with rfl | rfl | rfl | rfl | rfl | rfl <;> first | rfl) (by repeat (first | assumption | constructor)) hbs_cm36_b975 (of_decide_eq_true rfl) s1138 fun w1145 s1146 m1147 k1148 bx1149 => (?_))
           have hl1143 := hl1143.mv m1147
           have h_a := h_a.mv m1147
           have h_b := h_b.mv m1147
           have oD_r890 := oD_r890.keep k1148 (nin1 ne982)
           have hrdcm36_b864_0 := hrdcm36_b864_0.mv m1147
           have hbs_cm36_b864 := hbs_cm36_b864.keep k1148 (nin1 ne983)
           have hbs_m0_b871 := hbs_m0_b871.keep k1148 (nin1 ne984)
           have hom0_b881_0 := hom0_b881_0.mv m1147 k1148 (fun b hb => nin1 (ne987 b hb))
           have hbs_m0_b881 := hbs_m0_b881.keep k1148 (nin1 ne985)
           have oL_r890 := oL_r890.keep k1148 (nin1 ne986)
           refine wl_s (o_sliceR Try.underlying26 s_40 1 ((b.drop q).length) rfl (.inr ⟨.const (vI (1 : Int)), .i64, (1 : Int), rfl, rfl, rfl⟩) (.inl ⟨rfl, rfl⟩) (by omega) (by omega) hl1143 fun v1150 hl1151 => (?_))
           rw [List.take_length] at hl1151
           refine wl_n (o_store1 (v1150) rfl rfl hl1151.oneCell s_26 (by repeat (first | assumption | constructor)) hbs_m0_b871 (of_decide_eq_true rfl) s1146 fun w1152 s1153 m1154 k1155 bx1156 => (?_))
           have hl1151 := hl1151.mv m1154
           have h_a := h_a.mv m1154
           have h_b := h_b.mv m1154
           have oD_r890 := oD_r890.keep k1155 (nin1 (Ne.symm ne898.1))
           have hrdcm36_b864_0 := hrdcm36_b864_0.mv m1154
           have hbs_cm36_b864 := hbs_cm36_b864.keep k1155 (nin1 ne878)
           have hom0_b881_0 := hom0_b881_0.mv m1154 k1155 (fun b hb => nin1 (nbm0_b881_0_b871 b hb))
           have hbs_m0_b881 := hbs_m0_b881.keep k1155 (nin1 (Ne.symm ne889))
           have bx1149 := bx1149.keep k1155 (nin1 (Ne.symm ne984))
           have oL_r890 := oL_r890.keep k1155 (nin1 (Ne.symm ne898.2))
           refine wl_nil (thenQ_n (?_))
           exact ⟨(q + 1), ((b.drop q)[0]!), v1150, Blcm36, (by omega), (by omega), (cut_b hrcm5_0 hrcm36_0 (by assumption) hrm0_2), (by simp; omega), (by omega), trivial, ⟨_, upds_self _ ⟨rfl, rfl, rfl, rfl, rfl, trivial⟩⟩, s1153, (by rw [show b.drop (q + 1) = ((b.drop q).drop 1) from (by first | rfl | rw [List.drop_drop])]; exact hl1151), h_a, h_b, oD_r890, (by first | assumption | (repeat (first | exact List.mem_cons_self | assumption | apply List.mem_cons_of_mem)) | (apply_assumption; assumption)), hrdcm36_b864_0, hbs_cm36_b864, (by first | assumption | (repeat (first | exact List.mem_cons_self | assumption | apply List.mem_cons_of_mem)) | (apply_assumption; assumption)), bx1156, (by first | assumption | (repeat (first | exact List.mem_cons_self | assumption | apply List.mem_cons_of_mem)) | (apply_assumption; assumption)), hom0_b881_0, hBm0_b881_0, hbs_m0_b881, (by first | assumption | (repeat (first | exact List.mem_cons_self | assumption | apply List.mem_cons_of_mem)) | (apply_assumption; assumption)), bx1149, (by first | assumption | (repeat (first | exact List.mem_cons_self | assumption | apply List.mem_cons_of_mem)) | (apply_assumption; assumption)), oL_r890, (by first | assumption | (repeat (first | exact List.mem_cons_self | assumption | apply List.mem_cons_of_mem)) | (apply_assumption; assumption))⟩
        ·have hp1157 : n < (0 : Int) := by first | simpa using hc1073 | (have e := hc1073; simp at e; omega)
         refine cw_skip (thenQ_n (?_))
         exact ⟨(q), (o), vrm0_b871_0, Blcm36, (by omega), (by omega), (cut_a hrcm5_0 hrcm36_0 (by assumption) hrm0_2), (by simp; omega), (by omega), trivial, ⟨_, upds_self _ ⟨rfl, rfl, rfl, rfl, rfl, trivial⟩⟩, slcm36, (by rw [show b.drop (q) = b.drop q from (by first | rfl | rw [List.drop_drop])]; exact hrdm0_b871_0), h_a, h_b, oD_r890, (by first | assumption | (repeat (first | exact List.mem_cons_self | assumption | apply List.mem_cons_of_mem)) | (apply_assumption; assumption)), hrdcm36_b864_0, hbs_cm36_b864, (by first | assumption | (repeat (first | exact List.mem_cons_self | assumption | apply List.mem_cons_of_mem)) | (apply_assumption; assumption)), hbs_m0_b871, (by first | assumption | (repeat (first | exact List.mem_cons_self | assumption | apply List.mem_cons_of_mem)) | (apply_assumption; assumption)), hom0_b881_0, hBm0_b881_0, hbs_m0_b881, (by first | assumption | (repeat (first | exact List.mem_cons_self | assumption | apply List.mem_cons_of_mem)) | (apply_assumption; assumption)), (by rw [show ([vI ((o).device), vI ((o).no), vI ((o).kind), vI ((o).copy), vI ((o).to), vI ((o).token)] : List Value) = [vI o.device, vI o.no, vI o.kind, vI o.copy, vI o.to, vI o.token] from by first | rfl | simp]; exact hbs_cm36_b975), (by first | assumption | (repeat (first | exact List.mem_cons_self | assumption | apply List.mem_cons_of_mem)) | (apply_assumption; assumption)), oL_r890, (by first | assumption | (repeat (first | exact List.mem_cons_self | assumption | apply List.mem_cons_of_mem)) | (apply_assumption; assumption))⟩
       ·intro F wlcm43 hI
        clear h_a h_b oD_r890 hrdcm36_b864_0 hbs_cm36_b864 hom0_b881_0 hBm0_b881_0 hbs_m0_b881 oL_r890
        obtain ⟨q2, o2, vrcm43_b871_0, Blcm43, hrcm43_0, hrcm43_1, hrcm43_2, hrcm43_3, hrcm43_4, hmcm43, ⟨Flcm43, rfl⟩, slcm43, hrdcm43_b871_0, h_a, h_b, oD_r890, hin_D_r890, hrdcm36_b864_0, hbs_cm36_b864, hin_b864, hbs_cm43_b871, hin_b871, hom0_b881_0, hBm0_b881_0, hbs_m0_b881, hin_b881, hbs_cm43_b975, hin_b975, oL_r890, hin_l_r890⟩ := hI
        have := hrdcm43_b871_0.len_le
        refine cw_seq (?_)
        refine cw_region (by kernel_rfl) (wl_s (o_move (Value.func (.yield l_r890) #[] #[]) rfl (wl_s (o_loadBxA (vs := [vI o2.device, vI o2.no, vI o2.kind, vI o2.copy, vI o2.to, vI o2.token]) Try.underlying40 rfl s_40 rfl hbs_cm43_b975 rfl (wl_y l_r890 [Value.agg #[vI o2.device, vI o2.no, vI o2.kind, vI o2.copy, vI o2.to, vI o2.token]] rfl rfl ?_)))))
        refine yields_of hR_r890 oL_r890 rfl (by decide) ?_
        refine cw_region (by kernel_rfl) (wl_s (o_alloc [vI (0 : Int), vI (0 : Int), vI (0 : Int), vI (0 : Int), vI (0 : Int), vI (0 : Int)] z_40 rfl slcm43 fun b1158 w1159 e1164 s1160 m1161 k1162 bx1163 => (?_)))
        have ne1165 : NeB D_r890 b1158 := by show D_r890 ≠ b1158; have := oD_r890.lt; omega
        have ne1166 : NeB b864 b1158 := by show b864 ≠ b1158; have := hbs_cm36_b864.lt; omega
        have ne1167 : NeB b871 b1158 := by show b871 ≠ b1158; have := hbs_cm43_b871.lt; omega
        have ne1168 : NeB b881 b1158 := by show b881 ≠ b1158; have := hbs_m0_b881.lt; omega
        have ne1169 : NeB b975 b1158 := by show b975 ≠ b1158; have := hbs_cm43_b975.lt; omega
        have ne1170 : NeB l_r890 b1158 := by show l_r890 ≠ b1158; have := oL_r890.lt; omega
        have ne1171 : ∀ b, vom0_b881_0.ownBlock = some b → b ≠ b1158 := fun b hb => by have := (hom0_b881_0.lt b hb).2; omega
        have hBm0_b881_0 : ∀ b, vom0_b881_0.ownBlock = some b → b ∈ (b1158 :: Blcm43) := fun b hb => List.mem_cons_of_mem _ (hBm0_b881_0 b hb)
        clear e1164
        have h_a := h_a.mv m1161
        have h_b := h_b.mv m1161
        have oD_r890 := oD_r890.keep k1162 (by simp)
        have hrdcm36_b864_0 := hrdcm36_b864_0.mv m1161
        have hbs_cm36_b864 := hbs_cm36_b864.keep k1162 (by simp)
        have hrdcm43_b871_0 := hrdcm43_b871_0.mv m1161
        have hbs_cm43_b871 := hbs_cm43_b871.keep k1162 (by simp)
        have hom0_b881_0 := hom0_b881_0.mv m1161 k1162 (by simp)
        have hbs_m0_b881 := hbs_m0_b881.keep k1162 (by simp)
        have hbs_cm43_b975 := hbs_cm43_b975.keep k1162 (by simp)
        have oL_r890 := oL_r890.keep k1162 (by simp)
        refine wl_n (o_store (vs := [vI o2.device, vI o2.no, vI o2.kind, vI o2.copy, vI o2.to, vI o2.token]) (.agg #[vI o2.device, vI o2.no, vI o2.kind, vI o2.copy, vI o2.to, vI o2.token]) rfl rfl rfl s_40 (fun u hu => by simp only [List.mem_cons, List.not_mem_nil, or_false] at hu; rcases hu with rfl | rfl | rfl | rfl | rfl | rfl <;> first | rfl) (by repeat (first | assumption | constructor)) bx1163 (of_decide_eq_true rfl) s1160 fun w1172 s1173 m1174 k1175 bx1176 => (?_))
        have h_a := h_a.mv m1174
        have h_b := h_b.mv m1174
        have oD_r890 := oD_r890.keep k1175 (nin1 ne1165)
        have hrdcm36_b864_0 := hrdcm36_b864_0.mv m1174
        have hbs_cm36_b864 := hbs_cm36_b864.keep k1175 (nin1 ne1166)
        have hrdcm43_b871_0 := hrdcm43_b871_0.mv m1174
        have hbs_cm43_b871 := hbs_cm43_b871.keep k1175 (nin1 ne1167)
        have hom0_b881_0 := hom0_b881_0.mv m1174 k1175 (fun b hb => nin1 (ne1171 b hb))
        have hbs_m0_b881 := hbs_m0_b881.keep k1175 (nin1 ne1168)
        have hbs_cm43_b975 := hbs_cm43_b975.keep k1175 (nin1 ne1169)
        have oL_r890 := oL_r890.keep k1175 (nin1 ne1170)
        refine wl_nil (thenQ_n (?_))
        refine ⟨oL_r890, fun w1177 k1178 ox1181 => ?_⟩
        have s1179 := s1173.keepB k1178 (by repeat (first | assumption | constructor))
        have m1180 : Mv (b1158 :: Blcm43) w1172 (b1158 :: Blcm43) w1177 := Mv.keepB k1178 (by repeat (first | assumption | constructor))
        have h_a := h_a.mv m1180
        have h_b := h_b.mv m1180
        have oD_r890 := oD_r890.keep k1178 (nin1 ne900)
        have hrdcm36_b864_0 := hrdcm36_b864_0.mv m1180
        have hbs_cm36_b864 := hbs_cm36_b864.keep k1178 (nin1 ne897.2)
        have hrdcm43_b871_0 := hrdcm43_b871_0.mv m1180
        have hbs_cm43_b871 := hbs_cm43_b871.keep k1178 (nin1 ne898.2)
        have hom0_b881_0 := hom0_b881_0.mv m1180 k1178 (fun b hb => nin1 (nbm0_b881_0_l_r890 b hb))
        have hbs_m0_b881 := hbs_m0_b881.keep k1178 (nin1 ne899.2)
        have hbs_cm43_b975 := hbs_cm43_b975.keep k1178 (nin1 (Ne.symm ne986))
        have bx1176 := bx1176.keep k1178 (nin1 (Ne.symm ne1170))
        refine cw_block (?_)
        refine cw_region (by kernel_rfl) (wl_s (o_loadBx Try.underlying26 rfl (vom0_b881_0) rfl hbs_m0_b881 rfl (wl_s (o_loadBxA (vs := [vI o2.device, vI o2.no, vI o2.kind, vI o2.copy, vI o2.to, vI o2.token]) Try.underlying40 rfl s_40 rfl bx1176 rfl (wl_s (o_lit (E := Enc.devop) (xs := [.tmp 9]) Try.underlying26 s_40 z_40 (by decide) [.agg #[vI o2.device, vI o2.no, vI o2.kind, vI o2.copy, vI o2.to, vI o2.token]] [[vI o2.device, vI o2.no, vI o2.kind, vI o2.copy, vI o2.to, vI o2.token]] [o2] rfl rfl rfl (Parts.cons rfl rfl (Parts.nil _ _ _)) (of_decide_eq_true rfl) s1179 fun v1186 w1182 s1183 m1184 k1185 hl1187 => (?_)))))))
        have hom0_b881_0 := hom0_b881_0.mv m1184 k1185 (by simp)
        have h_a := h_a.mv m1184
        have h_b := h_b.mv m1184
        have oD_r890 := oD_r890.keep k1185 (by simp)
        have hrdcm36_b864_0 := hrdcm36_b864_0.mv m1184
        have hbs_cm36_b864 := hbs_cm36_b864.keep k1185 (by simp)
        have hrdcm43_b871_0 := hrdcm43_b871_0.mv m1184
        have hbs_cm43_b871 := hbs_cm43_b871.keep k1185 (by simp)
        have hbs_m0_b881 := hbs_m0_b881.keep k1185 (by simp)
        have hbs_cm43_b975 := hbs_cm43_b975.keep k1185 (by simp)
        have ox1181 := ox1181.keep k1185 (by simp)
        have bx1176 := bx1176.keep k1185 (by simp)
        have := hl1187.len_le
        refine wl_s (o_append (E := Enc.devop) (l := x) (m := [o2]) Try.underlying26 i_40 rfl (by decide) rfl rfl hom0_b881_0 hl1187 (fun _ hb => .inl hb) hBm0_b881_0 (by simp; omega) (by simp [maxLen]; omega) s1183 fun v1192 w1188 B1194 hB1195 at1196 sub1197 s1189 m1190 k1191 ho1193 => (?_))
        have ne1198 : ∀ b, v1192.ownBlock = some b → b ≠ D_r890 := fun b hb => by rcases at1196 with e1 | e1 <;> rw [e1] at hb <;> first | (simp [Value.ownBlock] at hb; done) | (cases hb; have := oD_r890.lt; omega) | (exact nbm0_b881_0_D_r890 b hb)
        have ne1199 : ∀ b, v1192.ownBlock = some b → b ≠ b864 := fun b hb => by rcases at1196 with e1 | e1 <;> rw [e1] at hb <;> first | (simp [Value.ownBlock] at hb; done) | (cases hb; have := hbs_cm36_b864.lt; omega) | (exact nbm0_b881_0_b864 b hb)
        have ne1200 : ∀ b, v1192.ownBlock = some b → b ≠ b871 := fun b hb => by rcases at1196 with e1 | e1 <;> rw [e1] at hb <;> first | (simp [Value.ownBlock] at hb; done) | (cases hb; have := hbs_cm43_b871.lt; omega) | (exact nbm0_b881_0_b871 b hb)
        have ne1201 : ∀ b, v1192.ownBlock = some b → b ≠ b881 := fun b hb => by rcases at1196 with e1 | e1 <;> rw [e1] at hb <;> first | (simp [Value.ownBlock] at hb; done) | (cases hb; have := hbs_m0_b881.lt; omega) | (exact nbm0_b881_0_b881 b hb)
        have ne1202 : ∀ b, v1192.ownBlock = some b → b ≠ b975 := fun b hb => by rcases at1196 with e1 | e1 <;> rw [e1] at hb <;> first | (simp [Value.ownBlock] at hb; done) | (cases hb; have := hbs_cm43_b975.lt; omega) | (exact ne987 b hb)
        have ne1203 : ∀ b, v1192.ownBlock = some b → b ≠ l_r890 := fun b hb => by rcases at1196 with e1 | e1 <;> rw [e1] at hb <;> first | (simp [Value.ownBlock] at hb; done) | (cases hb; have := ox1181.lt; omega) | (exact nbm0_b881_0_l_r890 b hb)
        have ne1204 : ∀ b, v1192.ownBlock = some b → b ≠ b1158 := fun b hb => by rcases at1196 with e1 | e1 <;> rw [e1] at hb <;> first | (simp [Value.ownBlock] at hb; done) | (cases hb; have := bx1176.lt; omega) | (exact ne1171 b hb)
        have hin_D_r890 : D_r890 ∈ B1194 := sub1197 D_r890 (by repeat (first | assumption | constructor))
        have hin_b864 : b864 ∈ B1194 := sub1197 b864 (by repeat (first | assumption | constructor))
        have hin_b871 : b871 ∈ B1194 := sub1197 b871 (by repeat (first | assumption | constructor))
        have hin_b881 : b881 ∈ B1194 := sub1197 b881 (by repeat (first | assumption | constructor))
        have hin_b975 : b975 ∈ B1194 := sub1197 b975 (by repeat (first | assumption | constructor))
        have hin_l_r890 : l_r890 ∈ B1194 := sub1197 l_r890 (by repeat (first | assumption | constructor))
        have hin_b1158 : b1158 ∈ B1194 := sub1197 b1158 (by repeat (first | assumption | constructor))
        have h_a := h_a.mv m1190
        have h_b := h_b.mv m1190
        have oD_r890 := oD_r890.keep k1191 (by simp only [Option.mem_toList]; first | (simp [Value.ownBlock]; done) | exact fun e => absurd rfl (nbm0_b881_0_D_r890 _ e))
        have hrdcm36_b864_0 := hrdcm36_b864_0.mv m1190
        have hbs_cm36_b864 := hbs_cm36_b864.keep k1191 (by simp only [Option.mem_toList]; first | (simp [Value.ownBlock]; done) | exact fun e => absurd rfl (nbm0_b881_0_b864 _ e))
        have hrdcm43_b871_0 := hrdcm43_b871_0.mv m1190
        have hbs_cm43_b871 := hbs_cm43_b871.keep k1191 (by simp only [Option.mem_toList]; first | (simp [Value.ownBlock]; done) | exact fun e => absurd rfl (nbm0_b881_0_b871 _ e))
        have hbs_m0_b881 := hbs_m0_b881.keep k1191 (by simp only [Option.mem_toList]; first | (simp [Value.ownBlock]; done) | exact fun e => absurd rfl (nbm0_b881_0_b881 _ e))
        have ox1181 := ox1181.keep k1191 (by simp only [Option.mem_toList]; first | (simp [Value.ownBlock]; done) | exact fun e => absurd rfl (nbm0_b881_0_l_r890 _ e))
        refine wl_n (o_store1 (v1192) rfl rfl ho1193.oneCell s_26 (by repeat (first | assumption | constructor)) hbs_m0_b881 (of_decide_eq_true rfl) s1189 fun w1205 s1206 m1207 k1208 bx1209 => (?_))
        have ho1193 := ho1193.mv m1207 k1208 (fun b hb => nin1 (ne1201 b hb))
        have h_a := h_a.mv m1207
        have h_b := h_b.mv m1207
        have oD_r890 := oD_r890.keep k1208 (nin1 (Ne.symm ne899.1))
        have hrdcm36_b864_0 := hrdcm36_b864_0.mv m1207
        have hbs_cm36_b864 := hbs_cm36_b864.keep k1208 (nin1 ne888)
        have hrdcm43_b871_0 := hrdcm43_b871_0.mv m1207
        have hbs_cm43_b871 := hbs_cm43_b871.keep k1208 (nin1 ne889)
        have ox1181 := ox1181.keep k1208 (nin1 (Ne.symm ne899.2))
        refine wl_nil (blockQ_n (round_n ox1181 (fun w1210 k1211 ox1214 => ?_)))
        have s1212 := s1206.keepB k1211 (by repeat (first | assumption | constructor))
        have m1213 : Mv B1194 w1205 B1194 w1210 := Mv.keepB k1211 (by repeat (first | assumption | constructor))
        have ho1193 := ho1193.mv m1213 k1211 (fun b hb => nin1 (ne1203 b hb))
        have h_a := h_a.mv m1213
        have h_b := h_b.mv m1213
        have oD_r890 := oD_r890.keep k1211 (nin1 ne900)
        have hrdcm36_b864_0 := hrdcm36_b864_0.mv m1213
        have hbs_cm36_b864 := hbs_cm36_b864.keep k1211 (nin1 ne897.2)
        have hrdcm43_b871_0 := hrdcm43_b871_0.mv m1213
        have hbs_cm43_b871 := hbs_cm43_b871.keep k1211 (nin1 ne898.2)
        have bx1209 := bx1209.keep k1211 (nin1 ne899.2)
        have oL_r890 := ox1214
        refine wl_s (o_not true rfl (wl_nil (thenQ_n (?_))))
        refine cw_cond false rfl rfl (fun h => by cases h) (fun _ => ?_)
        refine cw_skip (blockQ_n (thenQ_n (?_)))
        exact ⟨_, (by omega), (p2), (q2), (x ++ [o2]), v1192, vrcm36_b864_0, vrcm43_b871_0, B1194, (by omega), (by omega), hrcm43_2, hrcm43_3, rfl, ⟨_, upds_self _ ⟨rfl, rfl, rfl, rfl, trivial⟩⟩, s1212, (by rw [show (x ++ [o2]) = x ++ ([o2]) from (by first | rfl | rw [List.drop_drop])]; exact ho1193), hB1195, (by rw [show a.drop (p2) = a.drop p2 from (by first | rfl | rw [List.drop_drop])]; exact hrdcm36_b864_0), (by rw [show b.drop (q2) = b.drop q2 from (by first | rfl | rw [List.drop_drop])]; exact hrdcm43_b871_0), h_a, h_b, oD_r890, (by first | assumption | (repeat (first | exact List.mem_cons_self | assumption | apply List.mem_cons_of_mem)) | (apply_assumption; assumption)), hbs_cm36_b864, (by first | assumption | (repeat (first | exact List.mem_cons_self | assumption | apply List.mem_cons_of_mem)) | (apply_assumption; assumption)), hbs_cm43_b871, (by first | assumption | (repeat (first | exact List.mem_cons_self | assumption | apply List.mem_cons_of_mem)) | (apply_assumption; assumption)), bx1209, (by first | assumption | (repeat (first | exact List.mem_cons_self | assumption | apply List.mem_cons_of_mem)) | (apply_assumption; assumption)), oL_r890, (by first | assumption | (repeat (first | exact List.mem_cons_self | assumption | apply List.mem_cons_of_mem)) | (apply_assumption; assumption)), ne1198, ne1199, ne1200, ne1201, ne1203⟩
 ·have hp1215 : checkM a ≠ (0 : Int) := by first | simpa using hb850 | (have e := hb850; simp at e; omega)
  refine wl_k rfl (wl_k rfl (wl_k rfl (wl_s (o_pickT (Value.bool true) rfl rfl (wl_nil (thenQ_n (?_)))))))
  refine cw_cond true rfl rfl (fun _ => ?_) (fun h => by cases h)
  refine cw_seq (?_)
  refine cw_region (by kernel_rfl) (wl_s (o_assign (Value.slice none 0 0) rfl (wl_s (o_assign (vI (420 : Int)) rfl (wl_nil (thenQ_n (?_)))))))
  refine cw_ret (thenQ_r (end_r rfl (res2 rfl rfl rfl rfl) (?_)))
  have e1216 : ((mergeM a b).1) = ([]) := by first | exact congrArg (fun p => p.1) (show mergeM a b = _ from merge_1 (by assumption)) | exact congrArg (fun p => p.1) (show mergeM a b = _ from merge_2 (by assumption)) | exact congrArg (fun p => p.1) (show mergeM a b = _ from merge_3 (by assumption) (by assumption) (by assumption)) | exact congrArg (fun p => p.1) (show mergeM a b = _ from merge_4 (by assumption) (by assumption) (by assumption) (by assumption)) | exact congrArg (fun p => p.1) (show mergeM a b = _ from merge_5 (by assumption) (by assumption) (by assumption) (by assumption))
  have e1217 : ((mergeM a b).2) = (420 : Int) := by first | exact congrArg (fun p => p.2) (show mergeM a b = _ from merge_1 (by assumption)) | exact congrArg (fun p => p.2) (show mergeM a b = _ from merge_2 (by assumption)) | exact congrArg (fun p => p.2) (show mergeM a b = _ from merge_3 (by assumption) (by assumption) (by assumption)) | exact congrArg (fun p => p.2) (show mergeM a b = _ from merge_4 (by assumption) (by assumption) (by assumption) (by assumption)) | exact congrArg (fun p => p.2) (show mergeM a b = _ from merge_5 (by assumption) (by assumption) (by assumption) (by assumption))
  exact ⟨_, rfl, s846.keep, by rw [e1216, e1217]; exact ⟨.slice none 0 0, rfl, RdL.nil _ _ _⟩⟩

end Go.Proofs.Ytjpniibleelgiaa
