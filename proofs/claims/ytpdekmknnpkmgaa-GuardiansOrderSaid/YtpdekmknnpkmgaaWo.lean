/- Walks, printed by gen.py. -/
import Derived.Test.YtpdekmknnpkmgaaWc
set_option linter.unusedSimpArgs false
set_option linter.unusedVariables false
namespace Go.Proofs.Ytpdekmknnpkmgaa
open Go.Fw Go.RowKit

set_option maxHeartbeats 4000000 in
set_option maxRecDepth 100000 in
theorem c_on1p {O B : List Nat} {w0 w : World} (e : Int) (x0 x1 : Nat) (s0 : St w0 O w B) (h0 : Box w x0 25 [vI (0 : Int), vI (0 : Int), vI (0 : Int), Value.slice none 0 0, Value.slice none 0 0]) (h1 : Box w x1 28 [vI (0 : Int)]) (hin_x0 : x0 ∈ B) (hin_x1 : x1 ∈ B) (hne : x0 ≠ x1) : CallsD Try.prog 59 [Value.pointer (some ⟨x0, 0, none⟩), Value.pointer (some ⟨x1, 0, none⟩)].toArray (.panicking [{ v := .iface 78 (.agg #[vI e]), recovered := false }]) w (fun e_ u_ w_ => u_ = recU (.panicking [{ v := .iface 78 (.agg #[vI e]), recovered := false }]) ∧ ∃ v, e_ = .returned v ∧ St w0 O w_ B ∧ Mv B w B w_ ∧ Keep [x0, x1] w w_ ∧ Box w_ x0 25 [vI (0 : Int), vI (0 : Int), vI (0 : Int), Value.slice none 0 0, Value.slice none 0 0] ∧ Box w_ x1 28 [vI e]) :=  by
  have ms : Mv B w B w := Mv.refl _ _
  have ks : Keep [x0, x1] w w := Keep.refl _ _
  refine callsD_rec 19 (.panicking [{ v := .iface 78 (.agg #[vI e]), recovered := false }]) Try.func59 rfl rfl (of_decide_eq_true rfl) rfl rfl (fun F0 => ?_)
  refine cw_seq (?_)
  refine cw_region (by kernel_rfl) (wl_s (o_move (Value.iface 78 (Value.agg #[vI e])) rfl (wl_s (o_neqNil Try.underlying20 rfl (wl_nil (thenQ_n (?_)))))))
  refine cw_cond true rfl rfl (fun _ => ?_) (fun h => by cases h)
  refine cw_seq (?_)
  refine cw_region (by kernel_rfl) (wl_s (o_move (Value.iface 78 (Value.agg #[vI e])) rfl (wl_s (o_assertOk Try.underlying78 rfl rfl (wl_s (o_move (Value.tuple #[Value.agg #[vI e], Value.bool true]) rfl (wl_s (o_extract (Value.agg #[vI e]) rfl rfl (wl_s (o_extract (Value.bool true) rfl rfl (wl_s (o_alloc [vI (0 : Int)] z_78 rfl s0 fun b858 w859 e864 s860 m861 k862 bx863 => (?_)))))))))))))
  have hnew_b858 : w.heap.size ≤ b858 := by have := ks.size; omega
  have ne865 : x0 ≠ b858 := by have := h0.lt; omega
  have ne866 : x1 ≠ b858 := by have := h1.lt; omega
  clear e864
  have h0 := h0.keep k862 (by simp)
  have h1 := h1.keep k862 (by simp)
  have ms := ms.trans m861
  have ks := ks.step0 k862 (fun b hb => by first | (simp at hb; done) | exact .inl hb | (simp only [List.mem_singleton] at hb; subst hb; first | (left; simp [Value.ownBlock]; done) | (right; omega)))
  refine wl_n (o_store (vs := [vI e]) (.agg #[vI e]) rfl rfl rfl s_78 (fun u hu => by simp only [List.mem_cons, List.not_mem_nil, or_false] at hu; rcases hu with rfl <;> first | rfl) (by repeat (first | assumption | constructor)) bx863 (of_decide_eq_true rfl) s860 fun w867 s868 m869 k870 bx871 => (?_))
  have h0 := h0.keep k870 (nin1 ne865)
  have h1 := h1.keep k870 (nin1 ne866)
  have ms := ms.trans m869
  have ks := ks.step0 k870 (fun b hb => by first | (simp at hb; done) | exact .inl hb | (simp only [List.mem_singleton] at hb; subst hb; first | (left; simp [Value.ownBlock]; done) | (right; omega)))
  refine wl_s (o_assign (Value.bool true) rfl (wl_nil (thenQ_n (?_))))
  refine cw_seq (?_)
  refine cw_seq (?_)
  refine cw_region (by kernel_rfl) (wl_s (o_move (Value.bool true) rfl (wl_s (o_not true rfl (wl_nil (thenQ_n (?_)))))))
  refine cw_cond false rfl rfl (fun h => by cases h) (fun _ => ?_)
  refine cw_skip (thenQ_n (?_))
  refine cw_drawL 3 [1, 2] _ _ _ [isV (Value.agg #[vI (0 : Int), vI (0 : Int), vI (0 : Int), Value.slice none 0 0, Value.slice none 0 0]), isV (Value.pointer (some ⟨b858, 0, none⟩)), isV (vI e)] (by kernel_rfl) (by kernel_rfl) (by kernel_rfl) (by kernel_rfl) (by decide) rfl rfl rfl ⟨kI, kI, kI, trivial⟩ ⟨?_, ?_, ?_, trivial⟩ ?_ ?_
  · intro F1 w1 k1 hf hd
    have k0 := (Keep.drew [] w867).trans k1
    have s1 := s868.call k0
    have m1 : Mv (b858 :: B) w867 (b858 :: B) w1 := Mv.of_keep k0
    obtain ⟨F2, rfl⟩ := lit_of (F := F1) [] trivial
    exact sp_plain rfl ((o_build (l := []) pl_25 z_25 rfl [] [vI (0 : Int), vI (0 : Int), vI (0 : Int), Value.slice none 0 0, Value.slice none 0 0] rfl rfl (⟨(Keep.refl _ _), rfl⟩)))
  · intro F1 w1 k1 hf hd
    have k0 := (Keep.drew [] w867).trans k1
    have s1 := s868.call k0
    have m1 : Mv (b858 :: B) w867 (b858 :: B) w1 := Mv.of_keep k0
    have bx871 := bx871.keep k0 (by simp)
    obtain ⟨F2, rfl⟩ := lit_of (F := F1) [(3, Value.pointer (some ⟨b858, 0, none⟩))] ⟨hf 3 (by kernel_rfl), trivial⟩
    exact sp_plain rfl ((o_fieldL 0 f_78_0 rfl (⟨(Keep.refl _ _), rfl⟩)))
  · intro F1 w1 k1 hf hd
    have k0 := (Keep.drew [] w867).trans k1
    have s1 := s868.call k0
    have m1 : Mv (b858 :: B) w867 (b858 :: B) w1 := Mv.of_keep k0
    have bx871 := bx871.keep k0 (by simp)
    obtain ⟨F2, rfl⟩ := lit_of (F := F1) [(17, Value.pointer (some ⟨b858, 0, none⟩))] ⟨hd 1 17 (by kernel_rfl), trivial⟩
    exact sp_plain rfl ((o_loadBx Try.underlying28 rfl (vI e) rfl bx871 rfl (⟨(Keep.refl _ _), rfl⟩)))
  · intro F873 w874 k872 hT875 hF876
    have s877 := s868.call k872
    have m878 : Mv (b858 :: B) w867 (b858 :: B) w874 := Mv.of_keep k872
    have h0 := h0.keep k872 (by simp)
    have h1 := h1.keep k872 (by simp)
    have bx871 := bx871.keep k872 (by simp)
    have ms := ms.trans m878
    have ks := ks.step0 k872 (fun b hb => by first | (simp at hb; done) | exact .inl hb | (simp only [List.mem_singleton] at hb; subst hb; first | (left; simp [Value.ownBlock]; done) | (right; omega)))
    obtain ⟨F2, rfl⟩ := lit_of (F := F873) [(0, Value.pointer (some ⟨x0, 0, none⟩)), (1, Value.pointer (some ⟨x1, 0, none⟩)), (19, undef), (16, Value.agg #[vI (0 : Int), vI (0 : Int), vI (0 : Int), Value.slice none 0 0, Value.slice none 0 0]), (18, vI e)] ⟨hF876 0 (by kernel_rfl), hF876 1 (by kernel_rfl), hF876 19 (by kernel_rfl), hT875 0 16 (by kernel_rfl) (by decide), hT875 2 18 (by kernel_rfl) (by decide), trivial⟩
    clear hT875 hF876
    refine wl_n (o_store (vs := [vI (0 : Int), vI (0 : Int), vI (0 : Int), Value.slice none 0 0, Value.slice none 0 0]) (.agg #[vI (0 : Int), vI (0 : Int), vI (0 : Int), Value.slice none 0 0, Value.slice none 0 0]) rfl rfl rfl s_25 (fun u hu => by simp only [List.mem_cons, List.not_mem_nil, or_false] at hu; rcases hu with rfl | rfl | rfl | rfl | rfl <;> first | rfl) (by repeat (first | assumption | constructor)) h0 (of_decide_eq_true rfl) s877 fun w880 s881 m882 k883 bx884 => (?_))
    have h1 := h1.keep k883 (nin1 (Ne.symm hne))
    have bx871 := bx871.keep k883 (nin1 (Ne.symm ne865))
    have ms := ms.trans m882
    have ks := ks.step0 k883 (fun b hb => by first | (simp at hb; done) | exact .inl hb | (simp only [List.mem_singleton] at hb; subst hb; first | (left; simp [Value.ownBlock]; done) | (right; omega)))
    refine wl_n (o_store1 (vI e) rfl rfl rfl s_28 (by repeat (first | assumption | constructor)) h1 (of_decide_eq_true rfl) s881 fun w885 s886 m887 k888 bx889 => (?_))
    have bx884 := bx884.keep k888 (nin1 hne)
    have bx871 := bx871.keep k888 (nin1 (Ne.symm ne866))
    have ms := ms.trans m887
    have ks := ks.step0 k888 (fun b hb => by first | (simp at hb; done) | exact .inl hb | (simp only [List.mem_singleton] at hb; subst hb; first | (left; simp [Value.ownBlock]; done) | (right; omega)))
    refine wl_nil (end_n rfl (res0 rfl) (?_))
    exact ⟨_, rfl, s886.drop (fun b hb => (by repeat (first | assumption | constructor))), ms.trans (Mv.drop (fun b hb => (by repeat (first | assumption | constructor)))), ks, bx884, bx889⟩
  · intro cx_ hcx_
    match cx_, hcx_ with
    | 0, _ =>
      intro F891 w892 k890 hT893 hF894
      have s895 := s868.call k890
      have m896 : Mv (b858 :: B) w867 (b858 :: B) w892 := Mv.of_keep k890
      have h0 := h0.keep k890 (by simp)
      have h1 := h1.keep k890 (by simp)
      have bx871 := bx871.keep k890 (by simp)
      have ms := ms.trans m896
      have ks := ks.step0 k890 (fun b hb => by first | (simp at hb; done) | exact .inl hb | (simp only [List.mem_singleton] at hb; subst hb; first | (left; simp [Value.ownBlock]; done) | (right; omega)))
      obtain ⟨F2, rfl⟩ := lit_of (F := F891) [(0, Value.pointer (some ⟨x0, 0, none⟩)), (1, Value.pointer (some ⟨x1, 0, none⟩)), (3, Value.pointer (some ⟨b858, 0, none⟩)), (19, undef), (16, Value.agg #[vI (0 : Int), vI (0 : Int), vI (0 : Int), Value.slice none 0 0, Value.slice none 0 0])] ⟨hF894 0 (by kernel_rfl), hF894 1 (by kernel_rfl), hF894 3 (by kernel_rfl), hF894 19 (by kernel_rfl), hT893 0 16 (by kernel_rfl) (by decide) (by decide), trivial⟩
      clear hT893 hF894
      refine wl_n (o_store (vs := [vI (0 : Int), vI (0 : Int), vI (0 : Int), Value.slice none 0 0, Value.slice none 0 0]) (.agg #[vI (0 : Int), vI (0 : Int), vI (0 : Int), Value.slice none 0 0, Value.slice none 0 0]) rfl rfl rfl s_25 (fun u hu => by simp only [List.mem_cons, List.not_mem_nil, or_false] at hu; rcases hu with rfl | rfl | rfl | rfl | rfl <;> first | rfl) (by repeat (first | assumption | constructor)) h0 (of_decide_eq_true rfl) s895 fun w898 s899 m900 k901 bx902 => (?_))
      have h1 := h1.keep k901 (nin1 (Ne.symm hne))
      have bx871 := bx871.keep k901 (nin1 (Ne.symm ne865))
      have ms := ms.trans m900
      have ks := ks.step0 k901 (fun b hb => by first | (simp at hb; done) | exact .inl hb | (simp only [List.mem_singleton] at hb; subst hb; first | (left; simp [Value.ownBlock]; done) | (right; omega)))
      refine wl_s (o_fieldL 0 f_78_0 rfl (wl_s (o_loadBx Try.underlying28 rfl (vI e) rfl bx871 rfl (wl_n (o_store1 (vI e) rfl rfl rfl s_28 (by repeat (first | assumption | constructor)) h1 (of_decide_eq_true rfl) s899 fun w903 s904 m905 k906 bx907 => (?_))))))
      have bx902 := bx902.keep k906 (nin1 hne)
      have bx871 := bx871.keep k906 (nin1 (Ne.symm ne866))
      have ms := ms.trans m905
      have ks := ks.step0 k906 (fun b hb => by first | (simp at hb; done) | exact .inl hb | (simp only [List.mem_singleton] at hb; subst hb; first | (left; simp [Value.ownBlock]; done) | (right; omega)))
      refine wl_nil (end_n rfl (res0 rfl) (?_))
      exact ⟨_, rfl, s904.drop (fun b hb => (by repeat (first | assumption | constructor))), ms.trans (Mv.drop (fun b hb => (by repeat (first | assumption | constructor)))), ks, bx902, bx907⟩
    | 1, _ =>
      intro F909 w910 k908 hT911 hF912
      have s913 := s868.call k908
      have m914 : Mv (b858 :: B) w867 (b858 :: B) w910 := Mv.of_keep k908
      have h0 := h0.keep k908 (by simp)
      have h1 := h1.keep k908 (by simp)
      have bx871 := bx871.keep k908 (by simp)
      have ms := ms.trans m914
      have ks := ks.step0 k908 (fun b hb => by first | (simp at hb; done) | exact .inl hb | (simp only [List.mem_singleton] at hb; subst hb; first | (left; simp [Value.ownBlock]; done) | (right; omega)))
      obtain ⟨F2, rfl⟩ := lit_of (F := F909) [(0, Value.pointer (some ⟨x0, 0, none⟩)), (1, Value.pointer (some ⟨x1, 0, none⟩)), (19, undef), (16, Value.agg #[vI (0 : Int), vI (0 : Int), vI (0 : Int), Value.slice none 0 0, Value.slice none 0 0]), (17, Value.pointer (some ⟨b858, 0, none⟩))] ⟨hF912 0 (by kernel_rfl), hF912 1 (by kernel_rfl), hF912 19 (by kernel_rfl), hT911 0 16 (by kernel_rfl) (by decide) (by decide), hT911 1 17 (by kernel_rfl) (by decide) (by decide), trivial⟩
      clear hT911 hF912
      refine wl_n (o_store (vs := [vI (0 : Int), vI (0 : Int), vI (0 : Int), Value.slice none 0 0, Value.slice none 0 0]) (.agg #[vI (0 : Int), vI (0 : Int), vI (0 : Int), Value.slice none 0 0, Value.slice none 0 0]) rfl rfl rfl s_25 (fun u hu => by simp only [List.mem_cons, List.not_mem_nil, or_false] at hu; rcases hu with rfl | rfl | rfl | rfl | rfl <;> first | rfl) (by repeat (first | assumption | constructor)) h0 (of_decide_eq_true rfl) s913 fun w916 s917 m918 k919 bx920 => (?_))
      have h1 := h1.keep k919 (nin1 (Ne.symm hne))
      have bx871 := bx871.keep k919 (nin1 (Ne.symm ne865))
      have ms := ms.trans m918
      have ks := ks.step0 k919 (fun b hb => by first | (simp at hb; done) | exact .inl hb | (simp only [List.mem_singleton] at hb; subst hb; first | (left; simp [Value.ownBlock]; done) | (right; omega)))
      refine wl_s (o_loadBx Try.underlying28 rfl (vI e) rfl bx871 rfl (wl_n (o_store1 (vI e) rfl rfl rfl s_28 (by repeat (first | assumption | constructor)) h1 (of_decide_eq_true rfl) s917 fun w921 s922 m923 k924 bx925 => (?_))))
      have bx920 := bx920.keep k924 (nin1 hne)
      have bx871 := bx871.keep k924 (nin1 (Ne.symm ne866))
      have ms := ms.trans m923
      have ks := ks.step0 k924 (fun b hb => by first | (simp at hb; done) | exact .inl hb | (simp only [List.mem_singleton] at hb; subst hb; first | (left; simp [Value.ownBlock]; done) | (right; omega)))
      refine wl_nil (end_n rfl (res0 rfl) (?_))
      exact ⟨_, rfl, s922.drop (fun b hb => (by repeat (first | assumption | constructor))), ms.trans (Mv.drop (fun b hb => (by repeat (first | assumption | constructor)))), ks, bx920, bx925⟩

end Go.Proofs.Ytpdekmknnpkmgaa
