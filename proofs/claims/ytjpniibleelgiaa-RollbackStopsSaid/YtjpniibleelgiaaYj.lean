/- Walks, printed by gen.py. -/
import Derived.Test.YtjpniibleelgiaaYk
import Derived.Test.YtjpniibleelgiaaYo
set_option linter.unusedSimpArgs false
set_option linter.unusedVariables false
namespace Go.Proofs.Ytjpniibleelgiaa
open Go.Fw Go.RowKit

set_option maxHeartbeats 4000000 in
set_option maxRecDepth 100000 in
theorem c_RollbackStops {O : List Nat} (d_cs : List Value) (d : Device) (o_cs : List Value) (o : DeviceOp) (nx_cs : List Value) (nx : DeviceOp) (crash : UInt8) (ac_cs : List Value) (ac : Step) (w : World) (h_d : Enc.device.rd w O d_cs d) (h_o : Enc.devop.rd w O o_cs o) (h_nx : Enc.devop.rd w O nx_cs nx) (h_ac : Enc.step.rd w O ac_cs ac) (hO : ∀ b ∈ O, b < w.heap.size) : CallsK Try.prog 15 [.agg d_cs.toArray, .agg o_cs.toArray, .agg nx_cs.toArray, vB crash, .agg ac_cs.toArray] w (fun v _ => v = .bool (true)) :=  by
 have h_d : Enc.device.rd w ([] ++ O) d_cs d := h_d
 obtain rfl := h_o
 obtain rfl := h_nx
 have h_ac : Enc.step.rd w ([] ++ O) ac_cs ac := h_ac
 have s0 : St w O w [] := St.start hO
 have hm2 := mod2_lt crash
 refine callsK_of 98 Try.func15 rfl rfl (of_decide_eq_true rfl) (fun F0 => ?_)
 refine cw_seq (?_)
 refine cw_region (by kernel_rfl) (wl_s (o_boxR (E := Enc.device) (Value.agg d_cs.toArray) (d_cs) d rfl rfl h_d s0 fun a7827 w7828 s7829 m7830 k7831 hp7832 => (?_)))
 have h_ac : Enc.step.rd w7828 ([] ++ O) ac_cs (ac) := Enc.mv Enc.step (x := ac) h_ac m7830
 refine wl_s (o_boxR (E := Enc.devop) (Value.agg #[vI o.device, vI o.no, vI o.kind, vI o.copy, vI o.to, vI o.token]) ([vI o.device, vI o.no, vI o.kind, vI o.copy, vI o.to, vI o.token]) o rfl rfl rfl s7829 fun a7833 w7834 s7835 m7836 k7837 hp7838 => (?_))
 have h_ac : Enc.step.rd w7834 ([] ++ O) ac_cs (ac) := Enc.mv Enc.step (x := ac) h_ac m7836
 have hp7832 := hp7832.mv m7836
 refine wl_s (o_box (Value.agg #[vI nx.device, vI nx.no, vI nx.kind, vI nx.copy, vI nx.to, vI nx.token]) [vI nx.device, vI nx.no, vI nx.kind, vI nx.copy, vI nx.to, vI nx.token] rfl rfl s7835 fun b7839 w7840 e7845 s7841 m7842 k7843 bx7844 => (?_))
 clear e7845
 have h_ac : Enc.step.rd w7840 ((b7839 :: []) ++ O) ac_cs (ac) := Enc.mv Enc.step (x := ac) h_ac m7842
 have hp7832 := hp7832.mv m7842
 have hp7838 := hp7838.mv m7842
 refine wl_s (o_boxR (E := Enc.step) (Value.agg ac_cs.toArray) (ac_cs) ac rfl rfl h_ac s7841 fun a7846 w7847 s7848 m7849 k7850 hp7851 => (?_))
 have hp7832 := hp7832.mv m7849
 have hp7838 := hp7838.mv m7849
 have bx7844 := bx7844.keep k7850 (by simp)
 refine wl_s (o_assign (Value.bool false) rfl (wl_nil (thenQ_n (?_))))
 refine cw_seq (?_)
 refine cw_seq (?_)
 refine cw_region (by kernel_rfl) (wl_s (o_callK (vs := []) enter_39 (c_sane43 (O := (b7839 :: []) ++ O) w7847 s7848.lt) rfl s7848 fun v7852 w7853 s7854 m7855 k7856 r7857 => (?_)))
 obtain rfl := r7857
 have hp7832 := hp7832.mv m7855
 have hp7838 := hp7838.mv m7855
 have hp7851 := hp7851.mv m7855
 have bx7844 := bx7844.keep k7856 (by simp)
 refine wl_s (o_not true rfl (wl_nil (thenQ_n (?_))))
 refine cw_cond false rfl rfl (fun h => by cases h) (fun _ => ?_)
 refine cw_skip (thenQ_n (?_))
 refine cw_seq (?_)
 refine cw_seq (?_)
 refine cw_region (by kernel_rfl) (wl_s (o_fieldR 2 f_31_2 (d.ops) rfl hp7832 (fun _ _ _ h => Enc_device_f2 h) fun a7858 hp7859 => (wl_s (o_loadL Try.underlying26 rfl rfl hp7859 fun v7860 hl7861 => (?_)))))
 have := hl7861.len_le
 refine wl_s (o_callK (vs := [v7860]) enter_26 (c_few (O := (b7839 :: []) ++ O) v7860 d.ops w7853 hl7861 s7854.lt) rfl s7854 fun v7862 w7863 s7864 m7865 k7866 r7867 => (?_))
 obtain rfl := r7867
 have hp7832 := hp7832.mv m7865
 have hp7838 := hp7838.mv m7865
 have hp7851 := hp7851.mv m7865
 have bx7844 := bx7844.keep k7866 (by simp)
 refine wl_s (o_not (decide ((d.ops.length : Int) ≤ 40)) rfl (wl_nil (thenQ_n (?_))))
 refine cw_cond (!(decide ((d.ops.length : Int) ≤ 40))) rfl rfl (fun hc7868 => ?_) (fun hc7868 => ?_)
 ·have hp7869 : 40 < (d.ops.length : Int) := by first | simpa using hc7868 | (have e := hc7868; rw [Bool.not_eq_true'] at e; exact e) | (have e := hc7868; rw [Bool.not_eq_false'] at e; exact e) | (have e := hc7868; simp at e; omega)
  refine cw_seq (?_)
  refine cw_region (by kernel_rfl) (wl_s (o_assign (Value.bool true) rfl (wl_nil (thenQ_n (?_)))))
  refine cw_ret (thenQ_r (end_r rfl (res1 rfl rfl rfl) (?_)))
  exact ⟨_, rfl, s7864.keep, rfl⟩
 ·have hp7870 : (d.ops.length : Int) ≤ 40 := by first | simpa using hc7868 | (have e := hc7868; rw [Bool.not_eq_true'] at e; exact e) | (have e := hc7868; rw [Bool.not_eq_false'] at e; exact e) | (have e := hc7868; simp at e; omega)
  refine cw_skip (thenQ_n (?_))
  refine cw_seq (?_)
  refine cw_region (by kernel_rfl) (wl_s (o_loadS Try.underlying31 rfl s_31 rfl hp7832 fun cs7871 hs7872 => (wl_s (o_loadS Try.underlying40 rfl s_40 rfl hp7838 fun cs7873 hs7874 => (?_)))))
  obtain rfl := hs7874
  refine wl_s (o_move (vB crash) rfl (wl_s (o_rem8 crash (2 : UInt8) (by decide) rfl rfl (wl_s (o_conv .u8 .i64 Try.underlying5 Try.underlying3 ((crash % 2).toNat : Int) ((crash % 2).toNat : Int) rfl (by have := (crash % 2).toNat_lt; exact w64 (by omega) rfl) (wl_s (o_add .i64 (1 : Int) ((crash % 2).toNat : Int) ((1 : Int) + ((crash % 2).toNat : Int)) rfl rfl (w64 (by omega) (by omega)) (wl_s (o_callK (vs := [Value.agg cs7871.toArray, Value.agg #[vI o.device, vI o.no, vI o.kind, vI o.copy, vI o.to, vI o.token], vI ((1 : Int) + ((crash % 2).toNat : Int))]) enter_40 (c_act (O := (b7839 :: []) ++ O) cs7871 d [vI o.device, vI o.no, vI o.kind, vI o.copy, vI o.to, vI o.token] o ((1 : Int) + ((crash % 2).toNat : Int)) w7863 hs7872 rfl s7864.lt) rfl s7864 fun v7875 w7876 s7877 m7878 k7879 r7880 => (?_))))))))))
  obtain ⟨cs7881, rfl, hs7882⟩ := r7880
  have hp7832 := hp7832.mv m7878
  have hp7851 := hp7851.mv m7878
  have bx7844 := bx7844.keep k7879 (by simp)
  refine wl_s (o_move (Value.tuple #[Value.agg cs7881.toArray, vI ((actM d o ((1 : Int) + ((crash % 2).toNat : Int))).2)]) rfl (wl_s (o_extract (Value.agg cs7881.toArray) rfl rfl (wl_s (o_extract (vI ((actM d o ((1 : Int) + ((crash % 2).toNat : Int))).2)) rfl rfl (wl_s (o_alloc [vI (0 : Int), vI (0 : Int), Value.slice none 0 0, Value.bool false] z_31 rfl s7877 fun b7883 w7884 e7889 s7885 m7886 k7887 bx7888 => (?_))))))))
  have ne7890 : NeB b7839 b7883 := by show b7839 ≠ b7883; have := bx7844.lt; omega
  clear e7889
  have hp7832 := hp7832.mv m7886
  have hp7851 := hp7851.mv m7886
  have hs7882 : Enc.device.rd w7884 ((b7883 :: (b7839 :: [])) ++ O) cs7881 ((actM d o ((1 : Int) + ((crash % 2).toNat : Int))).1) := Enc.mv Enc.device (x := (actM d o ((1 : Int) + ((crash % 2).toNat : Int))).1) hs7882 m7886
  have bx7844 := bx7844.keep k7887 (by simp)
  obtain ⟨d7896, rfl, hd7897⟩ := hs7882
  have := hd7897.len_le
  refine wl_n (o_store (vs := [vI (((actM d o ((1 : Int) + ((crash % 2).toNat : Int))).1).id), vI (((actM d o ((1 : Int) + ((crash % 2).toNat : Int))).1).counter), d7896, Value.bool (((actM d o ((1 : Int) + ((crash % 2).toNat : Int))).1).halted)]) (.agg #[vI (((actM d o ((1 : Int) + ((crash % 2).toNat : Int))).1).id), vI (((actM d o ((1 : Int) + ((crash % 2).toNat : Int))).1).counter), d7896, Value.bool (((actM d o ((1 : Int) + ((crash % 2).toNat : Int))).1).halted)]) rfl rfl rfl s_31 (fun u hu => by simp only [List.mem_cons, List.not_mem_nil, or_false] at hu; rcases hu with rfl | rfl | rfl | rfl <;> first | rfl | exact hd7897.oneCell) (by repeat (first | assumption | constructor)) bx7888 (of_decide_eq_true rfl) s7885 fun w7891 s7892 m7893 k7894 bx7895 => (?_))
  have hp7832 := hp7832.mv m7893
  have hp7851 := hp7851.mv m7893
  have hd7897 := hd7897.mv m7893
  have bx7844 := bx7844.keep k7894 (nin1 ne7890)
  refine wl_s (o_assign (vI ((actM d o ((1 : Int) + ((crash % 2).toNat : Int))).2)) rfl (wl_nil (thenQ_n (?_))))
  refine cw_seq (?_)
  refine cw_seq (?_)
  refine cw_region (by kernel_rfl) (wl_s (o_move (vI ((actM d o ((1 : Int) + ((crash % 2).toNat : Int))).2)) rfl (wl_s (o_neq .i64 ((actM d o ((1 : Int) + ((crash % 2).toNat : Int))).2) (0 : Int) rfl rfl (wl_nil (thenQ_n (?_)))))))
  refine cw_cond (((actM d o ((1 : Int) + ((crash % 2).toNat : Int))).2) != (0 : Int)) rfl rfl (fun hc7898 => ?_) (fun hc7898 => ?_)
  ·have hp7899 : (actM d o ((1 : Int) + ((crash % 2).toNat : Int))).2 ≠ (0 : Int) := by first | simpa using hc7898 | (have e := hc7898; simp at e; omega)
   refine cw_seq (?_)
   refine cw_region (by kernel_rfl) (wl_s (o_loadBxA (vs := [vI (((actM d o ((1 : Int) + ((crash % 2).toNat : Int))).1).id), vI (((actM d o ((1 : Int) + ((crash % 2).toNat : Int))).1).counter), d7896, Value.bool (((actM d o ((1 : Int) + ((crash % 2).toNat : Int))).1).halted)]) Try.underlying31 rfl s_31 rfl bx7895 rfl (wl_s (o_build (l := []) pl_31 z_31 rfl [] [vI (0 : Int), vI (0 : Int), Value.slice none 0 0, Value.bool false] rfl rfl (wl_s (o_callK (vs := [Value.agg #[vI (((actM d o ((1 : Int) + ((crash % 2).toNat : Int))).1).id), vI (((actM d o ((1 : Int) + ((crash % 2).toNat : Int))).1).counter), d7896, Value.bool (((actM d o ((1 : Int) + ((crash % 2).toNat : Int))).1).halted)], Value.agg #[vI (0 : Int), vI (0 : Int), Value.slice none 0 0, Value.bool false]]) enter_42 (c_sameD (O := (b7883 :: (b7839 :: [])) ++ O) [vI (((actM d o ((1 : Int) + ((crash % 2).toNat : Int))).1).id), vI (((actM d o ((1 : Int) + ((crash % 2).toNat : Int))).1).counter), d7896, Value.bool (((actM d o ((1 : Int) + ((crash % 2).toNat : Int))).1).halted)] ((actM d o ((1 : Int) + ((crash % 2).toNat : Int))).1) [vI (0 : Int), vI (0 : Int), Value.slice none 0 0, Value.bool false] (⟨(0 : Int), (0 : Int), [], false⟩ : Device) w7891 ⟨_, rfl, hd7897⟩ ⟨.slice none 0 0, rfl, (RdL.nil _ _ _)⟩ s7892.lt) rfl s7892 fun v7900 w7901 s7902 m7903 k7904 r7905 => (?_)))))))
   obtain rfl := r7905
   refine wl_s (o_assign (Value.bool (((actM d o ((1 : Int) + ((crash % 2).toNat : Int))).1) == (⟨(0 : Int), (0 : Int), [], false⟩ : Device))) rfl (wl_nil (thenQ_n (?_))))
   refine cw_ret (thenQ_r (end_r rfl (res1 rfl rfl rfl) (?_)))
   have e : true = (((actM d o ((1 : Int) + ((crash % 2).toNat : Int))).1) == (⟨(0 : Int), (0 : Int), [], false⟩ : Device)) := by first | rfl | (rw [act_err (by assumption)]; rfl) | exact (by rw [stop_start hrc60_0, stop_act hrc60_0]; rfl)
   exact ⟨_, rfl, s7902.keep, (by first | exact congrArg Value.bool e.symm | rfl)⟩
  ·have hp7906 : (actM d o ((1 : Int) + ((crash % 2).toNat : Int))).2 = (0 : Int) := by first | simpa using hc7898 | (have e := hc7898; simp at e; omega)
   have hact : (actM d o ((1 : Int) + ((crash % 2).toNat : Int))).2 = 0 := hp7906
   refine cw_skip (thenQ_n (?_))
   refine cw_cut (fun FI wI => ∃ (vrc47_b7883_2 : Value) (B : List Nat), stopP d d.ops ∧ True ∧ (∃ F1, FI = upds F1 [(7, Value.pointer (some ⟨b7839, 0, none⟩)), (9, Value.pointer (some a7846)), (11, Value.pointer (some ⟨b7883, 0, none⟩)), (98, undef)]) ∧ St w O wI B ∧ RdL Enc.devop wI (B ++ O) vrc47_b7883_2 (d.ops) ∧ PT Enc.step wI (B ++ O) (.pointer (some a7846)) (ac) ∧ Box wI b7839 40 [vI nx.device, vI nx.no, vI nx.kind, vI nx.copy, vI nx.to, vI nx.token] ∧ b7839 ∈ B ∧ Box wI b7883 31 [vI d.id, vI (d.counter + 1), vrc47_b7883_2, Value.bool false] ∧ b7883 ∈ B) ?_ ?_
   ·refine cw_draw' 3 _ _ [isV (Value.agg #[vI (((actM d o ((1 : Int) + ((crash % 2).toNat : Int))).1).id), vI (((actM d o ((1 : Int) + ((crash % 2).toNat : Int))).1).counter), d7896, Value.bool (((actM d o ((1 : Int) + ((crash % 2).toNat : Int))).1).halted)]), fun (vT : Value) (wT : World) => ∃ csT : List Value, vT = .agg csT.toArray ∧ Enc.device.rd wT ((b7883 :: (b7839 :: [])) ++ O) csT (d), fun (vT : Value) (wT : World) => RdL Enc.devop wT ((b7883 :: (b7839 :: [])) ++ O) vT (d.ops)] (by kernel_rfl) (by kernel_rfl) (by kernel_rfl) (by kernel_rfl) rfl rfl ⟨kI, fun _ _ _ ⟨a, e, h⟩ k => ⟨a, e, Enc.mv _ h (Mv.of_keep k)⟩, fun _ _ _ h k => h.mv (Mv.of_keep k), trivial⟩ ⟨?_, ?_, ?_, trivial⟩ ?_
    ·intro F1 w1 k1 hf hd
     have k0 := (Keep.drew [] w7891).trans k1
     have bx7895 := bx7895.keep k0 (by simp)
     obtain ⟨F2, rfl⟩ := lit_of (F := F1) [(11, Value.pointer (some ⟨b7883, 0, none⟩))] ⟨hf 11 (by kernel_rfl), trivial⟩
     exact sp_plain rfl ((o_loadBxA (vs := [vI (((actM d o ((1 : Int) + ((crash % 2).toNat : Int))).1).id), vI (((actM d o ((1 : Int) + ((crash % 2).toNat : Int))).1).counter), d7896, Value.bool (((actM d o ((1 : Int) + ((crash % 2).toNat : Int))).1).halted)]) Try.underlying31 rfl s_31 rfl bx7895 rfl (⟨(Keep.refl _ _), rfl⟩)))
    ·intro F1 w1 k1 hf hd
     have k0 := (Keep.drew [] w7891).trans k1
     have m1 : Mv (b7883 :: (b7839 :: [])) w7891 (b7883 :: (b7839 :: [])) w1 := Mv.of_keep k0
     have hp7832 := hp7832.mv m1
     obtain ⟨F2, rfl⟩ := lit_of (F := F1) [(5, Value.pointer (some a7827))] ⟨hf 5 (by kernel_rfl), trivial⟩
     exact sp_plain rfl ((o_loadS Try.underlying31 rfl s_31 rfl hp7832 fun cs7907 hs7908 => (⟨(Keep.refl _ _), ⟨cs7907, rfl, hs7908⟩⟩)))
    ·intro F1 w1 k1 hf hd
     have k0 := (Keep.drew [] w7891).trans k1
     have s1 := s7892.call k0
     obtain ⟨cs7909, e7911, hs7910⟩ : ∃ cs : List Value, F1 43 = .agg cs.toArray ∧ Enc.device.rd w1 ((b7883 :: (b7839 :: [])) ++ O) cs (d) := hd 1 43 (by kernel_rfl)
     obtain ⟨F2, rfl⟩ := lit_of (F := F1) [(43, Value.agg cs7909.toArray)] ⟨e7911, trivial⟩
     refine sp_plain rfl ((o_callK (vs := [Value.agg cs7909.toArray]) enter_46 (c_backup (O := (b7883 :: (b7839 :: [])) ++ O) cs7909 d w1 hs7910 (by first | omega | assumption | (simp; done)) s1.lt) rfl s1 fun v7912 w7913 s7914 m7915 k7916 r7917 => (?_)))
     obtain ⟨_, rfl, hl7918⟩ := r7917
     have := hl7918.len_le
     exact ⟨k7916, hl7918⟩
    intro F7920 w7921 k7919 hT7922 hF7923
    have s7924 := s7892.call k7919
    have m7925 : Mv (b7883 :: (b7839 :: [])) w7891 (b7883 :: (b7839 :: [])) w7921 := Mv.of_keep k7919
    have hp7851 := hp7851.mv m7925
    have hd7897 := hd7897.mv m7925
    have bx7844 := bx7844.keep k7919 (by simp)
    have bx7895 := bx7895.keep k7919 (by simp)
    obtain ⟨v7928, e7930, hl7929⟩ : ∃ v, F7920 44 = v ∧ RdL Enc.devop w7921 ((b7883 :: (b7839 :: [])) ++ O) v (d.ops) := ⟨_, rfl, hT7922 2 44 (by kernel_rfl) (by decide)⟩
    have := hl7929.len_le
    obtain ⟨F2, rfl⟩ := lit_of (F := F7920) [(7, Value.pointer (some ⟨b7839, 0, none⟩)), (9, Value.pointer (some a7846)), (11, Value.pointer (some ⟨b7883, 0, none⟩)), (98, undef), (42, Value.agg #[vI (((actM d o ((1 : Int) + ((crash % 2).toNat : Int))).1).id), vI (((actM d o ((1 : Int) + ((crash % 2).toNat : Int))).1).counter), d7896, Value.bool (((actM d o ((1 : Int) + ((crash % 2).toNat : Int))).1).halted)]), (44, v7928)] ⟨hF7923 7 (by kernel_rfl), hF7923 9 (by kernel_rfl), hF7923 11 (by kernel_rfl), hF7923 98 (by kernel_rfl), hT7922 0 42 (by kernel_rfl) (by decide), e7930, trivial⟩
    clear hT7922 hF7923
    refine wl_s (o_callK (vs := [Value.agg #[vI (((actM d o ((1 : Int) + ((crash % 2).toNat : Int))).1).id), vI (((actM d o ((1 : Int) + ((crash % 2).toNat : Int))).1).counter), d7896, Value.bool (((actM d o ((1 : Int) + ((crash % 2).toNat : Int))).1).halted)], v7928]) enter_47 (c_restore (O := (b7883 :: (b7839 :: [])) ++ O) [vI (((actM d o ((1 : Int) + ((crash % 2).toNat : Int))).1).id), vI (((actM d o ((1 : Int) + ((crash % 2).toNat : Int))).1).counter), d7896, Value.bool (((actM d o ((1 : Int) + ((crash % 2).toNat : Int))).1).halted)] ((actM d o ((1 : Int) + ((crash % 2).toNat : Int))).1) v7928 d.ops w7921 ⟨_, rfl, hd7897⟩ hl7929 (by first | omega | assumption | (simp; done)) s7924.lt) rfl s7924 fun v7931 w7932 s7933 m7934 k7935 r7936 => (?_))
    obtain ⟨cs7937, rfl, hs7938⟩ := r7936
    have hp7851 := hp7851.mv m7934
    have bx7844 := bx7844.keep k7935 (by simp)
    have bx7895 := bx7895.keep k7935 (by simp)
    obtain ⟨d7944, rfl, hd7945⟩ := hs7938
    have := hd7945.len_le
    refine wl_n (o_store (vs := [vI ((restoreM ((actM d o ((1 : Int) + ((crash % 2).toNat : Int))).1) d.ops).id), vI ((restoreM ((actM d o ((1 : Int) + ((crash % 2).toNat : Int))).1) d.ops).counter), d7944, Value.bool ((restoreM ((actM d o ((1 : Int) + ((crash % 2).toNat : Int))).1) d.ops).halted)]) (.agg #[vI ((restoreM ((actM d o ((1 : Int) + ((crash % 2).toNat : Int))).1) d.ops).id), vI ((restoreM ((actM d o ((1 : Int) + ((crash % 2).toNat : Int))).1) d.ops).counter), d7944, Value.bool ((restoreM ((actM d o ((1 : Int) + ((crash % 2).toNat : Int))).1) d.ops).halted)]) rfl rfl rfl s_31 (fun u hu => by simp only [List.mem_cons, List.not_mem_nil, or_false] at hu; rcases hu with rfl | rfl | rfl | rfl <;> first | rfl | exact hd7945.oneCell) (by repeat (first | assumption | constructor)) bx7895 (of_decide_eq_true rfl) s7933 fun w7939 s7940 m7941 k7942 bx7943 => (?_))
    have hp7851 := hp7851.mv m7941
    have hd7945 := hd7945.mv m7941
    have bx7844 := bx7844.keep k7942 (nin1 ne7890)
    refine wl_nil (thenQ_n (?_))
    exact ⟨d7944, (b7883 :: (b7839 :: [])), (stop_0 hact), trivial, ⟨_, upds_self _ ⟨rfl, rfl, rfl, rfl, trivial⟩⟩, s7940, (by rw [show d.ops = (restoreM ((actM d o ((1 : Int) + ((crash % 2).toNat : Int))).1) d.ops).ops from by rw [stop_x hact (by omega)]]; exact hd7945), hp7851, bx7844, (by first | assumption | (repeat (first | exact List.mem_cons_self | assumption | apply List.mem_cons_of_mem)) | (apply_assumption; assumption)), (by rw [show ([vI d.id, vI (d.counter + 1), d7944, Value.bool false] : List Value) = [vI ((restoreM ((actM d o ((1 : Int) + ((crash % 2).toNat : Int))).1) d.ops).id), vI ((restoreM ((actM d o ((1 : Int) + ((crash % 2).toNat : Int))).1) d.ops).counter), d7944, Value.bool ((restoreM ((actM d o ((1 : Int) + ((crash % 2).toNat : Int))).1) d.ops).halted)] from by rw [stop_x hact (by omega)]]; exact bx7943), (by first | assumption | (repeat (first | exact List.mem_cons_self | assumption | apply List.mem_cons_of_mem)) | (apply_assumption; assumption))⟩
   ·intro F wlc47 hI
    clear hp7851 bx7844
    obtain ⟨vrc47_b7883_2, Blc47, hrc47_0, hmc47, ⟨Flc47, rfl⟩, slc47, hrdc47_b7883_2, hp7851, bx7844, hin_b7839, hbs_c47_b7883, hin_b7883⟩ := hI
    have := hrdc47_b7883_2.len_le
    refine cw_cut (fun FI wI => ∃ (m : List DeviceOp) (vrc60_b7883_2 : Value) (B : List Nat), stopP d m ∧ True ∧ (∃ F1, FI = upds F1 [(7, Value.pointer (some ⟨b7839, 0, none⟩)), (11, Value.pointer (some ⟨b7883, 0, none⟩)), (98, undef)]) ∧ St w O wI B ∧ RdL Enc.devop wI (B ++ O) vrc60_b7883_2 (m) ∧ Box wI b7839 40 [vI nx.device, vI nx.no, vI nx.kind, vI nx.copy, vI nx.to, vI nx.token] ∧ b7839 ∈ B ∧ Box wI b7883 31 [vI d.id, vI (d.counter + 1), vrc60_b7883_2, Value.bool false] ∧ b7883 ∈ B) ?_ ?_
    ·refine cw_cut (fun FI wI => ∃ (vrc56_13 : Value) (B : List Nat), True ∧ (∃ F1, FI = upds F1 [(7, Value.pointer (some ⟨b7839, 0, none⟩)), (11, Value.pointer (some ⟨b7883, 0, none⟩)), (13, vrc56_13), (14, vI ((addM d.ops (otherM d.id ac)).2)), (98, undef)]) ∧ St w O wI B ∧ RdL Enc.devop wI (B ++ O) vrc56_13 ((addM d.ops (otherM d.id ac)).1) ∧ Box wI b7839 40 [vI nx.device, vI nx.no, vI nx.kind, vI nx.copy, vI nx.to, vI nx.token] ∧ b7839 ∈ B ∧ RdL Enc.devop wI (B ++ O) (vrc47_b7883_2) (d.ops) ∧ Box wI b7883 31 [vI d.id, vI (d.counter + 1), vrc47_b7883_2, Value.bool false] ∧ b7883 ∈ B) ?_ ?_
     ·refine cw_draw' 11 _ _ [isV (Value.pointer (some ⟨b7883, 2, none⟩)), fun (vT : Value) (wT : World) => RdL Enc.devop wT (Blc47 ++ O) vT (d.ops), isV (Value.pointer (some ⟨b7883, 0, none⟩)), isV (vI d.id), fun (vT : Value) (wT : World) => ∃ csT : List Value, vT = .agg csT.toArray ∧ Enc.step.rd wT (Blc47 ++ O) csT (ac), isV (Value.agg #[vI ((otherM d.id ac).device), vI ((otherM d.id ac).no), vI ((otherM d.id ac).kind), vI ((otherM d.id ac).copy), vI ((otherM d.id ac).to), vI ((otherM d.id ac).token)]), fun (vT : Value) (wT : World) => ∃ (xT0 : Value), vT = .tuple #[xT0, vI ((addM d.ops (otherM d.id ac)).2)] ∧ RdL Enc.devop wT (Blc47 ++ O) xT0 ((addM d.ops (otherM d.id ac)).1), fun (vT : Value) (wT : World) => ∃ (xT0 : Value), vT = .tuple #[xT0, vI ((addM d.ops (otherM d.id ac)).2)] ∧ RdL Enc.devop wT (Blc47 ++ O) xT0 ((addM d.ops (otherM d.id ac)).1), fun (vT : Value) (wT : World) => RdL Enc.devop wT (Blc47 ++ O) vT ((addM d.ops (otherM d.id ac)).1), isV (vI ((addM d.ops (otherM d.id ac)).2)), fun (vT : Value) (wT : World) => RdL Enc.devop wT (Blc47 ++ O) vT ((addM d.ops (otherM d.id ac)).1)] (by kernel_rfl) (by kernel_rfl) (by kernel_rfl) (by kernel_rfl) rfl rfl ⟨kI, fun _ _ _ h k => h.mv (Mv.of_keep k), kI, kI, fun _ _ _ ⟨a, e, h⟩ k => ⟨a, e, Enc.mv _ h (Mv.of_keep k)⟩, kI, fun _ _ _ ⟨y0, e, h0⟩ k => ⟨y0, e, h0.mv (Mv.of_keep k)⟩, fun _ _ _ ⟨y0, e, h0⟩ k => ⟨y0, e, h0.mv (Mv.of_keep k)⟩, fun _ _ _ h k => h.mv (Mv.of_keep k), kI, fun _ _ _ h k => h.mv (Mv.of_keep k), trivial⟩ ⟨?_, ?_, ?_, ?_, ?_, ?_, ?_, ?_, ?_, ?_, ?_, trivial⟩ ?_
      ·intro F1 w1 k1 hf hd
       obtain ⟨F2, rfl⟩ := lit_of (F := F1) [(11, Value.pointer (some ⟨b7883, 0, none⟩))] ⟨hf 11 (by kernel_rfl), trivial⟩
       exact sp_plain rfl ((o_fieldL 2 f_31_2 rfl (⟨(Keep.refl _ _), rfl⟩)))
      ·intro F1 w1 k1 hf hd
       have k0 := (Keep.drew [] wlc47).trans k1
       have m1 : Mv Blc47 wlc47 Blc47 w1 := Mv.of_keep k0
       have hbs_c47_b7883 := hbs_c47_b7883.keep k0 (by simp)
       have hrdc47_b7883_2 := hrdc47_b7883_2.mv m1
       obtain ⟨F2, rfl⟩ := lit_of (F := F1) [(47, Value.pointer (some ⟨b7883, 2, none⟩))] ⟨hd 0 47 (by kernel_rfl), trivial⟩
       exact sp_plain rfl ((o_loadBx Try.underlying26 rfl (vrc47_b7883_2) rfl hbs_c47_b7883 rfl (⟨(Keep.refl _ _), hrdc47_b7883_2⟩)))
      ·intro F1 w1 k1 hf hd
       obtain ⟨F2, rfl⟩ := lit_of (F := F1) [(11, Value.pointer (some ⟨b7883, 0, none⟩))] ⟨hf 11 (by kernel_rfl), trivial⟩
       exact sp_plain rfl ((o_fieldL 0 f_31_0 rfl (⟨(Keep.refl _ _), rfl⟩)))
      ·intro F1 w1 k1 hf hd
       have k0 := (Keep.drew [] wlc47).trans k1
       have hbs_c47_b7883 := hbs_c47_b7883.keep k0 (by simp)
       obtain ⟨F2, rfl⟩ := lit_of (F := F1) [(49, Value.pointer (some ⟨b7883, 0, none⟩))] ⟨hd 2 49 (by kernel_rfl), trivial⟩
       exact sp_plain rfl ((o_loadBx Try.underlying3 rfl (vI d.id) rfl hbs_c47_b7883 rfl (⟨(Keep.refl _ _), rfl⟩)))
      ·intro F1 w1 k1 hf hd
       have k0 := (Keep.drew [] wlc47).trans k1
       have m1 : Mv Blc47 wlc47 Blc47 w1 := Mv.of_keep k0
       have hp7851 := hp7851.mv m1
       obtain ⟨F2, rfl⟩ := lit_of (F := F1) [(9, Value.pointer (some a7846))] ⟨hf 9 (by kernel_rfl), trivial⟩
       exact sp_plain rfl ((o_loadS Try.underlying79 rfl s_79 rfl hp7851 fun cs7946 hs7947 => (⟨(Keep.refl _ _), ⟨cs7946, rfl, hs7947⟩⟩)))
      ·intro F1 w1 k1 hf hd
       have k0 := (Keep.drew [] wlc47).trans k1
       have s1 := slc47.call k0
       obtain ⟨cs7948, e7950, hs7949⟩ : ∃ cs : List Value, F1 51 = .agg cs.toArray ∧ Enc.step.rd w1 (Blc47 ++ O) cs (ac) := hd 4 51 (by kernel_rfl)
       obtain ⟨F2, rfl⟩ := lit_of (F := F1) [(50, vI d.id), (51, Value.agg cs7948.toArray)] ⟨hd 3 50 (by kernel_rfl), e7950, trivial⟩
       refine sp_plain rfl ((o_callK (vs := [vI d.id, Value.agg cs7948.toArray]) enter_53 (c_other (O := Blc47 ++ O) d.id cs7948 ac w1 hs7949 hrc47_0.2.2.1 hrc47_0.2.2.2.1 s1.lt) rfl s1 fun v7951 w7952 s7953 m7954 k7955 r7956 => (?_)))
       obtain ⟨cs7957, rfl, hs7958⟩ := r7956
       obtain rfl := hs7958
       exact ⟨k7955, rfl⟩
      ·intro F1 w1 k1 hf hd
       have k0 := (Keep.drew [] wlc47).trans k1
       have s1 := slc47.call k0
       obtain ⟨v7959, e7961, hl7960⟩ : ∃ v, F1 48 = v ∧ RdL Enc.devop w1 (Blc47 ++ O) v (d.ops) := ⟨_, rfl, hd 1 48 (by kernel_rfl)⟩
       have := hl7960.len_le
       obtain ⟨F2, rfl⟩ := lit_of (F := F1) [(48, v7959), (52, Value.agg #[vI ((otherM d.id ac).device), vI ((otherM d.id ac).no), vI ((otherM d.id ac).kind), vI ((otherM d.id ac).copy), vI ((otherM d.id ac).to), vI ((otherM d.id ac).token)])] ⟨e7961, hd 5 52 (by kernel_rfl), trivial⟩
       refine sp_plain rfl ((o_callK (vs := [v7959, Value.agg #[vI ((otherM d.id ac).device), vI ((otherM d.id ac).no), vI ((otherM d.id ac).kind), vI ((otherM d.id ac).copy), vI ((otherM d.id ac).to), vI ((otherM d.id ac).token)]]) enter_23 (c_add (O := Blc47 ++ O) v7959 d.ops [vI ((otherM d.id ac).device), vI ((otherM d.id ac).no), vI ((otherM d.id ac).kind), vI ((otherM d.id ac).copy), vI ((otherM d.id ac).to), vI ((otherM d.id ac).token)] (otherM d.id ac) w1 hl7960 rfl s1.lt) rfl s1 fun v7962 w7963 s7964 m7965 k7966 r7967 => (?_)))
       obtain ⟨x7968, rfl, hl7969⟩ := r7967
       have := hl7969.len_le
       exact ⟨k7966, ⟨x7968, rfl, hl7969⟩⟩
      ·intro F1 w1 k1 hf hd
       obtain ⟨x7970, e7972, hl7971⟩ : (fun (vT : Value) (wT : World) => ∃ (xT0 : Value), vT = .tuple #[xT0, vI ((addM d.ops (otherM d.id ac)).2)] ∧ RdL Enc.devop wT (Blc47 ++ O) xT0 ((addM d.ops (otherM d.id ac)).1)) (F1 53) w1 := hd 6 53 (by kernel_rfl)
       have := hl7971.len_le
       obtain ⟨F2, rfl⟩ := lit_of (F := F1) [(53, Value.tuple #[x7970, vI ((addM d.ops (otherM d.id ac)).2)])] ⟨e7972, trivial⟩
       exact sp_plain rfl ((o_move (Value.tuple #[x7970, vI ((addM d.ops (otherM d.id ac)).2)]) rfl (⟨(Keep.refl _ _), ⟨x7970, rfl, hl7971⟩⟩)))
      ·intro F1 w1 k1 hf hd
       obtain ⟨x7973, e7975, hl7974⟩ : (fun (vT : Value) (wT : World) => ∃ (xT0 : Value), vT = .tuple #[xT0, vI ((addM d.ops (otherM d.id ac)).2)] ∧ RdL Enc.devop wT (Blc47 ++ O) xT0 ((addM d.ops (otherM d.id ac)).1)) (F1 46) w1 := hd 7 46 (by kernel_rfl)
       have := hl7974.len_le
       obtain ⟨F2, rfl⟩ := lit_of (F := F1) [(46, Value.tuple #[x7973, vI ((addM d.ops (otherM d.id ac)).2)])] ⟨e7975, trivial⟩
       exact sp_plain rfl ((o_extract (x7973) rfl rfl (⟨(Keep.refl _ _), hl7974⟩)))
      ·intro F1 w1 k1 hf hd
       obtain ⟨x7976, e7978, hl7977⟩ : (fun (vT : Value) (wT : World) => ∃ (xT0 : Value), vT = .tuple #[xT0, vI ((addM d.ops (otherM d.id ac)).2)] ∧ RdL Enc.devop wT (Blc47 ++ O) xT0 ((addM d.ops (otherM d.id ac)).1)) (F1 46) w1 := hd 7 46 (by kernel_rfl)
       have := hl7977.len_le
       obtain ⟨F2, rfl⟩ := lit_of (F := F1) [(46, Value.tuple #[x7976, vI ((addM d.ops (otherM d.id ac)).2)])] ⟨e7978, trivial⟩
       exact sp_plain rfl ((o_extract (vI ((addM d.ops (otherM d.id ac)).2)) rfl rfl (⟨(Keep.refl _ _), rfl⟩)))
      ·intro F1 w1 k1 hf hd
       obtain ⟨v7979, e7981, hl7980⟩ : ∃ v, F1 54 = v ∧ RdL Enc.devop w1 (Blc47 ++ O) v ((addM d.ops (otherM d.id ac)).1) := ⟨_, rfl, hd 8 54 (by kernel_rfl)⟩
       have := hl7980.len_le
       obtain ⟨F2, rfl⟩ := lit_of (F := F1) [(54, v7979)] ⟨e7981, trivial⟩
       exact sp_plain rfl ((o_assign (v7979) rfl (⟨(Keep.refl _ _), hl7980⟩)))
      intro F7983 w7984 k7982 hT7985 hF7986
      have s7987 := slc47.call k7982
      have m7988 : Mv Blc47 wlc47 Blc47 w7984 := Mv.of_keep k7982
      have bx7844 := bx7844.keep k7982 (by simp)
      have hrdc47_b7883_2 := hrdc47_b7883_2.mv m7988
      have hbs_c47_b7883 := hbs_c47_b7883.keep k7982 (by simp)
      obtain ⟨v7991, e7993, hl7992⟩ : ∃ v, F7983 13 = v ∧ RdL Enc.devop w7984 (Blc47 ++ O) v ((addM d.ops (otherM d.id ac)).1) := ⟨_, rfl, hT7985 10 13 (by kernel_rfl) (by decide)⟩
      have := hl7992.len_le
      obtain ⟨F2, rfl⟩ := lit_of (F := F7983) [(7, Value.pointer (some ⟨b7839, 0, none⟩)), (11, Value.pointer (some ⟨b7883, 0, none⟩)), (98, undef), (13, v7991), (55, vI ((addM d.ops (otherM d.id ac)).2))] ⟨hF7986 7 (by kernel_rfl), hF7986 11 (by kernel_rfl), hF7986 98 (by kernel_rfl), e7993, hT7985 9 55 (by kernel_rfl) (by decide), trivial⟩
      clear hT7985 hF7986
      refine wl_s (o_assign (vI ((addM d.ops (otherM d.id ac)).2)) rfl (wl_nil (thenQ_n (?_))))
      exact ⟨v7991, Blc47, trivial, ⟨_, upds_self _ ⟨rfl, rfl, rfl, rfl, rfl, trivial⟩⟩, s7987, hl7992, bx7844, (by first | assumption | (repeat (first | exact List.mem_cons_self | assumption | apply List.mem_cons_of_mem)) | (apply_assumption; assumption)), hrdc47_b7883_2, hbs_c47_b7883, (by first | assumption | (repeat (first | exact List.mem_cons_self | assumption | apply List.mem_cons_of_mem)) | (apply_assumption; assumption))⟩
     ·intro F wlc56 hI
      clear bx7844 hrdc47_b7883_2 hbs_c47_b7883
      obtain ⟨vrc56_13, Blc56, hmc56, ⟨Flc56, rfl⟩, slc56, hrdc56_13, bx7844, hin_b7839, hrdc47_b7883_2, hbs_c47_b7883, hin_b7883⟩ := hI
      have := hrdc56_13.len_le
      refine cw_seq (?_)
      refine cw_region (by kernel_rfl) (wl_s (o_move (vI ((addM d.ops (otherM d.id ac)).2)) rfl (wl_s (o_eql .i64 ((addM d.ops (otherM d.id ac)).2) (0 : Int) rfl rfl (wl_nil (thenQ_n (?_)))))))
      refine cw_cond (((addM d.ops (otherM d.id ac)).2) == (0 : Int)) rfl rfl (fun hc7994 => ?_) (fun hc7994 => ?_)
      ·have hp7995 : (addM d.ops (otherM d.id ac)).2 = (0 : Int) := by first | simpa using hc7994 | (have e := hc7994; simp at e; omega)
       refine cw_region (by kernel_rfl) (wl_s (o_move (vrc56_13) rfl (wl_s (o_fieldL 2 f_31_2 rfl (wl_n (o_store1 (vrc56_13) rfl rfl hrdc56_13.oneCell s_26 (by repeat (first | assumption | constructor)) hbs_c47_b7883 (of_decide_eq_true rfl) slc56 fun w7996 s7997 m7998 k7999 bx8000 => (?_)))))))
       have hrdc56_13 := hrdc56_13.mv m7998
       have bx7844 := bx7844.keep k7999 (nin1 ne7890)
       refine wl_nil (thenQ_n (?_))
       exact ⟨((addM d.ops (otherM d.id ac)).1), vrc56_13, Blc56, (by first | exact hrc47_0 | exact stop_1 hrc47_0 (by assumption) (other_dev hrc47_0.2.2.1 hrc47_0.2.2.2.1 ac)), trivial, ⟨_, upds_self _ ⟨rfl, rfl, rfl, trivial⟩⟩, s7997, (by rw [show ((addM d.ops (otherM d.id ac)).1) = (addM d.ops (otherM d.id ac)).1 from by first | rfl | simp]; exact hrdc56_13), bx7844, (by first | assumption | (repeat (first | exact List.mem_cons_self | assumption | apply List.mem_cons_of_mem)) | (apply_assumption; assumption)), bx8000, (by first | assumption | (repeat (first | exact List.mem_cons_self | assumption | apply List.mem_cons_of_mem)) | (apply_assumption; assumption))⟩
      ·have hp8001 : (addM d.ops (otherM d.id ac)).2 ≠ (0 : Int) := by first | simpa using hc7994 | (have e := hc7994; simp at e; omega)
       refine cw_skip (thenQ_n (?_))
       exact ⟨(d.ops), vrc47_b7883_2, Blc56, (by first | exact hrc47_0 | exact stop_1 hrc47_0 (by assumption) (other_dev hrc47_0.2.2.1 hrc47_0.2.2.2.1 ac)), trivial, ⟨_, upds_self _ ⟨rfl, rfl, rfl, trivial⟩⟩, slc56, (by rw [show (d.ops) = d.ops from by first | rfl | simp]; exact hrdc47_b7883_2), bx7844, (by first | assumption | (repeat (first | exact List.mem_cons_self | assumption | apply List.mem_cons_of_mem)) | (apply_assumption; assumption)), hbs_c47_b7883, (by first | assumption | (repeat (first | exact List.mem_cons_self | assumption | apply List.mem_cons_of_mem)) | (apply_assumption; assumption))⟩
    ·intro F wlc60 hI
     clear bx7844
     obtain ⟨m, vrc60_b7883_2, Blc60, hrc60_0, hmc60, ⟨Flc60, rfl⟩, slc60, hrdc60_b7883_2, bx7844, hin_b7839, hbs_c60_b7883, hin_b7883⟩ := hI
     have := hrdc60_b7883_2.len_le
     refine cw_seq (?_)
     refine cw_drawL 6 [2, 3, 4] _ _ _ [isV (Value.pointer (some ⟨b7883, 0, none⟩)), isV (vI d.id), isV (Value.pointer (some ⟨b7883, 1, none⟩)), isV (vI (d.counter + 1)), isV (vI (d.counter + 1 + 1)), isV (Value.pointer (some ⟨b7839, 0, none⟩))] (by kernel_rfl) (by kernel_rfl) (by kernel_rfl) (by kernel_rfl) (by decide) rfl rfl rfl ⟨kI, kI, kI, kI, kI, kI, trivial⟩ ⟨?_, ?_, ?_, ?_, ?_, ?_, trivial⟩ ?_ ?_
     ·intro F1 w1 k1 hf hd
      obtain ⟨F2, rfl⟩ := lit_of (F := F1) [(11, Value.pointer (some ⟨b7883, 0, none⟩))] ⟨hf 11 (by kernel_rfl), trivial⟩
      exact sp_plain rfl ((o_fieldL 0 f_31_0 rfl (⟨(Keep.refl _ _), rfl⟩)))
     ·intro F1 w1 k1 hf hd
      have k0 := (Keep.drew [] wlc60).trans k1
      have hbs_c60_b7883 := hbs_c60_b7883.keep k0 (by simp)
      obtain ⟨F2, rfl⟩ := lit_of (F := F1) [(60, Value.pointer (some ⟨b7883, 0, none⟩))] ⟨hd 0 60 (by kernel_rfl), trivial⟩
      exact sp_plain rfl ((o_loadBx Try.underlying3 rfl (vI d.id) rfl hbs_c60_b7883 rfl (⟨(Keep.refl _ _), rfl⟩)))
     ·intro F1 w1 k1 hf hd
      obtain ⟨F2, rfl⟩ := lit_of (F := F1) [(11, Value.pointer (some ⟨b7883, 0, none⟩))] ⟨hf 11 (by kernel_rfl), trivial⟩
      exact sp_plain rfl ((o_fieldL 1 f_31_1 rfl (⟨(Keep.refl _ _), rfl⟩)))
     ·intro F1 w1 k1 hf hd
      have k0 := (Keep.drew [] wlc60).trans k1
      have hbs_c60_b7883 := hbs_c60_b7883.keep k0 (by simp)
      obtain ⟨F2, rfl⟩ := lit_of (F := F1) [(62, Value.pointer (some ⟨b7883, 1, none⟩))] ⟨hd 2 62 (by kernel_rfl), trivial⟩
      exact sp_plain rfl ((o_loadBx Try.underlying3 rfl (vI (d.counter + 1)) rfl hbs_c60_b7883 rfl (⟨(Keep.refl _ _), rfl⟩)))
     ·intro F1 w1 k1 hf hd
      obtain ⟨F2, rfl⟩ := lit_of (F := F1) [(63, vI (d.counter + 1))] ⟨hd 3 63 (by kernel_rfl), trivial⟩
      exact sp_plain rfl ((o_add .i64 (d.counter + 1) (1 : Int) (d.counter + 1 + 1) rfl rfl (w64 (by have := hrc60_0.2.2.2.2.1; have := hrc60_0.2.2.2.2.2; omega) rfl) (⟨(Keep.refl _ _), rfl⟩)))
     ·intro F1 w1 k1 hf hd
      obtain ⟨F2, rfl⟩ := lit_of (F := F1) [(7, Value.pointer (some ⟨b7839, 0, none⟩))] ⟨hf 7 (by kernel_rfl), trivial⟩
      exact sp_plain rfl ((o_fieldL 0 f_40_0 rfl (⟨(Keep.refl _ _), rfl⟩)))
     ·intro F8003 w8004 k8002 hT8005 hF8006
      have s8007 := slc60.call k8002
      have m8008 : Mv Blc60 wlc60 Blc60 w8004 := Mv.of_keep k8002
      have bx7844 := bx7844.keep k8002 (by simp)
      have hrdc60_b7883_2 := hrdc60_b7883_2.mv m8008
      have hbs_c60_b7883 := hbs_c60_b7883.keep k8002 (by simp)
      obtain ⟨F2, rfl⟩ := lit_of (F := F8003) [(7, Value.pointer (some ⟨b7839, 0, none⟩)), (11, Value.pointer (some ⟨b7883, 0, none⟩)), (98, undef), (61, vI d.id), (64, vI (d.counter + 1 + 1)), (65, Value.pointer (some ⟨b7839, 0, none⟩))] ⟨hF8006 7 (by kernel_rfl), hF8006 11 (by kernel_rfl), hF8006 98 (by kernel_rfl), hT8005 1 61 (by kernel_rfl) (by decide), hT8005 4 64 (by kernel_rfl) (by decide), hT8005 5 65 (by kernel_rfl) (by decide), trivial⟩
      clear hT8005 hF8006
      refine wl_n (o_store1 (vI d.id) rfl rfl rfl s_3 (by repeat (first | assumption | constructor)) bx7844 (of_decide_eq_true rfl) s8007 fun w8011 s8012 m8013 k8014 bx8015 => (?_))
      have hrdc60_b7883_2 := hrdc60_b7883_2.mv m8013
      have hbs_c60_b7883 := hbs_c60_b7883.keep k8014 (nin1 (Ne.symm ne7890))
      refine wl_s (o_fieldL 1 f_40_1 rfl (wl_n (o_store1 (vI (d.counter + 1 + 1)) rfl rfl rfl s_3 (by repeat (first | assumption | constructor)) bx8015 (of_decide_eq_true rfl) s8012 fun w8016 s8017 m8018 k8019 bx8020 => (?_))))
      have hrdc60_b7883_2 := hrdc60_b7883_2.mv m8018
      have hbs_c60_b7883 := hbs_c60_b7883.keep k8019 (nin1 (Ne.symm ne7890))
      refine wl_nil (thenQ_n (?_))
      refine cw_seq (?_)
      refine cw_region (by kernel_rfl) (wl_s (o_loadBxA (vs := [vI d.id, vI (d.counter + 1), vrc60_b7883_2, Value.bool false]) Try.underlying31 rfl s_31 rfl hbs_c60_b7883 rfl (wl_s (o_loadBxA (vs := [vI d.id, vI (d.counter + 1 + 1), vI nx.kind, vI nx.copy, vI nx.to, vI nx.token]) Try.underlying40 rfl s_40 rfl bx8020 rfl (wl_s (o_callK (vs := [Value.agg #[vI d.id, vI (d.counter + 1), vrc60_b7883_2, Value.bool false], Value.agg #[vI d.id, vI (d.counter + 1 + 1), vI nx.kind, vI nx.copy, vI nx.to, vI nx.token], vI (2 : Int)]) enter_40 (c_act (O := Blc60 ++ O) [vI d.id, vI (d.counter + 1), vrc60_b7883_2, Value.bool false] (⟨d.id, d.counter + 1, m, false⟩ : Device) [vI d.id, vI (d.counter + 1 + 1), vI nx.kind, vI nx.copy, vI nx.to, vI nx.token] (⟨d.id, d.counter + 1 + 1, nx.kind, nx.copy, nx.to, nx.token⟩ : DeviceOp) (2 : Int) w8016 ⟨_, rfl, hrdc60_b7883_2⟩ rfl s8017.lt) rfl s8017 fun v8021 w8022 s8023 m8024 k8025 r8026 => (?_)))))))
      obtain ⟨cs8027, rfl, hs8028⟩ := r8026
      have hrdc60_b7883_2 := hrdc60_b7883_2.mv m8024
      have bx8020 := bx8020.keep k8025 (by simp)
      have hbs_c60_b7883 := hbs_c60_b7883.keep k8025 (by simp)
      refine wl_s (o_move (Value.tuple #[Value.agg cs8027.toArray, vI ((actM (⟨d.id, d.counter + 1, m, false⟩ : Device) (⟨d.id, d.counter + 1 + 1, nx.kind, nx.copy, nx.to, nx.token⟩ : DeviceOp) (2 : Int)).2)]) rfl (wl_s (o_extract (Value.agg cs8027.toArray) rfl rfl (wl_s (o_extract (vI ((actM (⟨d.id, d.counter + 1, m, false⟩ : Device) (⟨d.id, d.counter + 1 + 1, nx.kind, nx.copy, nx.to, nx.token⟩ : DeviceOp) (2 : Int)).2)) rfl rfl (wl_s (o_alloc [vI (0 : Int), vI (0 : Int), Value.slice none 0 0, Value.bool false] z_31 rfl s8023 fun b8029 w8030 e8035 s8031 m8032 k8033 bx8034 => (?_))))))))
      have ne8036 : NeB b7839 b8029 := by show b7839 ≠ b8029; have := bx8020.lt; omega
      have ne8037 : NeB b7883 b8029 := by show b7883 ≠ b8029; have := hbs_c60_b7883.lt; omega
      clear e8035
      have hs8028 : Enc.device.rd w8030 ((b8029 :: Blc60) ++ O) cs8027 ((actM (⟨d.id, d.counter + 1, m, false⟩ : Device) (⟨d.id, d.counter + 1 + 1, nx.kind, nx.copy, nx.to, nx.token⟩ : DeviceOp) (2 : Int)).1) := Enc.mv Enc.device (x := (actM (⟨d.id, d.counter + 1, m, false⟩ : Device) (⟨d.id, d.counter + 1 + 1, nx.kind, nx.copy, nx.to, nx.token⟩ : DeviceOp) (2 : Int)).1) hs8028 m8032
      have hrdc60_b7883_2 := hrdc60_b7883_2.mv m8032
      have bx8020 := bx8020.keep k8033 (by simp)
      have hbs_c60_b7883 := hbs_c60_b7883.keep k8033 (by simp)
      obtain ⟨d8043, rfl, hd8044⟩ := hs8028
      have := hd8044.len_le
      refine wl_n (o_store (vs := [vI (((actM (⟨d.id, d.counter + 1, m, false⟩ : Device) (⟨d.id, d.counter + 1 + 1, nx.kind, nx.copy, nx.to, nx.token⟩ : DeviceOp) (2 : Int)).1).id), vI (((actM (⟨d.id, d.counter + 1, m, false⟩ : Device) (⟨d.id, d.counter + 1 + 1, nx.kind, nx.copy, nx.to, nx.token⟩ : DeviceOp) (2 : Int)).1).counter), d8043, Value.bool (((actM (⟨d.id, d.counter + 1, m, false⟩ : Device) (⟨d.id, d.counter + 1 + 1, nx.kind, nx.copy, nx.to, nx.token⟩ : DeviceOp) (2 : Int)).1).halted)]) (.agg #[vI (((actM (⟨d.id, d.counter + 1, m, false⟩ : Device) (⟨d.id, d.counter + 1 + 1, nx.kind, nx.copy, nx.to, nx.token⟩ : DeviceOp) (2 : Int)).1).id), vI (((actM (⟨d.id, d.counter + 1, m, false⟩ : Device) (⟨d.id, d.counter + 1 + 1, nx.kind, nx.copy, nx.to, nx.token⟩ : DeviceOp) (2 : Int)).1).counter), d8043, Value.bool (((actM (⟨d.id, d.counter + 1, m, false⟩ : Device) (⟨d.id, d.counter + 1 + 1, nx.kind, nx.copy, nx.to, nx.token⟩ : DeviceOp) (2 : Int)).1).halted)]) rfl rfl rfl s_31 (fun u hu => by simp only [List.mem_cons, List.not_mem_nil, or_false] at hu; rcases hu with rfl | rfl | rfl | rfl <;> first | rfl | exact hd8044.oneCell) (by repeat (first | assumption | constructor)) bx8034 (of_decide_eq_true rfl) s8031 fun w8038 s8039 m8040 k8041 bx8042 => (?_))
      have hrdc60_b7883_2 := hrdc60_b7883_2.mv m8040
      have bx8020 := bx8020.keep k8041 (nin1 ne8036)
      have hbs_c60_b7883 := hbs_c60_b7883.keep k8041 (nin1 ne8037)
      refine wl_s (o_assign (vI ((actM (⟨d.id, d.counter + 1, m, false⟩ : Device) (⟨d.id, d.counter + 1 + 1, nx.kind, nx.copy, nx.to, nx.token⟩ : DeviceOp) (2 : Int)).2)) rfl (wl_nil (thenQ_n (?_))))
      refine cw_seq (?_)
      refine cw_region (by kernel_rfl) (wl_s (o_loadBxA (vs := [vI d.id, vI (d.counter + 1), vrc60_b7883_2, Value.bool false]) Try.underlying31 rfl s_31 rfl hbs_c60_b7883 rfl (wl_s (o_callK (vs := [Value.agg #[vI d.id, vI (d.counter + 1), vrc60_b7883_2, Value.bool false]]) enter_44 (c_start (O := (b8029 :: Blc60) ++ O) [vI d.id, vI (d.counter + 1), vrc60_b7883_2, Value.bool false] (⟨d.id, d.counter + 1, m, false⟩ : Device) w8038 ⟨_, rfl, hrdc60_b7883_2⟩ s8039.lt) rfl s8039 fun v8045 w8046 s8047 m8048 k8049 r8050 => (?_)))))
      obtain ⟨cs8051, rfl, hs8052⟩ := r8050
      have bx8020 := bx8020.keep k8049 (by simp)
      have hbs_c60_b7883 := hbs_c60_b7883.keep k8049 (by simp)
      have bx8042 := bx8042.keep k8049 (by simp)
      refine wl_s (o_move (Value.tuple #[Value.agg cs8051.toArray, vI ((startM (⟨d.id, d.counter + 1, m, false⟩ : Device)).2)]) rfl (wl_s (o_extract (Value.agg cs8051.toArray) rfl rfl (wl_s (o_extract (vI ((startM (⟨d.id, d.counter + 1, m, false⟩ : Device)).2)) rfl rfl (wl_s (o_alloc [vI (0 : Int), vI (0 : Int), Value.slice none 0 0, Value.bool false] z_31 rfl s8047 fun b8053 w8054 e8059 s8055 m8056 k8057 bx8058 => (?_))))))))
      have ne8060 : NeB b7839 b8053 := by show b7839 ≠ b8053; have := bx8020.lt; omega
      have ne8061 : NeB b7883 b8053 := by show b7883 ≠ b8053; have := hbs_c60_b7883.lt; omega
      have ne8062 : NeB b8029 b8053 := by show b8029 ≠ b8053; have := bx8042.lt; omega
      clear e8059
      have hs8052 : Enc.device.rd w8054 ((b8053 :: (b8029 :: Blc60)) ++ O) cs8051 ((startM (⟨d.id, d.counter + 1, m, false⟩ : Device)).1) := Enc.mv Enc.device (x := (startM (⟨d.id, d.counter + 1, m, false⟩ : Device)).1) hs8052 m8056
      have bx8020 := bx8020.keep k8057 (by simp)
      have hbs_c60_b7883 := hbs_c60_b7883.keep k8057 (by simp)
      have bx8042 := bx8042.keep k8057 (by simp)
      obtain ⟨d8068, rfl, hd8069⟩ := hs8052
      have := hd8069.len_le
      refine wl_n (o_store (vs := [vI (((startM (⟨d.id, d.counter + 1, m, false⟩ : Device)).1).id), vI (((startM (⟨d.id, d.counter + 1, m, false⟩ : Device)).1).counter), d8068, Value.bool (((startM (⟨d.id, d.counter + 1, m, false⟩ : Device)).1).halted)]) (.agg #[vI (((startM (⟨d.id, d.counter + 1, m, false⟩ : Device)).1).id), vI (((startM (⟨d.id, d.counter + 1, m, false⟩ : Device)).1).counter), d8068, Value.bool (((startM (⟨d.id, d.counter + 1, m, false⟩ : Device)).1).halted)]) rfl rfl rfl s_31 (fun u hu => by simp only [List.mem_cons, List.not_mem_nil, or_false] at hu; rcases hu with rfl | rfl | rfl | rfl <;> first | rfl | exact hd8069.oneCell) (by repeat (first | assumption | constructor)) bx8058 (of_decide_eq_true rfl) s8055 fun w8063 s8064 m8065 k8066 bx8067 => (?_))
      have hd8069 := hd8069.mv m8065
      have bx8020 := bx8020.keep k8066 (nin1 ne8060)
      have hbs_c60_b7883 := hbs_c60_b7883.keep k8066 (nin1 ne8061)
      have bx8042 := bx8042.keep k8066 (nin1 ne8062)
      refine wl_s (o_assign (vI ((startM (⟨d.id, d.counter + 1, m, false⟩ : Device)).2)) rfl (wl_nil (thenQ_n (?_))))
      refine cw_seq (?_)
      refine cw_region (by kernel_rfl) (wl_s (o_loadBxA (vs := [vI (((startM (⟨d.id, d.counter + 1, m, false⟩ : Device)).1).id), vI (((startM (⟨d.id, d.counter + 1, m, false⟩ : Device)).1).counter), d8068, Value.bool (((startM (⟨d.id, d.counter + 1, m, false⟩ : Device)).1).halted)]) Try.underlying31 rfl s_31 rfl bx8067 rfl (wl_s (o_loadBxA (vs := [vI d.id, vI (d.counter + 1 + 1), vI nx.kind, vI nx.copy, vI nx.to, vI nx.token]) Try.underlying40 rfl s_40 rfl bx8020 rfl (wl_s (o_callK (vs := [Value.agg #[vI (((startM (⟨d.id, d.counter + 1, m, false⟩ : Device)).1).id), vI (((startM (⟨d.id, d.counter + 1, m, false⟩ : Device)).1).counter), d8068, Value.bool (((startM (⟨d.id, d.counter + 1, m, false⟩ : Device)).1).halted)], Value.agg #[vI d.id, vI (d.counter + 1 + 1), vI nx.kind, vI nx.copy, vI nx.to, vI nx.token], vI (2 : Int)]) enter_40 (c_act (O := (b8053 :: (b8029 :: Blc60)) ++ O) [vI (((startM (⟨d.id, d.counter + 1, m, false⟩ : Device)).1).id), vI (((startM (⟨d.id, d.counter + 1, m, false⟩ : Device)).1).counter), d8068, Value.bool (((startM (⟨d.id, d.counter + 1, m, false⟩ : Device)).1).halted)] ((startM (⟨d.id, d.counter + 1, m, false⟩ : Device)).1) [vI d.id, vI (d.counter + 1 + 1), vI nx.kind, vI nx.copy, vI nx.to, vI nx.token] (⟨d.id, d.counter + 1 + 1, nx.kind, nx.copy, nx.to, nx.token⟩ : DeviceOp) (2 : Int) w8063 ⟨_, rfl, hd8069⟩ rfl s8064.lt) rfl s8064 fun v8070 w8071 s8072 m8073 k8074 r8075 => (?_)))))))
      obtain ⟨cs8076, rfl, hs8077⟩ := r8075
      have bx8020 := bx8020.keep k8074 (by simp)
      have hbs_c60_b7883 := hbs_c60_b7883.keep k8074 (by simp)
      have bx8042 := bx8042.keep k8074 (by simp)
      have bx8067 := bx8067.keep k8074 (by simp)
      refine wl_s (o_move (Value.tuple #[Value.agg cs8076.toArray, vI ((actM ((startM (⟨d.id, d.counter + 1, m, false⟩ : Device)).1) (⟨d.id, d.counter + 1 + 1, nx.kind, nx.copy, nx.to, nx.token⟩ : DeviceOp) (2 : Int)).2)]) rfl (wl_s (o_extract (Value.agg cs8076.toArray) rfl rfl (wl_s (o_extract (vI ((actM ((startM (⟨d.id, d.counter + 1, m, false⟩ : Device)).1) (⟨d.id, d.counter + 1 + 1, nx.kind, nx.copy, nx.to, nx.token⟩ : DeviceOp) (2 : Int)).2)) rfl rfl (wl_s (o_alloc [vI (0 : Int), vI (0 : Int), Value.slice none 0 0, Value.bool false] z_31 rfl s8072 fun b8078 w8079 e8084 s8080 m8081 k8082 bx8083 => (?_))))))))
      have ne8085 : NeB b7839 b8078 := by show b7839 ≠ b8078; have := bx8020.lt; omega
      have ne8086 : NeB b7883 b8078 := by show b7883 ≠ b8078; have := hbs_c60_b7883.lt; omega
      have ne8087 : NeB b8029 b8078 := by show b8029 ≠ b8078; have := bx8042.lt; omega
      have ne8088 : NeB b8053 b8078 := by show b8053 ≠ b8078; have := bx8067.lt; omega
      clear e8084
      have hs8077 : Enc.device.rd w8079 ((b8078 :: (b8053 :: (b8029 :: Blc60))) ++ O) cs8076 ((actM ((startM (⟨d.id, d.counter + 1, m, false⟩ : Device)).1) (⟨d.id, d.counter + 1 + 1, nx.kind, nx.copy, nx.to, nx.token⟩ : DeviceOp) (2 : Int)).1) := Enc.mv Enc.device (x := (actM ((startM (⟨d.id, d.counter + 1, m, false⟩ : Device)).1) (⟨d.id, d.counter + 1 + 1, nx.kind, nx.copy, nx.to, nx.token⟩ : DeviceOp) (2 : Int)).1) hs8077 m8081
      have bx8067 := bx8067.keep k8082 (by simp)
      obtain ⟨d8094, rfl, hd8095⟩ := hs8077
      have := hd8095.len_le
      refine wl_n (o_store (vs := [vI (((actM ((startM (⟨d.id, d.counter + 1, m, false⟩ : Device)).1) (⟨d.id, d.counter + 1 + 1, nx.kind, nx.copy, nx.to, nx.token⟩ : DeviceOp) (2 : Int)).1).id), vI (((actM ((startM (⟨d.id, d.counter + 1, m, false⟩ : Device)).1) (⟨d.id, d.counter + 1 + 1, nx.kind, nx.copy, nx.to, nx.token⟩ : DeviceOp) (2 : Int)).1).counter), d8094, Value.bool (((actM ((startM (⟨d.id, d.counter + 1, m, false⟩ : Device)).1) (⟨d.id, d.counter + 1 + 1, nx.kind, nx.copy, nx.to, nx.token⟩ : DeviceOp) (2 : Int)).1).halted)]) (.agg #[vI (((actM ((startM (⟨d.id, d.counter + 1, m, false⟩ : Device)).1) (⟨d.id, d.counter + 1 + 1, nx.kind, nx.copy, nx.to, nx.token⟩ : DeviceOp) (2 : Int)).1).id), vI (((actM ((startM (⟨d.id, d.counter + 1, m, false⟩ : Device)).1) (⟨d.id, d.counter + 1 + 1, nx.kind, nx.copy, nx.to, nx.token⟩ : DeviceOp) (2 : Int)).1).counter), d8094, Value.bool (((actM ((startM (⟨d.id, d.counter + 1, m, false⟩ : Device)).1) (⟨d.id, d.counter + 1 + 1, nx.kind, nx.copy, nx.to, nx.token⟩ : DeviceOp) (2 : Int)).1).halted)]) rfl rfl rfl s_31 (fun u hu => by simp only [List.mem_cons, List.not_mem_nil, or_false] at hu; rcases hu with rfl | rfl | rfl | rfl <;> first | rfl | exact hd8095.oneCell) (by repeat (first | assumption | constructor)) bx8083 (of_decide_eq_true rfl) s8080 fun w8089 s8090 m8091 k8092 bx8093 => (?_))
      have bx8067 := bx8067.keep k8092 (nin1 ne8088)
      refine wl_s (o_assign (vI ((actM ((startM (⟨d.id, d.counter + 1, m, false⟩ : Device)).1) (⟨d.id, d.counter + 1 + 1, nx.kind, nx.copy, nx.to, nx.token⟩ : DeviceOp) (2 : Int)).2)) rfl (wl_nil (thenQ_n (?_))))
      refine cw_seq (?_)
      refine cw_region (by kernel_rfl) (wl_s (o_move (vI ((actM (⟨d.id, d.counter + 1, m, false⟩ : Device) (⟨d.id, d.counter + 1 + 1, nx.kind, nx.copy, nx.to, nx.token⟩ : DeviceOp) (2 : Int)).2)) rfl (wl_s (o_eql .i64 ((actM (⟨d.id, d.counter + 1, m, false⟩ : Device) (⟨d.id, d.counter + 1 + 1, nx.kind, nx.copy, nx.to, nx.token⟩ : DeviceOp) (2 : Int)).2) (430 : Int) rfl rfl (wl_s (o_move (Value.bool (((actM (⟨d.id, d.counter + 1, m, false⟩ : Device) (⟨d.id, d.counter + 1 + 1, nx.kind, nx.copy, nx.to, nx.token⟩ : DeviceOp) (2 : Int)).2) == (430 : Int))) rfl (?_)))))))
      have hb8096 : (((actM (⟨d.id, d.counter + 1, m, false⟩ : Device) (⟨d.id, d.counter + 1 + 1, nx.kind, nx.copy, nx.to, nx.token⟩ : DeviceOp) (2 : Int)).2) == (430 : Int)) = true := (by first | (rw [stop_act hrc60_0]; done) | (rw [stop_act hrc60_0]; rfl) | (rw [stop_start hrc60_0]; rfl) | (rw [stop_start hrc60_0, stop_act hrc60_0]; rfl))
      rw [hb8096]
      refine wl_t rfl (o_move (vI ((startM (⟨d.id, d.counter + 1, m, false⟩ : Device)).2)) rfl (wl_t rfl (o_eql .i64 ((startM (⟨d.id, d.counter + 1, m, false⟩ : Device)).2) (430 : Int) rfl rfl (wl_s (o_pickT (Value.bool (((startM (⟨d.id, d.counter + 1, m, false⟩ : Device)).2) == (430 : Int))) rfl rfl (wl_s (o_move (Value.bool (((startM (⟨d.id, d.counter + 1, m, false⟩ : Device)).2) == (430 : Int))) rfl (?_))))))))
      have hb8097 : (((startM (⟨d.id, d.counter + 1, m, false⟩ : Device)).2) == (430 : Int)) = true := (by first | (rw [stop_act hrc60_0]; done) | (rw [stop_act hrc60_0]; rfl) | (rw [stop_start hrc60_0]; rfl) | (rw [stop_start hrc60_0, stop_act hrc60_0]; rfl))
      rw [hb8097]
      refine wl_t rfl (o_fieldL 3 f_31_3 rfl (wl_t rfl (o_loadBx Try.underlying4 rfl (Value.bool (((startM (⟨d.id, d.counter + 1, m, false⟩ : Device)).1).halted)) rfl bx8067 rfl (wl_s (o_pickT (Value.bool (((startM (⟨d.id, d.counter + 1, m, false⟩ : Device)).1).halted)) rfl rfl (wl_s (o_move (Value.bool (((startM (⟨d.id, d.counter + 1, m, false⟩ : Device)).1).halted)) rfl (?_))))))))
      have hb8098 : (((startM (⟨d.id, d.counter + 1, m, false⟩ : Device)).1).halted) = true := (by rw [stop_start hrc60_0])
      rw [hb8098]
      refine wl_t rfl (o_move (vI ((actM ((startM (⟨d.id, d.counter + 1, m, false⟩ : Device)).1) (⟨d.id, d.counter + 1 + 1, nx.kind, nx.copy, nx.to, nx.token⟩ : DeviceOp) (2 : Int)).2)) rfl (wl_t rfl (o_eql .i64 ((actM ((startM (⟨d.id, d.counter + 1, m, false⟩ : Device)).1) (⟨d.id, d.counter + 1 + 1, nx.kind, nx.copy, nx.to, nx.token⟩ : DeviceOp) (2 : Int)).2) (430 : Int) rfl rfl (wl_s (o_pickT (Value.bool (((actM ((startM (⟨d.id, d.counter + 1, m, false⟩ : Device)).1) (⟨d.id, d.counter + 1 + 1, nx.kind, nx.copy, nx.to, nx.token⟩ : DeviceOp) (2 : Int)).2) == (430 : Int))) rfl rfl (wl_s (o_assign (Value.bool (((actM ((startM (⟨d.id, d.counter + 1, m, false⟩ : Device)).1) (⟨d.id, d.counter + 1 + 1, nx.kind, nx.copy, nx.to, nx.token⟩ : DeviceOp) (2 : Int)).2) == (430 : Int))) rfl (wl_nil (thenQ_n (?_))))))))))
      refine cw_ret (end_r rfl (res1 rfl rfl rfl) (?_))
      have e : true = (((actM ((startM (⟨d.id, d.counter + 1, m, false⟩ : Device)).1) (⟨d.id, d.counter + 1 + 1, nx.kind, nx.copy, nx.to, nx.token⟩ : DeviceOp) (2 : Int)).2) == (430 : Int)) := by first | rfl | (rw [act_err (by assumption)]; rfl) | exact (by rw [stop_start hrc60_0, stop_act hrc60_0]; rfl)
      exact ⟨_, rfl, s8090.keep, (by first | exact congrArg Value.bool e.symm | rfl)⟩
     ·intro cx_ hcx_
      match cx_, hcx_ with
      | 0, _ =>
       intro F8100 w8101 k8099 hT8102 hF8103
       have s8104 := slc60.call k8099
       have m8105 : Mv Blc60 wlc60 Blc60 w8101 := Mv.of_keep k8099
       have bx7844 := bx7844.keep k8099 (by simp)
       have hrdc60_b7883_2 := hrdc60_b7883_2.mv m8105
       have hbs_c60_b7883 := hbs_c60_b7883.keep k8099 (by simp)
       obtain ⟨F2, rfl⟩ := lit_of (F := F8100) [(7, Value.pointer (some ⟨b7839, 0, none⟩)), (11, Value.pointer (some ⟨b7883, 0, none⟩)), (98, undef), (61, vI d.id), (65, Value.pointer (some ⟨b7839, 0, none⟩))] ⟨hF8103 7 (by kernel_rfl), hF8103 11 (by kernel_rfl), hF8103 98 (by kernel_rfl), hT8102 1 61 (by kernel_rfl) (by decide) (by decide), hT8102 5 65 (by kernel_rfl) (by decide) (by decide), trivial⟩
       clear hT8102 hF8103
       refine wl_n (o_store1 (vI d.id) rfl rfl rfl s_3 (by repeat (first | assumption | constructor)) bx7844 (of_decide_eq_true rfl) s8104 fun w8108 s8109 m8110 k8111 bx8112 => (?_))
       have hrdc60_b7883_2 := hrdc60_b7883_2.mv m8110
       have hbs_c60_b7883 := hbs_c60_b7883.keep k8111 (nin1 (Ne.symm ne7890))
       refine wl_s (o_fieldL 1 f_31_1 rfl (wl_s (o_loadBx Try.underlying3 rfl (vI (d.counter + 1)) rfl hbs_c60_b7883 rfl (wl_s (o_add .i64 (d.counter + 1) (1 : Int) (d.counter + 1 + 1) rfl rfl (w64 (by have := hrc60_0.2.2.2.2.1; have := hrc60_0.2.2.2.2.2; omega) rfl) (wl_s (o_fieldL 1 f_40_1 rfl (wl_n (o_store1 (vI (d.counter + 1 + 1)) rfl rfl rfl s_3 (by repeat (first | assumption | constructor)) bx8112 (of_decide_eq_true rfl) s8109 fun w8113 s8114 m8115 k8116 bx8117 => (?_))))))))))
       have hrdc60_b7883_2 := hrdc60_b7883_2.mv m8115
       have hbs_c60_b7883 := hbs_c60_b7883.keep k8116 (nin1 (Ne.symm ne7890))
       refine wl_nil (thenQ_n (?_))
       refine cw_seq (?_)
       refine cw_region (by kernel_rfl) (wl_s (o_loadBxA (vs := [vI d.id, vI (d.counter + 1), vrc60_b7883_2, Value.bool false]) Try.underlying31 rfl s_31 rfl hbs_c60_b7883 rfl (wl_s (o_loadBxA (vs := [vI d.id, vI (d.counter + 1 + 1), vI nx.kind, vI nx.copy, vI nx.to, vI nx.token]) Try.underlying40 rfl s_40 rfl bx8117 rfl (wl_s (o_callK (vs := [Value.agg #[vI d.id, vI (d.counter + 1), vrc60_b7883_2, Value.bool false], Value.agg #[vI d.id, vI (d.counter + 1 + 1), vI nx.kind, vI nx.copy, vI nx.to, vI nx.token], vI (2 : Int)]) enter_40 (c_act (O := Blc60 ++ O) [vI d.id, vI (d.counter + 1), vrc60_b7883_2, Value.bool false] (⟨d.id, d.counter + 1, m, false⟩ : Device) [vI d.id, vI (d.counter + 1 + 1), vI nx.kind, vI nx.copy, vI nx.to, vI nx.token] (⟨d.id, d.counter + 1 + 1, nx.kind, nx.copy, nx.to, nx.token⟩ : DeviceOp) (2 : Int) w8113 ⟨_, rfl, hrdc60_b7883_2⟩ rfl s8114.lt) rfl s8114 fun v8118 w8119 s8120 m8121 k8122 r8123 => (?_)))))))
       obtain ⟨cs8124, rfl, hs8125⟩ := r8123
       have hrdc60_b7883_2 := hrdc60_b7883_2.mv m8121
       have bx8117 := bx8117.keep k8122 (by simp)
       have hbs_c60_b7883 := hbs_c60_b7883.keep k8122 (by simp)
       refine wl_s (o_move (Value.tuple #[Value.agg cs8124.toArray, vI ((actM (⟨d.id, d.counter + 1, m, false⟩ : Device) (⟨d.id, d.counter + 1 + 1, nx.kind, nx.copy, nx.to, nx.token⟩ : DeviceOp) (2 : Int)).2)]) rfl (wl_s (o_extract (Value.agg cs8124.toArray) rfl rfl (wl_s (o_extract (vI ((actM (⟨d.id, d.counter + 1, m, false⟩ : Device) (⟨d.id, d.counter + 1 + 1, nx.kind, nx.copy, nx.to, nx.token⟩ : DeviceOp) (2 : Int)).2)) rfl rfl (wl_s (o_alloc [vI (0 : Int), vI (0 : Int), Value.slice none 0 0, Value.bool false] z_31 rfl s8120 fun b8126 w8127 e8132 s8128 m8129 k8130 bx8131 => (?_))))))))
       have ne8133 : NeB b7839 b8126 := by show b7839 ≠ b8126; have := bx8117.lt; omega
       have ne8134 : NeB b7883 b8126 := by show b7883 ≠ b8126; have := hbs_c60_b7883.lt; omega
       clear e8132
       have hs8125 : Enc.device.rd w8127 ((b8126 :: Blc60) ++ O) cs8124 ((actM (⟨d.id, d.counter + 1, m, false⟩ : Device) (⟨d.id, d.counter + 1 + 1, nx.kind, nx.copy, nx.to, nx.token⟩ : DeviceOp) (2 : Int)).1) := Enc.mv Enc.device (x := (actM (⟨d.id, d.counter + 1, m, false⟩ : Device) (⟨d.id, d.counter + 1 + 1, nx.kind, nx.copy, nx.to, nx.token⟩ : DeviceOp) (2 : Int)).1) hs8125 m8129
       have hrdc60_b7883_2 := hrdc60_b7883_2.mv m8129
       have bx8117 := bx8117.keep k8130 (by simp)
       have hbs_c60_b7883 := hbs_c60_b7883.keep k8130 (by simp)
       obtain ⟨d8140, rfl, hd8141⟩ := hs8125
       have := hd8141.len_le
       refine wl_n (o_store (vs := [vI (((actM (⟨d.id, d.counter + 1, m, false⟩ : Device) (⟨d.id, d.counter + 1 + 1, nx.kind, nx.copy, nx.to, nx.token⟩ : DeviceOp) (2 : Int)).1).id), vI (((actM (⟨d.id, d.counter + 1, m, false⟩ : Device) (⟨d.id, d.counter + 1 + 1, nx.kind, nx.copy, nx.to, nx.token⟩ : DeviceOp) (2 : Int)).1).counter), d8140, Value.bool (((actM (⟨d.id, d.counter + 1, m, false⟩ : Device) (⟨d.id, d.counter + 1 + 1, nx.kind, nx.copy, nx.to, nx.token⟩ : DeviceOp) (2 : Int)).1).halted)]) (.agg #[vI (((actM (⟨d.id, d.counter + 1, m, false⟩ : Device) (⟨d.id, d.counter + 1 + 1, nx.kind, nx.copy, nx.to, nx.token⟩ : DeviceOp) (2 : Int)).1).id), vI (((actM (⟨d.id, d.counter + 1, m, false⟩ : Device) (⟨d.id, d.counter + 1 + 1, nx.kind, nx.copy, nx.to, nx.token⟩ : DeviceOp) (2 : Int)).1).counter), d8140, Value.bool (((actM (⟨d.id, d.counter + 1, m, false⟩ : Device) (⟨d.id, d.counter + 1 + 1, nx.kind, nx.copy, nx.to, nx.token⟩ : DeviceOp) (2 : Int)).1).halted)]) rfl rfl rfl s_31 (fun u hu => by simp only [List.mem_cons, List.not_mem_nil, or_false] at hu; rcases hu with rfl | rfl | rfl | rfl <;> first | rfl | exact hd8141.oneCell) (by repeat (first | assumption | constructor)) bx8131 (of_decide_eq_true rfl) s8128 fun w8135 s8136 m8137 k8138 bx8139 => (?_))
       have hrdc60_b7883_2 := hrdc60_b7883_2.mv m8137
       have bx8117 := bx8117.keep k8138 (nin1 ne8133)
       have hbs_c60_b7883 := hbs_c60_b7883.keep k8138 (nin1 ne8134)
       refine wl_s (o_assign (vI ((actM (⟨d.id, d.counter + 1, m, false⟩ : Device) (⟨d.id, d.counter + 1 + 1, nx.kind, nx.copy, nx.to, nx.token⟩ : DeviceOp) (2 : Int)).2)) rfl (wl_nil (thenQ_n (?_))))
       refine cw_seq (?_)
       refine cw_region (by kernel_rfl) (wl_s (o_loadBxA (vs := [vI d.id, vI (d.counter + 1), vrc60_b7883_2, Value.bool false]) Try.underlying31 rfl s_31 rfl hbs_c60_b7883 rfl (wl_s (o_callK (vs := [Value.agg #[vI d.id, vI (d.counter + 1), vrc60_b7883_2, Value.bool false]]) enter_44 (c_start (O := (b8126 :: Blc60) ++ O) [vI d.id, vI (d.counter + 1), vrc60_b7883_2, Value.bool false] (⟨d.id, d.counter + 1, m, false⟩ : Device) w8135 ⟨_, rfl, hrdc60_b7883_2⟩ s8136.lt) rfl s8136 fun v8142 w8143 s8144 m8145 k8146 r8147 => (?_)))))
       obtain ⟨cs8148, rfl, hs8149⟩ := r8147
       have bx8117 := bx8117.keep k8146 (by simp)
       have hbs_c60_b7883 := hbs_c60_b7883.keep k8146 (by simp)
       have bx8139 := bx8139.keep k8146 (by simp)
       refine wl_s (o_move (Value.tuple #[Value.agg cs8148.toArray, vI ((startM (⟨d.id, d.counter + 1, m, false⟩ : Device)).2)]) rfl (wl_s (o_extract (Value.agg cs8148.toArray) rfl rfl (wl_s (o_extract (vI ((startM (⟨d.id, d.counter + 1, m, false⟩ : Device)).2)) rfl rfl (wl_s (o_alloc [vI (0 : Int), vI (0 : Int), Value.slice none 0 0, Value.bool false] z_31 rfl s8144 fun b8150 w8151 e8156 s8152 m8153 k8154 bx8155 => (?_))))))))
       have ne8157 : NeB b7839 b8150 := by show b7839 ≠ b8150; have := bx8117.lt; omega
       have ne8158 : NeB b7883 b8150 := by show b7883 ≠ b8150; have := hbs_c60_b7883.lt; omega
       have ne8159 : NeB b8126 b8150 := by show b8126 ≠ b8150; have := bx8139.lt; omega
       clear e8156
       have hs8149 : Enc.device.rd w8151 ((b8150 :: (b8126 :: Blc60)) ++ O) cs8148 ((startM (⟨d.id, d.counter + 1, m, false⟩ : Device)).1) := Enc.mv Enc.device (x := (startM (⟨d.id, d.counter + 1, m, false⟩ : Device)).1) hs8149 m8153
       have bx8117 := bx8117.keep k8154 (by simp)
       have hbs_c60_b7883 := hbs_c60_b7883.keep k8154 (by simp)
       have bx8139 := bx8139.keep k8154 (by simp)
       obtain ⟨d8165, rfl, hd8166⟩ := hs8149
       have := hd8166.len_le
       refine wl_n (o_store (vs := [vI (((startM (⟨d.id, d.counter + 1, m, false⟩ : Device)).1).id), vI (((startM (⟨d.id, d.counter + 1, m, false⟩ : Device)).1).counter), d8165, Value.bool (((startM (⟨d.id, d.counter + 1, m, false⟩ : Device)).1).halted)]) (.agg #[vI (((startM (⟨d.id, d.counter + 1, m, false⟩ : Device)).1).id), vI (((startM (⟨d.id, d.counter + 1, m, false⟩ : Device)).1).counter), d8165, Value.bool (((startM (⟨d.id, d.counter + 1, m, false⟩ : Device)).1).halted)]) rfl rfl rfl s_31 (fun u hu => by simp only [List.mem_cons, List.not_mem_nil, or_false] at hu; rcases hu with rfl | rfl | rfl | rfl <;> first | rfl | exact hd8166.oneCell) (by repeat (first | assumption | constructor)) bx8155 (of_decide_eq_true rfl) s8152 fun w8160 s8161 m8162 k8163 bx8164 => (?_))
       have hd8166 := hd8166.mv m8162
       have bx8117 := bx8117.keep k8163 (nin1 ne8157)
       have hbs_c60_b7883 := hbs_c60_b7883.keep k8163 (nin1 ne8158)
       have bx8139 := bx8139.keep k8163 (nin1 ne8159)
       refine wl_s (o_assign (vI ((startM (⟨d.id, d.counter + 1, m, false⟩ : Device)).2)) rfl (wl_nil (thenQ_n (?_))))
       refine cw_seq (?_)
       refine cw_region (by kernel_rfl) (wl_s (o_loadBxA (vs := [vI (((startM (⟨d.id, d.counter + 1, m, false⟩ : Device)).1).id), vI (((startM (⟨d.id, d.counter + 1, m, false⟩ : Device)).1).counter), d8165, Value.bool (((startM (⟨d.id, d.counter + 1, m, false⟩ : Device)).1).halted)]) Try.underlying31 rfl s_31 rfl bx8164 rfl (wl_s (o_loadBxA (vs := [vI d.id, vI (d.counter + 1 + 1), vI nx.kind, vI nx.copy, vI nx.to, vI nx.token]) Try.underlying40 rfl s_40 rfl bx8117 rfl (wl_s (o_callK (vs := [Value.agg #[vI (((startM (⟨d.id, d.counter + 1, m, false⟩ : Device)).1).id), vI (((startM (⟨d.id, d.counter + 1, m, false⟩ : Device)).1).counter), d8165, Value.bool (((startM (⟨d.id, d.counter + 1, m, false⟩ : Device)).1).halted)], Value.agg #[vI d.id, vI (d.counter + 1 + 1), vI nx.kind, vI nx.copy, vI nx.to, vI nx.token], vI (2 : Int)]) enter_40 (c_act (O := (b8150 :: (b8126 :: Blc60)) ++ O) [vI (((startM (⟨d.id, d.counter + 1, m, false⟩ : Device)).1).id), vI (((startM (⟨d.id, d.counter + 1, m, false⟩ : Device)).1).counter), d8165, Value.bool (((startM (⟨d.id, d.counter + 1, m, false⟩ : Device)).1).halted)] ((startM (⟨d.id, d.counter + 1, m, false⟩ : Device)).1) [vI d.id, vI (d.counter + 1 + 1), vI nx.kind, vI nx.copy, vI nx.to, vI nx.token] (⟨d.id, d.counter + 1 + 1, nx.kind, nx.copy, nx.to, nx.token⟩ : DeviceOp) (2 : Int) w8160 ⟨_, rfl, hd8166⟩ rfl s8161.lt) rfl s8161 fun v8167 w8168 s8169 m8170 k8171 r8172 => (?_)))))))
       obtain ⟨cs8173, rfl, hs8174⟩ := r8172
       have bx8117 := bx8117.keep k8171 (by simp)
       have hbs_c60_b7883 := hbs_c60_b7883.keep k8171 (by simp)
       have bx8139 := bx8139.keep k8171 (by simp)
       have bx8164 := bx8164.keep k8171 (by simp)
       refine wl_s (o_move (Value.tuple #[Value.agg cs8173.toArray, vI ((actM ((startM (⟨d.id, d.counter + 1, m, false⟩ : Device)).1) (⟨d.id, d.counter + 1 + 1, nx.kind, nx.copy, nx.to, nx.token⟩ : DeviceOp) (2 : Int)).2)]) rfl (wl_s (o_extract (Value.agg cs8173.toArray) rfl rfl (wl_s (o_extract (vI ((actM ((startM (⟨d.id, d.counter + 1, m, false⟩ : Device)).1) (⟨d.id, d.counter + 1 + 1, nx.kind, nx.copy, nx.to, nx.token⟩ : DeviceOp) (2 : Int)).2)) rfl rfl (wl_s (o_alloc [vI (0 : Int), vI (0 : Int), Value.slice none 0 0, Value.bool false] z_31 rfl s8169 fun b8175 w8176 e8181 s8177 m8178 k8179 bx8180 => (?_))))))))
       have ne8182 : NeB b7839 b8175 := by show b7839 ≠ b8175; have := bx8117.lt; omega
       have ne8183 : NeB b7883 b8175 := by show b7883 ≠ b8175; have := hbs_c60_b7883.lt; omega
       have ne8184 : NeB b8126 b8175 := by show b8126 ≠ b8175; have := bx8139.lt; omega
       have ne8185 : NeB b8150 b8175 := by show b8150 ≠ b8175; have := bx8164.lt; omega
       clear e8181
       have hs8174 : Enc.device.rd w8176 ((b8175 :: (b8150 :: (b8126 :: Blc60))) ++ O) cs8173 ((actM ((startM (⟨d.id, d.counter + 1, m, false⟩ : Device)).1) (⟨d.id, d.counter + 1 + 1, nx.kind, nx.copy, nx.to, nx.token⟩ : DeviceOp) (2 : Int)).1) := Enc.mv Enc.device (x := (actM ((startM (⟨d.id, d.counter + 1, m, false⟩ : Device)).1) (⟨d.id, d.counter + 1 + 1, nx.kind, nx.copy, nx.to, nx.token⟩ : DeviceOp) (2 : Int)).1) hs8174 m8178
       have bx8164 := bx8164.keep k8179 (by simp)
       obtain ⟨d8191, rfl, hd8192⟩ := hs8174
       have := hd8192.len_le
       refine wl_n (o_store (vs := [vI (((actM ((startM (⟨d.id, d.counter + 1, m, false⟩ : Device)).1) (⟨d.id, d.counter + 1 + 1, nx.kind, nx.copy, nx.to, nx.token⟩ : DeviceOp) (2 : Int)).1).id), vI (((actM ((startM (⟨d.id, d.counter + 1, m, false⟩ : Device)).1) (⟨d.id, d.counter + 1 + 1, nx.kind, nx.copy, nx.to, nx.token⟩ : DeviceOp) (2 : Int)).1).counter), d8191, Value.bool (((actM ((startM (⟨d.id, d.counter + 1, m, false⟩ : Device)).1) (⟨d.id, d.counter + 1 + 1, nx.kind, nx.copy, nx.to, nx.token⟩ : DeviceOp) (2 : Int)).1).halted)]) (.agg #[vI (((actM ((startM (⟨d.id, d.counter + 1, m, false⟩ : Device)).1) (⟨d.id, d.counter + 1 + 1, nx.kind, nx.copy, nx.to, nx.token⟩ : DeviceOp) (2 : Int)).1).id), vI (((actM ((startM (⟨d.id, d.counter + 1, m, false⟩ : Device)).1) (⟨d.id, d.counter + 1 + 1, nx.kind, nx.copy, nx.to, nx.token⟩ : DeviceOp) (2 : Int)).1).counter), d8191, Value.bool (((actM ((startM (⟨d.id, d.counter + 1, m, false⟩ : Device)).1) (⟨d.id, d.counter + 1 + 1, nx.kind, nx.copy, nx.to, nx.token⟩ : DeviceOp) (2 : Int)).1).halted)]) rfl rfl rfl s_31 (fun u hu => by simp only [List.mem_cons, List.not_mem_nil, or_false] at hu; rcases hu with rfl | rfl | rfl | rfl <;> first | rfl | exact hd8192.oneCell) (by repeat (first | assumption | constructor)) bx8180 (of_decide_eq_true rfl) s8177 fun w8186 s8187 m8188 k8189 bx8190 => (?_))
       have bx8164 := bx8164.keep k8189 (nin1 ne8185)
       refine wl_s (o_assign (vI ((actM ((startM (⟨d.id, d.counter + 1, m, false⟩ : Device)).1) (⟨d.id, d.counter + 1 + 1, nx.kind, nx.copy, nx.to, nx.token⟩ : DeviceOp) (2 : Int)).2)) rfl (wl_nil (thenQ_n (?_))))
       refine cw_seq (?_)
       refine cw_region (by kernel_rfl) (wl_s (o_move (vI ((actM (⟨d.id, d.counter + 1, m, false⟩ : Device) (⟨d.id, d.counter + 1 + 1, nx.kind, nx.copy, nx.to, nx.token⟩ : DeviceOp) (2 : Int)).2)) rfl (wl_s (o_eql .i64 ((actM (⟨d.id, d.counter + 1, m, false⟩ : Device) (⟨d.id, d.counter + 1 + 1, nx.kind, nx.copy, nx.to, nx.token⟩ : DeviceOp) (2 : Int)).2) (430 : Int) rfl rfl (wl_s (o_move (Value.bool (((actM (⟨d.id, d.counter + 1, m, false⟩ : Device) (⟨d.id, d.counter + 1 + 1, nx.kind, nx.copy, nx.to, nx.token⟩ : DeviceOp) (2 : Int)).2) == (430 : Int))) rfl (?_)))))))
       have hb8193 : (((actM (⟨d.id, d.counter + 1, m, false⟩ : Device) (⟨d.id, d.counter + 1 + 1, nx.kind, nx.copy, nx.to, nx.token⟩ : DeviceOp) (2 : Int)).2) == (430 : Int)) = true := (by first | (rw [stop_act hrc60_0]; done) | (rw [stop_act hrc60_0]; rfl) | (rw [stop_start hrc60_0]; rfl) | (rw [stop_start hrc60_0, stop_act hrc60_0]; rfl))
       rw [hb8193]
       refine wl_t rfl (o_move (vI ((startM (⟨d.id, d.counter + 1, m, false⟩ : Device)).2)) rfl (wl_t rfl (o_eql .i64 ((startM (⟨d.id, d.counter + 1, m, false⟩ : Device)).2) (430 : Int) rfl rfl (wl_s (o_pickT (Value.bool (((startM (⟨d.id, d.counter + 1, m, false⟩ : Device)).2) == (430 : Int))) rfl rfl (wl_s (o_move (Value.bool (((startM (⟨d.id, d.counter + 1, m, false⟩ : Device)).2) == (430 : Int))) rfl (?_))))))))
       have hb8194 : (((startM (⟨d.id, d.counter + 1, m, false⟩ : Device)).2) == (430 : Int)) = true := (by first | (rw [stop_act hrc60_0]; done) | (rw [stop_act hrc60_0]; rfl) | (rw [stop_start hrc60_0]; rfl) | (rw [stop_start hrc60_0, stop_act hrc60_0]; rfl))
       rw [hb8194]
       refine wl_t rfl (o_fieldL 3 f_31_3 rfl (wl_t rfl (o_loadBx Try.underlying4 rfl (Value.bool (((startM (⟨d.id, d.counter + 1, m, false⟩ : Device)).1).halted)) rfl bx8164 rfl (wl_s (o_pickT (Value.bool (((startM (⟨d.id, d.counter + 1, m, false⟩ : Device)).1).halted)) rfl rfl (wl_s (o_move (Value.bool (((startM (⟨d.id, d.counter + 1, m, false⟩ : Device)).1).halted)) rfl (?_))))))))
       have hb8195 : (((startM (⟨d.id, d.counter + 1, m, false⟩ : Device)).1).halted) = true := (by rw [stop_start hrc60_0])
       rw [hb8195]
       refine wl_t rfl (o_move (vI ((actM ((startM (⟨d.id, d.counter + 1, m, false⟩ : Device)).1) (⟨d.id, d.counter + 1 + 1, nx.kind, nx.copy, nx.to, nx.token⟩ : DeviceOp) (2 : Int)).2)) rfl (wl_t rfl (o_eql .i64 ((actM ((startM (⟨d.id, d.counter + 1, m, false⟩ : Device)).1) (⟨d.id, d.counter + 1 + 1, nx.kind, nx.copy, nx.to, nx.token⟩ : DeviceOp) (2 : Int)).2) (430 : Int) rfl rfl (wl_s (o_pickT (Value.bool (((actM ((startM (⟨d.id, d.counter + 1, m, false⟩ : Device)).1) (⟨d.id, d.counter + 1 + 1, nx.kind, nx.copy, nx.to, nx.token⟩ : DeviceOp) (2 : Int)).2) == (430 : Int))) rfl rfl (wl_s (o_assign (Value.bool (((actM ((startM (⟨d.id, d.counter + 1, m, false⟩ : Device)).1) (⟨d.id, d.counter + 1 + 1, nx.kind, nx.copy, nx.to, nx.token⟩ : DeviceOp) (2 : Int)).2) == (430 : Int))) rfl (wl_nil (thenQ_n (?_))))))))))
       refine cw_ret (end_r rfl (res1 rfl rfl rfl) (?_))
       have e : true = (((actM ((startM (⟨d.id, d.counter + 1, m, false⟩ : Device)).1) (⟨d.id, d.counter + 1 + 1, nx.kind, nx.copy, nx.to, nx.token⟩ : DeviceOp) (2 : Int)).2) == (430 : Int)) := by first | rfl | (rw [act_err (by assumption)]; rfl) | exact (by rw [stop_start hrc60_0, stop_act hrc60_0]; rfl)
       exact ⟨_, rfl, s8187.keep, (by first | exact congrArg Value.bool e.symm | rfl)⟩
      | 1, _ =>
       intro F8197 w8198 k8196 hT8199 hF8200
       have s8201 := slc60.call k8196
       have m8202 : Mv Blc60 wlc60 Blc60 w8198 := Mv.of_keep k8196
       have bx7844 := bx7844.keep k8196 (by simp)
       have hrdc60_b7883_2 := hrdc60_b7883_2.mv m8202
       have hbs_c60_b7883 := hbs_c60_b7883.keep k8196 (by simp)
       obtain ⟨F2, rfl⟩ := lit_of (F := F8197) [(7, Value.pointer (some ⟨b7839, 0, none⟩)), (11, Value.pointer (some ⟨b7883, 0, none⟩)), (98, undef), (61, vI d.id), (62, Value.pointer (some ⟨b7883, 1, none⟩)), (65, Value.pointer (some ⟨b7839, 0, none⟩))] ⟨hF8200 7 (by kernel_rfl), hF8200 11 (by kernel_rfl), hF8200 98 (by kernel_rfl), hT8199 1 61 (by kernel_rfl) (by decide) (by decide), hT8199 2 62 (by kernel_rfl) (by decide) (by decide), hT8199 5 65 (by kernel_rfl) (by decide) (by decide), trivial⟩
       clear hT8199 hF8200
       refine wl_n (o_store1 (vI d.id) rfl rfl rfl s_3 (by repeat (first | assumption | constructor)) bx7844 (of_decide_eq_true rfl) s8201 fun w8205 s8206 m8207 k8208 bx8209 => (?_))
       have hrdc60_b7883_2 := hrdc60_b7883_2.mv m8207
       have hbs_c60_b7883 := hbs_c60_b7883.keep k8208 (nin1 (Ne.symm ne7890))
       refine wl_s (o_loadBx Try.underlying3 rfl (vI (d.counter + 1)) rfl hbs_c60_b7883 rfl (wl_s (o_add .i64 (d.counter + 1) (1 : Int) (d.counter + 1 + 1) rfl rfl (w64 (by have := hrc60_0.2.2.2.2.1; have := hrc60_0.2.2.2.2.2; omega) rfl) (wl_s (o_fieldL 1 f_40_1 rfl (wl_n (o_store1 (vI (d.counter + 1 + 1)) rfl rfl rfl s_3 (by repeat (first | assumption | constructor)) bx8209 (of_decide_eq_true rfl) s8206 fun w8210 s8211 m8212 k8213 bx8214 => (?_))))))))
       have hrdc60_b7883_2 := hrdc60_b7883_2.mv m8212
       have hbs_c60_b7883 := hbs_c60_b7883.keep k8213 (nin1 (Ne.symm ne7890))
       refine wl_nil (thenQ_n (?_))
       refine cw_seq (?_)
       refine cw_region (by kernel_rfl) (wl_s (o_loadBxA (vs := [vI d.id, vI (d.counter + 1), vrc60_b7883_2, Value.bool false]) Try.underlying31 rfl s_31 rfl hbs_c60_b7883 rfl (wl_s (o_loadBxA (vs := [vI d.id, vI (d.counter + 1 + 1), vI nx.kind, vI nx.copy, vI nx.to, vI nx.token]) Try.underlying40 rfl s_40 rfl bx8214 rfl (wl_s (o_callK (vs := [Value.agg #[vI d.id, vI (d.counter + 1), vrc60_b7883_2, Value.bool false], Value.agg #[vI d.id, vI (d.counter + 1 + 1), vI nx.kind, vI nx.copy, vI nx.to, vI nx.token], vI (2 : Int)]) enter_40 (c_act (O := Blc60 ++ O) [vI d.id, vI (d.counter + 1), vrc60_b7883_2, Value.bool false] (⟨d.id, d.counter + 1, m, false⟩ : Device) [vI d.id, vI (d.counter + 1 + 1), vI nx.kind, vI nx.copy, vI nx.to, vI nx.token] (⟨d.id, d.counter + 1 + 1, nx.kind, nx.copy, nx.to, nx.token⟩ : DeviceOp) (2 : Int) w8210 ⟨_, rfl, hrdc60_b7883_2⟩ rfl s8211.lt) rfl s8211 fun v8215 w8216 s8217 m8218 k8219 r8220 => (?_)))))))
       obtain ⟨cs8221, rfl, hs8222⟩ := r8220
       have hrdc60_b7883_2 := hrdc60_b7883_2.mv m8218
       have bx8214 := bx8214.keep k8219 (by simp)
       have hbs_c60_b7883 := hbs_c60_b7883.keep k8219 (by simp)
       refine wl_s (o_move (Value.tuple #[Value.agg cs8221.toArray, vI ((actM (⟨d.id, d.counter + 1, m, false⟩ : Device) (⟨d.id, d.counter + 1 + 1, nx.kind, nx.copy, nx.to, nx.token⟩ : DeviceOp) (2 : Int)).2)]) rfl (wl_s (o_extract (Value.agg cs8221.toArray) rfl rfl (wl_s (o_extract (vI ((actM (⟨d.id, d.counter + 1, m, false⟩ : Device) (⟨d.id, d.counter + 1 + 1, nx.kind, nx.copy, nx.to, nx.token⟩ : DeviceOp) (2 : Int)).2)) rfl rfl (wl_s (o_alloc [vI (0 : Int), vI (0 : Int), Value.slice none 0 0, Value.bool false] z_31 rfl s8217 fun b8223 w8224 e8229 s8225 m8226 k8227 bx8228 => (?_))))))))
       have ne8230 : NeB b7839 b8223 := by show b7839 ≠ b8223; have := bx8214.lt; omega
       have ne8231 : NeB b7883 b8223 := by show b7883 ≠ b8223; have := hbs_c60_b7883.lt; omega
       clear e8229
       have hs8222 : Enc.device.rd w8224 ((b8223 :: Blc60) ++ O) cs8221 ((actM (⟨d.id, d.counter + 1, m, false⟩ : Device) (⟨d.id, d.counter + 1 + 1, nx.kind, nx.copy, nx.to, nx.token⟩ : DeviceOp) (2 : Int)).1) := Enc.mv Enc.device (x := (actM (⟨d.id, d.counter + 1, m, false⟩ : Device) (⟨d.id, d.counter + 1 + 1, nx.kind, nx.copy, nx.to, nx.token⟩ : DeviceOp) (2 : Int)).1) hs8222 m8226
       have hrdc60_b7883_2 := hrdc60_b7883_2.mv m8226
       have bx8214 := bx8214.keep k8227 (by simp)
       have hbs_c60_b7883 := hbs_c60_b7883.keep k8227 (by simp)
       obtain ⟨d8237, rfl, hd8238⟩ := hs8222
       have := hd8238.len_le
       refine wl_n (o_store (vs := [vI (((actM (⟨d.id, d.counter + 1, m, false⟩ : Device) (⟨d.id, d.counter + 1 + 1, nx.kind, nx.copy, nx.to, nx.token⟩ : DeviceOp) (2 : Int)).1).id), vI (((actM (⟨d.id, d.counter + 1, m, false⟩ : Device) (⟨d.id, d.counter + 1 + 1, nx.kind, nx.copy, nx.to, nx.token⟩ : DeviceOp) (2 : Int)).1).counter), d8237, Value.bool (((actM (⟨d.id, d.counter + 1, m, false⟩ : Device) (⟨d.id, d.counter + 1 + 1, nx.kind, nx.copy, nx.to, nx.token⟩ : DeviceOp) (2 : Int)).1).halted)]) (.agg #[vI (((actM (⟨d.id, d.counter + 1, m, false⟩ : Device) (⟨d.id, d.counter + 1 + 1, nx.kind, nx.copy, nx.to, nx.token⟩ : DeviceOp) (2 : Int)).1).id), vI (((actM (⟨d.id, d.counter + 1, m, false⟩ : Device) (⟨d.id, d.counter + 1 + 1, nx.kind, nx.copy, nx.to, nx.token⟩ : DeviceOp) (2 : Int)).1).counter), d8237, Value.bool (((actM (⟨d.id, d.counter + 1, m, false⟩ : Device) (⟨d.id, d.counter + 1 + 1, nx.kind, nx.copy, nx.to, nx.token⟩ : DeviceOp) (2 : Int)).1).halted)]) rfl rfl rfl s_31 (fun u hu => by simp only [List.mem_cons, List.not_mem_nil, or_false] at hu; rcases hu with rfl | rfl | rfl | rfl <;> first | rfl | exact hd8238.oneCell) (by repeat (first | assumption | constructor)) bx8228 (of_decide_eq_true rfl) s8225 fun w8232 s8233 m8234 k8235 bx8236 => (?_))
       have hrdc60_b7883_2 := hrdc60_b7883_2.mv m8234
       have bx8214 := bx8214.keep k8235 (nin1 ne8230)
       have hbs_c60_b7883 := hbs_c60_b7883.keep k8235 (nin1 ne8231)
       refine wl_s (o_assign (vI ((actM (⟨d.id, d.counter + 1, m, false⟩ : Device) (⟨d.id, d.counter + 1 + 1, nx.kind, nx.copy, nx.to, nx.token⟩ : DeviceOp) (2 : Int)).2)) rfl (wl_nil (thenQ_n (?_))))
       refine cw_seq (?_)
       refine cw_region (by kernel_rfl) (wl_s (o_loadBxA (vs := [vI d.id, vI (d.counter + 1), vrc60_b7883_2, Value.bool false]) Try.underlying31 rfl s_31 rfl hbs_c60_b7883 rfl (wl_s (o_callK (vs := [Value.agg #[vI d.id, vI (d.counter + 1), vrc60_b7883_2, Value.bool false]]) enter_44 (c_start (O := (b8223 :: Blc60) ++ O) [vI d.id, vI (d.counter + 1), vrc60_b7883_2, Value.bool false] (⟨d.id, d.counter + 1, m, false⟩ : Device) w8232 ⟨_, rfl, hrdc60_b7883_2⟩ s8233.lt) rfl s8233 fun v8239 w8240 s8241 m8242 k8243 r8244 => (?_)))))
       obtain ⟨cs8245, rfl, hs8246⟩ := r8244
       have bx8214 := bx8214.keep k8243 (by simp)
       have hbs_c60_b7883 := hbs_c60_b7883.keep k8243 (by simp)
       have bx8236 := bx8236.keep k8243 (by simp)
       refine wl_s (o_move (Value.tuple #[Value.agg cs8245.toArray, vI ((startM (⟨d.id, d.counter + 1, m, false⟩ : Device)).2)]) rfl (wl_s (o_extract (Value.agg cs8245.toArray) rfl rfl (wl_s (o_extract (vI ((startM (⟨d.id, d.counter + 1, m, false⟩ : Device)).2)) rfl rfl (wl_s (o_alloc [vI (0 : Int), vI (0 : Int), Value.slice none 0 0, Value.bool false] z_31 rfl s8241 fun b8247 w8248 e8253 s8249 m8250 k8251 bx8252 => (?_))))))))
       have ne8254 : NeB b7839 b8247 := by show b7839 ≠ b8247; have := bx8214.lt; omega
       have ne8255 : NeB b7883 b8247 := by show b7883 ≠ b8247; have := hbs_c60_b7883.lt; omega
       have ne8256 : NeB b8223 b8247 := by show b8223 ≠ b8247; have := bx8236.lt; omega
       clear e8253
       have hs8246 : Enc.device.rd w8248 ((b8247 :: (b8223 :: Blc60)) ++ O) cs8245 ((startM (⟨d.id, d.counter + 1, m, false⟩ : Device)).1) := Enc.mv Enc.device (x := (startM (⟨d.id, d.counter + 1, m, false⟩ : Device)).1) hs8246 m8250
       have bx8214 := bx8214.keep k8251 (by simp)
       have hbs_c60_b7883 := hbs_c60_b7883.keep k8251 (by simp)
       have bx8236 := bx8236.keep k8251 (by simp)
       obtain ⟨d8262, rfl, hd8263⟩ := hs8246
       have := hd8263.len_le
       refine wl_n (o_store (vs := [vI (((startM (⟨d.id, d.counter + 1, m, false⟩ : Device)).1).id), vI (((startM (⟨d.id, d.counter + 1, m, false⟩ : Device)).1).counter), d8262, Value.bool (((startM (⟨d.id, d.counter + 1, m, false⟩ : Device)).1).halted)]) (.agg #[vI (((startM (⟨d.id, d.counter + 1, m, false⟩ : Device)).1).id), vI (((startM (⟨d.id, d.counter + 1, m, false⟩ : Device)).1).counter), d8262, Value.bool (((startM (⟨d.id, d.counter + 1, m, false⟩ : Device)).1).halted)]) rfl rfl rfl s_31 (fun u hu => by simp only [List.mem_cons, List.not_mem_nil, or_false] at hu; rcases hu with rfl | rfl | rfl | rfl <;> first | rfl | exact hd8263.oneCell) (by repeat (first | assumption | constructor)) bx8252 (of_decide_eq_true rfl) s8249 fun w8257 s8258 m8259 k8260 bx8261 => (?_))
       have hd8263 := hd8263.mv m8259
       have bx8214 := bx8214.keep k8260 (nin1 ne8254)
       have hbs_c60_b7883 := hbs_c60_b7883.keep k8260 (nin1 ne8255)
       have bx8236 := bx8236.keep k8260 (nin1 ne8256)
       refine wl_s (o_assign (vI ((startM (⟨d.id, d.counter + 1, m, false⟩ : Device)).2)) rfl (wl_nil (thenQ_n (?_))))
       refine cw_seq (?_)
       refine cw_region (by kernel_rfl) (wl_s (o_loadBxA (vs := [vI (((startM (⟨d.id, d.counter + 1, m, false⟩ : Device)).1).id), vI (((startM (⟨d.id, d.counter + 1, m, false⟩ : Device)).1).counter), d8262, Value.bool (((startM (⟨d.id, d.counter + 1, m, false⟩ : Device)).1).halted)]) Try.underlying31 rfl s_31 rfl bx8261 rfl (wl_s (o_loadBxA (vs := [vI d.id, vI (d.counter + 1 + 1), vI nx.kind, vI nx.copy, vI nx.to, vI nx.token]) Try.underlying40 rfl s_40 rfl bx8214 rfl (wl_s (o_callK (vs := [Value.agg #[vI (((startM (⟨d.id, d.counter + 1, m, false⟩ : Device)).1).id), vI (((startM (⟨d.id, d.counter + 1, m, false⟩ : Device)).1).counter), d8262, Value.bool (((startM (⟨d.id, d.counter + 1, m, false⟩ : Device)).1).halted)], Value.agg #[vI d.id, vI (d.counter + 1 + 1), vI nx.kind, vI nx.copy, vI nx.to, vI nx.token], vI (2 : Int)]) enter_40 (c_act (O := (b8247 :: (b8223 :: Blc60)) ++ O) [vI (((startM (⟨d.id, d.counter + 1, m, false⟩ : Device)).1).id), vI (((startM (⟨d.id, d.counter + 1, m, false⟩ : Device)).1).counter), d8262, Value.bool (((startM (⟨d.id, d.counter + 1, m, false⟩ : Device)).1).halted)] ((startM (⟨d.id, d.counter + 1, m, false⟩ : Device)).1) [vI d.id, vI (d.counter + 1 + 1), vI nx.kind, vI nx.copy, vI nx.to, vI nx.token] (⟨d.id, d.counter + 1 + 1, nx.kind, nx.copy, nx.to, nx.token⟩ : DeviceOp) (2 : Int) w8257 ⟨_, rfl, hd8263⟩ rfl s8258.lt) rfl s8258 fun v8264 w8265 s8266 m8267 k8268 r8269 => (?_)))))))
       obtain ⟨cs8270, rfl, hs8271⟩ := r8269
       have bx8214 := bx8214.keep k8268 (by simp)
       have hbs_c60_b7883 := hbs_c60_b7883.keep k8268 (by simp)
       have bx8236 := bx8236.keep k8268 (by simp)
       have bx8261 := bx8261.keep k8268 (by simp)
       refine wl_s (o_move (Value.tuple #[Value.agg cs8270.toArray, vI ((actM ((startM (⟨d.id, d.counter + 1, m, false⟩ : Device)).1) (⟨d.id, d.counter + 1 + 1, nx.kind, nx.copy, nx.to, nx.token⟩ : DeviceOp) (2 : Int)).2)]) rfl (wl_s (o_extract (Value.agg cs8270.toArray) rfl rfl (wl_s (o_extract (vI ((actM ((startM (⟨d.id, d.counter + 1, m, false⟩ : Device)).1) (⟨d.id, d.counter + 1 + 1, nx.kind, nx.copy, nx.to, nx.token⟩ : DeviceOp) (2 : Int)).2)) rfl rfl (wl_s (o_alloc [vI (0 : Int), vI (0 : Int), Value.slice none 0 0, Value.bool false] z_31 rfl s8266 fun b8272 w8273 e8278 s8274 m8275 k8276 bx8277 => (?_))))))))
       have ne8279 : NeB b7839 b8272 := by show b7839 ≠ b8272; have := bx8214.lt; omega
       have ne8280 : NeB b7883 b8272 := by show b7883 ≠ b8272; have := hbs_c60_b7883.lt; omega
       have ne8281 : NeB b8223 b8272 := by show b8223 ≠ b8272; have := bx8236.lt; omega
       have ne8282 : NeB b8247 b8272 := by show b8247 ≠ b8272; have := bx8261.lt; omega
       clear e8278
       have hs8271 : Enc.device.rd w8273 ((b8272 :: (b8247 :: (b8223 :: Blc60))) ++ O) cs8270 ((actM ((startM (⟨d.id, d.counter + 1, m, false⟩ : Device)).1) (⟨d.id, d.counter + 1 + 1, nx.kind, nx.copy, nx.to, nx.token⟩ : DeviceOp) (2 : Int)).1) := Enc.mv Enc.device (x := (actM ((startM (⟨d.id, d.counter + 1, m, false⟩ : Device)).1) (⟨d.id, d.counter + 1 + 1, nx.kind, nx.copy, nx.to, nx.token⟩ : DeviceOp) (2 : Int)).1) hs8271 m8275
       have bx8261 := bx8261.keep k8276 (by simp)
       obtain ⟨d8288, rfl, hd8289⟩ := hs8271
       have := hd8289.len_le
       refine wl_n (o_store (vs := [vI (((actM ((startM (⟨d.id, d.counter + 1, m, false⟩ : Device)).1) (⟨d.id, d.counter + 1 + 1, nx.kind, nx.copy, nx.to, nx.token⟩ : DeviceOp) (2 : Int)).1).id), vI (((actM ((startM (⟨d.id, d.counter + 1, m, false⟩ : Device)).1) (⟨d.id, d.counter + 1 + 1, nx.kind, nx.copy, nx.to, nx.token⟩ : DeviceOp) (2 : Int)).1).counter), d8288, Value.bool (((actM ((startM (⟨d.id, d.counter + 1, m, false⟩ : Device)).1) (⟨d.id, d.counter + 1 + 1, nx.kind, nx.copy, nx.to, nx.token⟩ : DeviceOp) (2 : Int)).1).halted)]) (.agg #[vI (((actM ((startM (⟨d.id, d.counter + 1, m, false⟩ : Device)).1) (⟨d.id, d.counter + 1 + 1, nx.kind, nx.copy, nx.to, nx.token⟩ : DeviceOp) (2 : Int)).1).id), vI (((actM ((startM (⟨d.id, d.counter + 1, m, false⟩ : Device)).1) (⟨d.id, d.counter + 1 + 1, nx.kind, nx.copy, nx.to, nx.token⟩ : DeviceOp) (2 : Int)).1).counter), d8288, Value.bool (((actM ((startM (⟨d.id, d.counter + 1, m, false⟩ : Device)).1) (⟨d.id, d.counter + 1 + 1, nx.kind, nx.copy, nx.to, nx.token⟩ : DeviceOp) (2 : Int)).1).halted)]) rfl rfl rfl s_31 (fun u hu => by simp only [List.mem_cons, List.not_mem_nil, or_false] at hu; rcases hu with rfl | rfl | rfl | rfl <;> first | rfl | exact hd8289.oneCell) (by repeat (first | assumption | constructor)) bx8277 (of_decide_eq_true rfl) s8274 fun w8283 s8284 m8285 k8286 bx8287 => (?_))
       have bx8261 := bx8261.keep k8286 (nin1 ne8282)
       refine wl_s (o_assign (vI ((actM ((startM (⟨d.id, d.counter + 1, m, false⟩ : Device)).1) (⟨d.id, d.counter + 1 + 1, nx.kind, nx.copy, nx.to, nx.token⟩ : DeviceOp) (2 : Int)).2)) rfl (wl_nil (thenQ_n (?_))))
       refine cw_seq (?_)
       refine cw_region (by kernel_rfl) (wl_s (o_move (vI ((actM (⟨d.id, d.counter + 1, m, false⟩ : Device) (⟨d.id, d.counter + 1 + 1, nx.kind, nx.copy, nx.to, nx.token⟩ : DeviceOp) (2 : Int)).2)) rfl (wl_s (o_eql .i64 ((actM (⟨d.id, d.counter + 1, m, false⟩ : Device) (⟨d.id, d.counter + 1 + 1, nx.kind, nx.copy, nx.to, nx.token⟩ : DeviceOp) (2 : Int)).2) (430 : Int) rfl rfl (wl_s (o_move (Value.bool (((actM (⟨d.id, d.counter + 1, m, false⟩ : Device) (⟨d.id, d.counter + 1 + 1, nx.kind, nx.copy, nx.to, nx.token⟩ : DeviceOp) (2 : Int)).2) == (430 : Int))) rfl (?_)))))))
       have hb8290 : (((actM (⟨d.id, d.counter + 1, m, false⟩ : Device) (⟨d.id, d.counter + 1 + 1, nx.kind, nx.copy, nx.to, nx.token⟩ : DeviceOp) (2 : Int)).2) == (430 : Int)) = true := (by first | (rw [stop_act hrc60_0]; done) | (rw [stop_act hrc60_0]; rfl) | (rw [stop_start hrc60_0]; rfl) | (rw [stop_start hrc60_0, stop_act hrc60_0]; rfl))
       rw [hb8290]
       refine wl_t rfl (o_move (vI ((startM (⟨d.id, d.counter + 1, m, false⟩ : Device)).2)) rfl (wl_t rfl (o_eql .i64 ((startM (⟨d.id, d.counter + 1, m, false⟩ : Device)).2) (430 : Int) rfl rfl (wl_s (o_pickT (Value.bool (((startM (⟨d.id, d.counter + 1, m, false⟩ : Device)).2) == (430 : Int))) rfl rfl (wl_s (o_move (Value.bool (((startM (⟨d.id, d.counter + 1, m, false⟩ : Device)).2) == (430 : Int))) rfl (?_))))))))
       have hb8291 : (((startM (⟨d.id, d.counter + 1, m, false⟩ : Device)).2) == (430 : Int)) = true := (by first | (rw [stop_act hrc60_0]; done) | (rw [stop_act hrc60_0]; rfl) | (rw [stop_start hrc60_0]; rfl) | (rw [stop_start hrc60_0, stop_act hrc60_0]; rfl))
       rw [hb8291]
       refine wl_t rfl (o_fieldL 3 f_31_3 rfl (wl_t rfl (o_loadBx Try.underlying4 rfl (Value.bool (((startM (⟨d.id, d.counter + 1, m, false⟩ : Device)).1).halted)) rfl bx8261 rfl (wl_s (o_pickT (Value.bool (((startM (⟨d.id, d.counter + 1, m, false⟩ : Device)).1).halted)) rfl rfl (wl_s (o_move (Value.bool (((startM (⟨d.id, d.counter + 1, m, false⟩ : Device)).1).halted)) rfl (?_))))))))
       have hb8292 : (((startM (⟨d.id, d.counter + 1, m, false⟩ : Device)).1).halted) = true := (by rw [stop_start hrc60_0])
       rw [hb8292]
       refine wl_t rfl (o_move (vI ((actM ((startM (⟨d.id, d.counter + 1, m, false⟩ : Device)).1) (⟨d.id, d.counter + 1 + 1, nx.kind, nx.copy, nx.to, nx.token⟩ : DeviceOp) (2 : Int)).2)) rfl (wl_t rfl (o_eql .i64 ((actM ((startM (⟨d.id, d.counter + 1, m, false⟩ : Device)).1) (⟨d.id, d.counter + 1 + 1, nx.kind, nx.copy, nx.to, nx.token⟩ : DeviceOp) (2 : Int)).2) (430 : Int) rfl rfl (wl_s (o_pickT (Value.bool (((actM ((startM (⟨d.id, d.counter + 1, m, false⟩ : Device)).1) (⟨d.id, d.counter + 1 + 1, nx.kind, nx.copy, nx.to, nx.token⟩ : DeviceOp) (2 : Int)).2) == (430 : Int))) rfl rfl (wl_s (o_assign (Value.bool (((actM ((startM (⟨d.id, d.counter + 1, m, false⟩ : Device)).1) (⟨d.id, d.counter + 1 + 1, nx.kind, nx.copy, nx.to, nx.token⟩ : DeviceOp) (2 : Int)).2) == (430 : Int))) rfl (wl_nil (thenQ_n (?_))))))))))
       refine cw_ret (end_r rfl (res1 rfl rfl rfl) (?_))
       have e : true = (((actM ((startM (⟨d.id, d.counter + 1, m, false⟩ : Device)).1) (⟨d.id, d.counter + 1 + 1, nx.kind, nx.copy, nx.to, nx.token⟩ : DeviceOp) (2 : Int)).2) == (430 : Int)) := by first | rfl | (rw [act_err (by assumption)]; rfl) | exact (by rw [stop_start hrc60_0, stop_act hrc60_0]; rfl)
       exact ⟨_, rfl, s8284.keep, (by first | exact congrArg Value.bool e.symm | rfl)⟩
      | 2, _ =>
       intro F8294 w8295 k8293 hT8296 hF8297
       have s8298 := slc60.call k8293
       have m8299 : Mv Blc60 wlc60 Blc60 w8295 := Mv.of_keep k8293
       have bx7844 := bx7844.keep k8293 (by simp)
       have hrdc60_b7883_2 := hrdc60_b7883_2.mv m8299
       have hbs_c60_b7883 := hbs_c60_b7883.keep k8293 (by simp)
       obtain ⟨F2, rfl⟩ := lit_of (F := F8294) [(7, Value.pointer (some ⟨b7839, 0, none⟩)), (11, Value.pointer (some ⟨b7883, 0, none⟩)), (98, undef), (61, vI d.id), (63, vI (d.counter + 1)), (65, Value.pointer (some ⟨b7839, 0, none⟩))] ⟨hF8297 7 (by kernel_rfl), hF8297 11 (by kernel_rfl), hF8297 98 (by kernel_rfl), hT8296 1 61 (by kernel_rfl) (by decide) (by decide), hT8296 3 63 (by kernel_rfl) (by decide) (by decide), hT8296 5 65 (by kernel_rfl) (by decide) (by decide), trivial⟩
       clear hT8296 hF8297
       refine wl_n (o_store1 (vI d.id) rfl rfl rfl s_3 (by repeat (first | assumption | constructor)) bx7844 (of_decide_eq_true rfl) s8298 fun w8302 s8303 m8304 k8305 bx8306 => (?_))
       have hrdc60_b7883_2 := hrdc60_b7883_2.mv m8304
       have hbs_c60_b7883 := hbs_c60_b7883.keep k8305 (nin1 (Ne.symm ne7890))
       refine wl_s (o_add .i64 (d.counter + 1) (1 : Int) (d.counter + 1 + 1) rfl rfl (w64 (by have := hrc60_0.2.2.2.2.1; have := hrc60_0.2.2.2.2.2; omega) rfl) (wl_s (o_fieldL 1 f_40_1 rfl (wl_n (o_store1 (vI (d.counter + 1 + 1)) rfl rfl rfl s_3 (by repeat (first | assumption | constructor)) bx8306 (of_decide_eq_true rfl) s8303 fun w8307 s8308 m8309 k8310 bx8311 => (?_))))))
       have hrdc60_b7883_2 := hrdc60_b7883_2.mv m8309
       have hbs_c60_b7883 := hbs_c60_b7883.keep k8310 (nin1 (Ne.symm ne7890))
       refine wl_nil (thenQ_n (?_))
       refine cw_seq (?_)
       refine cw_region (by kernel_rfl) (wl_s (o_loadBxA (vs := [vI d.id, vI (d.counter + 1), vrc60_b7883_2, Value.bool false]) Try.underlying31 rfl s_31 rfl hbs_c60_b7883 rfl (wl_s (o_loadBxA (vs := [vI d.id, vI (d.counter + 1 + 1), vI nx.kind, vI nx.copy, vI nx.to, vI nx.token]) Try.underlying40 rfl s_40 rfl bx8311 rfl (wl_s (o_callK (vs := [Value.agg #[vI d.id, vI (d.counter + 1), vrc60_b7883_2, Value.bool false], Value.agg #[vI d.id, vI (d.counter + 1 + 1), vI nx.kind, vI nx.copy, vI nx.to, vI nx.token], vI (2 : Int)]) enter_40 (c_act (O := Blc60 ++ O) [vI d.id, vI (d.counter + 1), vrc60_b7883_2, Value.bool false] (⟨d.id, d.counter + 1, m, false⟩ : Device) [vI d.id, vI (d.counter + 1 + 1), vI nx.kind, vI nx.copy, vI nx.to, vI nx.token] (⟨d.id, d.counter + 1 + 1, nx.kind, nx.copy, nx.to, nx.token⟩ : DeviceOp) (2 : Int) w8307 ⟨_, rfl, hrdc60_b7883_2⟩ rfl s8308.lt) rfl s8308 fun v8312 w8313 s8314 m8315 k8316 r8317 => (?_)))))))
       obtain ⟨cs8318, rfl, hs8319⟩ := r8317
       have hrdc60_b7883_2 := hrdc60_b7883_2.mv m8315
       have bx8311 := bx8311.keep k8316 (by simp)
       have hbs_c60_b7883 := hbs_c60_b7883.keep k8316 (by simp)
       refine wl_s (o_move (Value.tuple #[Value.agg cs8318.toArray, vI ((actM (⟨d.id, d.counter + 1, m, false⟩ : Device) (⟨d.id, d.counter + 1 + 1, nx.kind, nx.copy, nx.to, nx.token⟩ : DeviceOp) (2 : Int)).2)]) rfl (wl_s (o_extract (Value.agg cs8318.toArray) rfl rfl (wl_s (o_extract (vI ((actM (⟨d.id, d.counter + 1, m, false⟩ : Device) (⟨d.id, d.counter + 1 + 1, nx.kind, nx.copy, nx.to, nx.token⟩ : DeviceOp) (2 : Int)).2)) rfl rfl (wl_s (o_alloc [vI (0 : Int), vI (0 : Int), Value.slice none 0 0, Value.bool false] z_31 rfl s8314 fun b8320 w8321 e8326 s8322 m8323 k8324 bx8325 => (?_))))))))
       have ne8327 : NeB b7839 b8320 := by show b7839 ≠ b8320; have := bx8311.lt; omega
       have ne8328 : NeB b7883 b8320 := by show b7883 ≠ b8320; have := hbs_c60_b7883.lt; omega
       clear e8326
       have hs8319 : Enc.device.rd w8321 ((b8320 :: Blc60) ++ O) cs8318 ((actM (⟨d.id, d.counter + 1, m, false⟩ : Device) (⟨d.id, d.counter + 1 + 1, nx.kind, nx.copy, nx.to, nx.token⟩ : DeviceOp) (2 : Int)).1) := Enc.mv Enc.device (x := (actM (⟨d.id, d.counter + 1, m, false⟩ : Device) (⟨d.id, d.counter + 1 + 1, nx.kind, nx.copy, nx.to, nx.token⟩ : DeviceOp) (2 : Int)).1) hs8319 m8323
       have hrdc60_b7883_2 := hrdc60_b7883_2.mv m8323
       have bx8311 := bx8311.keep k8324 (by simp)
       have hbs_c60_b7883 := hbs_c60_b7883.keep k8324 (by simp)
       obtain ⟨d8334, rfl, hd8335⟩ := hs8319
       have := hd8335.len_le
       refine wl_n (o_store (vs := [vI (((actM (⟨d.id, d.counter + 1, m, false⟩ : Device) (⟨d.id, d.counter + 1 + 1, nx.kind, nx.copy, nx.to, nx.token⟩ : DeviceOp) (2 : Int)).1).id), vI (((actM (⟨d.id, d.counter + 1, m, false⟩ : Device) (⟨d.id, d.counter + 1 + 1, nx.kind, nx.copy, nx.to, nx.token⟩ : DeviceOp) (2 : Int)).1).counter), d8334, Value.bool (((actM (⟨d.id, d.counter + 1, m, false⟩ : Device) (⟨d.id, d.counter + 1 + 1, nx.kind, nx.copy, nx.to, nx.token⟩ : DeviceOp) (2 : Int)).1).halted)]) (.agg #[vI (((actM (⟨d.id, d.counter + 1, m, false⟩ : Device) (⟨d.id, d.counter + 1 + 1, nx.kind, nx.copy, nx.to, nx.token⟩ : DeviceOp) (2 : Int)).1).id), vI (((actM (⟨d.id, d.counter + 1, m, false⟩ : Device) (⟨d.id, d.counter + 1 + 1, nx.kind, nx.copy, nx.to, nx.token⟩ : DeviceOp) (2 : Int)).1).counter), d8334, Value.bool (((actM (⟨d.id, d.counter + 1, m, false⟩ : Device) (⟨d.id, d.counter + 1 + 1, nx.kind, nx.copy, nx.to, nx.token⟩ : DeviceOp) (2 : Int)).1).halted)]) rfl rfl rfl s_31 (fun u hu => by simp only [List.mem_cons, List.not_mem_nil, or_false] at hu; rcases hu with rfl | rfl | rfl | rfl <;> first | rfl | exact hd8335.oneCell) (by repeat (first | assumption | constructor)) bx8325 (of_decide_eq_true rfl) s8322 fun w8329 s8330 m8331 k8332 bx8333 => (?_))
       have hrdc60_b7883_2 := hrdc60_b7883_2.mv m8331
       have bx8311 := bx8311.keep k8332 (nin1 ne8327)
       have hbs_c60_b7883 := hbs_c60_b7883.keep k8332 (nin1 ne8328)
       refine wl_s (o_assign (vI ((actM (⟨d.id, d.counter + 1, m, false⟩ : Device) (⟨d.id, d.counter + 1 + 1, nx.kind, nx.copy, nx.to, nx.token⟩ : DeviceOp) (2 : Int)).2)) rfl (wl_nil (thenQ_n (?_))))
       refine cw_seq (?_)
       refine cw_region (by kernel_rfl) (wl_s (o_loadBxA (vs := [vI d.id, vI (d.counter + 1), vrc60_b7883_2, Value.bool false]) Try.underlying31 rfl s_31 rfl hbs_c60_b7883 rfl (wl_s (o_callK (vs := [Value.agg #[vI d.id, vI (d.counter + 1), vrc60_b7883_2, Value.bool false]]) enter_44 (c_start (O := (b8320 :: Blc60) ++ O) [vI d.id, vI (d.counter + 1), vrc60_b7883_2, Value.bool false] (⟨d.id, d.counter + 1, m, false⟩ : Device) w8329 ⟨_, rfl, hrdc60_b7883_2⟩ s8330.lt) rfl s8330 fun v8336 w8337 s8338 m8339 k8340 r8341 => (?_)))))
       obtain ⟨cs8342, rfl, hs8343⟩ := r8341
       have bx8311 := bx8311.keep k8340 (by simp)
       have hbs_c60_b7883 := hbs_c60_b7883.keep k8340 (by simp)
       have bx8333 := bx8333.keep k8340 (by simp)
       refine wl_s (o_move (Value.tuple #[Value.agg cs8342.toArray, vI ((startM (⟨d.id, d.counter + 1, m, false⟩ : Device)).2)]) rfl (wl_s (o_extract (Value.agg cs8342.toArray) rfl rfl (wl_s (o_extract (vI ((startM (⟨d.id, d.counter + 1, m, false⟩ : Device)).2)) rfl rfl (wl_s (o_alloc [vI (0 : Int), vI (0 : Int), Value.slice none 0 0, Value.bool false] z_31 rfl s8338 fun b8344 w8345 e8350 s8346 m8347 k8348 bx8349 => (?_))))))))
       have ne8351 : NeB b7839 b8344 := by show b7839 ≠ b8344; have := bx8311.lt; omega
       have ne8352 : NeB b7883 b8344 := by show b7883 ≠ b8344; have := hbs_c60_b7883.lt; omega
       have ne8353 : NeB b8320 b8344 := by show b8320 ≠ b8344; have := bx8333.lt; omega
       clear e8350
       have hs8343 : Enc.device.rd w8345 ((b8344 :: (b8320 :: Blc60)) ++ O) cs8342 ((startM (⟨d.id, d.counter + 1, m, false⟩ : Device)).1) := Enc.mv Enc.device (x := (startM (⟨d.id, d.counter + 1, m, false⟩ : Device)).1) hs8343 m8347
       have bx8311 := bx8311.keep k8348 (by simp)
       have hbs_c60_b7883 := hbs_c60_b7883.keep k8348 (by simp)
       have bx8333 := bx8333.keep k8348 (by simp)
       obtain ⟨d8359, rfl, hd8360⟩ := hs8343
       have := hd8360.len_le
       refine wl_n (o_store (vs := [vI (((startM (⟨d.id, d.counter + 1, m, false⟩ : Device)).1).id), vI (((startM (⟨d.id, d.counter + 1, m, false⟩ : Device)).1).counter), d8359, Value.bool (((startM (⟨d.id, d.counter + 1, m, false⟩ : Device)).1).halted)]) (.agg #[vI (((startM (⟨d.id, d.counter + 1, m, false⟩ : Device)).1).id), vI (((startM (⟨d.id, d.counter + 1, m, false⟩ : Device)).1).counter), d8359, Value.bool (((startM (⟨d.id, d.counter + 1, m, false⟩ : Device)).1).halted)]) rfl rfl rfl s_31 (fun u hu => by simp only [List.mem_cons, List.not_mem_nil, or_false] at hu; rcases hu with rfl | rfl | rfl | rfl <;> first | rfl | exact hd8360.oneCell) (by repeat (first | assumption | constructor)) bx8349 (of_decide_eq_true rfl) s8346 fun w8354 s8355 m8356 k8357 bx8358 => (?_))
       have hd8360 := hd8360.mv m8356
       have bx8311 := bx8311.keep k8357 (nin1 ne8351)
       have hbs_c60_b7883 := hbs_c60_b7883.keep k8357 (nin1 ne8352)
       have bx8333 := bx8333.keep k8357 (nin1 ne8353)
       refine wl_s (o_assign (vI ((startM (⟨d.id, d.counter + 1, m, false⟩ : Device)).2)) rfl (wl_nil (thenQ_n (?_))))
       refine cw_seq (?_)
       refine cw_region (by kernel_rfl) (wl_s (o_loadBxA (vs := [vI (((startM (⟨d.id, d.counter + 1, m, false⟩ : Device)).1).id), vI (((startM (⟨d.id, d.counter + 1, m, false⟩ : Device)).1).counter), d8359, Value.bool (((startM (⟨d.id, d.counter + 1, m, false⟩ : Device)).1).halted)]) Try.underlying31 rfl s_31 rfl bx8358 rfl (wl_s (o_loadBxA (vs := [vI d.id, vI (d.counter + 1 + 1), vI nx.kind, vI nx.copy, vI nx.to, vI nx.token]) Try.underlying40 rfl s_40 rfl bx8311 rfl (wl_s (o_callK (vs := [Value.agg #[vI (((startM (⟨d.id, d.counter + 1, m, false⟩ : Device)).1).id), vI (((startM (⟨d.id, d.counter + 1, m, false⟩ : Device)).1).counter), d8359, Value.bool (((startM (⟨d.id, d.counter + 1, m, false⟩ : Device)).1).halted)], Value.agg #[vI d.id, vI (d.counter + 1 + 1), vI nx.kind, vI nx.copy, vI nx.to, vI nx.token], vI (2 : Int)]) enter_40 (c_act (O := (b8344 :: (b8320 :: Blc60)) ++ O) [vI (((startM (⟨d.id, d.counter + 1, m, false⟩ : Device)).1).id), vI (((startM (⟨d.id, d.counter + 1, m, false⟩ : Device)).1).counter), d8359, Value.bool (((startM (⟨d.id, d.counter + 1, m, false⟩ : Device)).1).halted)] ((startM (⟨d.id, d.counter + 1, m, false⟩ : Device)).1) [vI d.id, vI (d.counter + 1 + 1), vI nx.kind, vI nx.copy, vI nx.to, vI nx.token] (⟨d.id, d.counter + 1 + 1, nx.kind, nx.copy, nx.to, nx.token⟩ : DeviceOp) (2 : Int) w8354 ⟨_, rfl, hd8360⟩ rfl s8355.lt) rfl s8355 fun v8361 w8362 s8363 m8364 k8365 r8366 => (?_)))))))
       obtain ⟨cs8367, rfl, hs8368⟩ := r8366
       have bx8311 := bx8311.keep k8365 (by simp)
       have hbs_c60_b7883 := hbs_c60_b7883.keep k8365 (by simp)
       have bx8333 := bx8333.keep k8365 (by simp)
       have bx8358 := bx8358.keep k8365 (by simp)
       refine wl_s (o_move (Value.tuple #[Value.agg cs8367.toArray, vI ((actM ((startM (⟨d.id, d.counter + 1, m, false⟩ : Device)).1) (⟨d.id, d.counter + 1 + 1, nx.kind, nx.copy, nx.to, nx.token⟩ : DeviceOp) (2 : Int)).2)]) rfl (wl_s (o_extract (Value.agg cs8367.toArray) rfl rfl (wl_s (o_extract (vI ((actM ((startM (⟨d.id, d.counter + 1, m, false⟩ : Device)).1) (⟨d.id, d.counter + 1 + 1, nx.kind, nx.copy, nx.to, nx.token⟩ : DeviceOp) (2 : Int)).2)) rfl rfl (wl_s (o_alloc [vI (0 : Int), vI (0 : Int), Value.slice none 0 0, Value.bool false] z_31 rfl s8363 fun b8369 w8370 e8375 s8371 m8372 k8373 bx8374 => (?_))))))))
       have ne8376 : NeB b7839 b8369 := by show b7839 ≠ b8369; have := bx8311.lt; omega
       have ne8377 : NeB b7883 b8369 := by show b7883 ≠ b8369; have := hbs_c60_b7883.lt; omega
       have ne8378 : NeB b8320 b8369 := by show b8320 ≠ b8369; have := bx8333.lt; omega
       have ne8379 : NeB b8344 b8369 := by show b8344 ≠ b8369; have := bx8358.lt; omega
       clear e8375
       have hs8368 : Enc.device.rd w8370 ((b8369 :: (b8344 :: (b8320 :: Blc60))) ++ O) cs8367 ((actM ((startM (⟨d.id, d.counter + 1, m, false⟩ : Device)).1) (⟨d.id, d.counter + 1 + 1, nx.kind, nx.copy, nx.to, nx.token⟩ : DeviceOp) (2 : Int)).1) := Enc.mv Enc.device (x := (actM ((startM (⟨d.id, d.counter + 1, m, false⟩ : Device)).1) (⟨d.id, d.counter + 1 + 1, nx.kind, nx.copy, nx.to, nx.token⟩ : DeviceOp) (2 : Int)).1) hs8368 m8372
       have bx8358 := bx8358.keep k8373 (by simp)
       obtain ⟨d8385, rfl, hd8386⟩ := hs8368
       have := hd8386.len_le
       refine wl_n (o_store (vs := [vI (((actM ((startM (⟨d.id, d.counter + 1, m, false⟩ : Device)).1) (⟨d.id, d.counter + 1 + 1, nx.kind, nx.copy, nx.to, nx.token⟩ : DeviceOp) (2 : Int)).1).id), vI (((actM ((startM (⟨d.id, d.counter + 1, m, false⟩ : Device)).1) (⟨d.id, d.counter + 1 + 1, nx.kind, nx.copy, nx.to, nx.token⟩ : DeviceOp) (2 : Int)).1).counter), d8385, Value.bool (((actM ((startM (⟨d.id, d.counter + 1, m, false⟩ : Device)).1) (⟨d.id, d.counter + 1 + 1, nx.kind, nx.copy, nx.to, nx.token⟩ : DeviceOp) (2 : Int)).1).halted)]) (.agg #[vI (((actM ((startM (⟨d.id, d.counter + 1, m, false⟩ : Device)).1) (⟨d.id, d.counter + 1 + 1, nx.kind, nx.copy, nx.to, nx.token⟩ : DeviceOp) (2 : Int)).1).id), vI (((actM ((startM (⟨d.id, d.counter + 1, m, false⟩ : Device)).1) (⟨d.id, d.counter + 1 + 1, nx.kind, nx.copy, nx.to, nx.token⟩ : DeviceOp) (2 : Int)).1).counter), d8385, Value.bool (((actM ((startM (⟨d.id, d.counter + 1, m, false⟩ : Device)).1) (⟨d.id, d.counter + 1 + 1, nx.kind, nx.copy, nx.to, nx.token⟩ : DeviceOp) (2 : Int)).1).halted)]) rfl rfl rfl s_31 (fun u hu => by simp only [List.mem_cons, List.not_mem_nil, or_false] at hu; rcases hu with rfl | rfl | rfl | rfl <;> first | rfl | exact hd8386.oneCell) (by repeat (first | assumption | constructor)) bx8374 (of_decide_eq_true rfl) s8371 fun w8380 s8381 m8382 k8383 bx8384 => (?_))
       have bx8358 := bx8358.keep k8383 (nin1 ne8379)
       refine wl_s (o_assign (vI ((actM ((startM (⟨d.id, d.counter + 1, m, false⟩ : Device)).1) (⟨d.id, d.counter + 1 + 1, nx.kind, nx.copy, nx.to, nx.token⟩ : DeviceOp) (2 : Int)).2)) rfl (wl_nil (thenQ_n (?_))))
       refine cw_seq (?_)
       refine cw_region (by kernel_rfl) (wl_s (o_move (vI ((actM (⟨d.id, d.counter + 1, m, false⟩ : Device) (⟨d.id, d.counter + 1 + 1, nx.kind, nx.copy, nx.to, nx.token⟩ : DeviceOp) (2 : Int)).2)) rfl (wl_s (o_eql .i64 ((actM (⟨d.id, d.counter + 1, m, false⟩ : Device) (⟨d.id, d.counter + 1 + 1, nx.kind, nx.copy, nx.to, nx.token⟩ : DeviceOp) (2 : Int)).2) (430 : Int) rfl rfl (wl_s (o_move (Value.bool (((actM (⟨d.id, d.counter + 1, m, false⟩ : Device) (⟨d.id, d.counter + 1 + 1, nx.kind, nx.copy, nx.to, nx.token⟩ : DeviceOp) (2 : Int)).2) == (430 : Int))) rfl (?_)))))))
       have hb8387 : (((actM (⟨d.id, d.counter + 1, m, false⟩ : Device) (⟨d.id, d.counter + 1 + 1, nx.kind, nx.copy, nx.to, nx.token⟩ : DeviceOp) (2 : Int)).2) == (430 : Int)) = true := (by first | (rw [stop_act hrc60_0]; done) | (rw [stop_act hrc60_0]; rfl) | (rw [stop_start hrc60_0]; rfl) | (rw [stop_start hrc60_0, stop_act hrc60_0]; rfl))
       rw [hb8387]
       refine wl_t rfl (o_move (vI ((startM (⟨d.id, d.counter + 1, m, false⟩ : Device)).2)) rfl (wl_t rfl (o_eql .i64 ((startM (⟨d.id, d.counter + 1, m, false⟩ : Device)).2) (430 : Int) rfl rfl (wl_s (o_pickT (Value.bool (((startM (⟨d.id, d.counter + 1, m, false⟩ : Device)).2) == (430 : Int))) rfl rfl (wl_s (o_move (Value.bool (((startM (⟨d.id, d.counter + 1, m, false⟩ : Device)).2) == (430 : Int))) rfl (?_))))))))
       have hb8388 : (((startM (⟨d.id, d.counter + 1, m, false⟩ : Device)).2) == (430 : Int)) = true := (by first | (rw [stop_act hrc60_0]; done) | (rw [stop_act hrc60_0]; rfl) | (rw [stop_start hrc60_0]; rfl) | (rw [stop_start hrc60_0, stop_act hrc60_0]; rfl))
       rw [hb8388]
       refine wl_t rfl (o_fieldL 3 f_31_3 rfl (wl_t rfl (o_loadBx Try.underlying4 rfl (Value.bool (((startM (⟨d.id, d.counter + 1, m, false⟩ : Device)).1).halted)) rfl bx8358 rfl (wl_s (o_pickT (Value.bool (((startM (⟨d.id, d.counter + 1, m, false⟩ : Device)).1).halted)) rfl rfl (wl_s (o_move (Value.bool (((startM (⟨d.id, d.counter + 1, m, false⟩ : Device)).1).halted)) rfl (?_))))))))
       have hb8389 : (((startM (⟨d.id, d.counter + 1, m, false⟩ : Device)).1).halted) = true := (by rw [stop_start hrc60_0])
       rw [hb8389]
       refine wl_t rfl (o_move (vI ((actM ((startM (⟨d.id, d.counter + 1, m, false⟩ : Device)).1) (⟨d.id, d.counter + 1 + 1, nx.kind, nx.copy, nx.to, nx.token⟩ : DeviceOp) (2 : Int)).2)) rfl (wl_t rfl (o_eql .i64 ((actM ((startM (⟨d.id, d.counter + 1, m, false⟩ : Device)).1) (⟨d.id, d.counter + 1 + 1, nx.kind, nx.copy, nx.to, nx.token⟩ : DeviceOp) (2 : Int)).2) (430 : Int) rfl rfl (wl_s (o_pickT (Value.bool (((actM ((startM (⟨d.id, d.counter + 1, m, false⟩ : Device)).1) (⟨d.id, d.counter + 1 + 1, nx.kind, nx.copy, nx.to, nx.token⟩ : DeviceOp) (2 : Int)).2) == (430 : Int))) rfl rfl (wl_s (o_assign (Value.bool (((actM ((startM (⟨d.id, d.counter + 1, m, false⟩ : Device)).1) (⟨d.id, d.counter + 1 + 1, nx.kind, nx.copy, nx.to, nx.token⟩ : DeviceOp) (2 : Int)).2) == (430 : Int))) rfl (wl_nil (thenQ_n (?_))))))))))
       refine cw_ret (end_r rfl (res1 rfl rfl rfl) (?_))
       have e : true = (((actM ((startM (⟨d.id, d.counter + 1, m, false⟩ : Device)).1) (⟨d.id, d.counter + 1 + 1, nx.kind, nx.copy, nx.to, nx.token⟩ : DeviceOp) (2 : Int)).2) == (430 : Int)) := by first | rfl | (rw [act_err (by assumption)]; rfl) | exact (by rw [stop_start hrc60_0, stop_act hrc60_0]; rfl)
       exact ⟨_, rfl, s8381.keep, (by first | exact congrArg Value.bool e.symm | rfl)⟩

end Go.Proofs.Ytjpniibleelgiaa
