/- Walks, printed by gen.py. -/
import Derived.Test.YtjpniibleelgiaaYa
import Derived.Test.YtjpniibleelgiaaXc
set_option linter.unusedSimpArgs false
set_option linter.unusedVariables false
namespace Go.Proofs.Ytjpniibleelgiaa
open Go.Fw Go.RowKit

set_option maxHeartbeats 4000000 in
set_option maxRecDepth 100000 in
theorem c_act41 {O : List Nat} (p_cs : List Value) (p : DeviceOp) (o_a : Addr) (o : DeviceOp) (w : World) (h_p : Enc.devop.rd w O p_cs p) (h_o : PT Enc.devop w O (.pointer (some o_a)) o) (hO : ∀ b ∈ O, b < w.heap.size) : CallsK Try.prog 84 [.agg p_cs.toArray, .pointer (some o_a)] w (fun v _ => v = .bool ((p.kind == 2) && (p.copy == o.copy))) :=  by
 obtain rfl := h_p
 have h_o : PT Enc.devop w ([] ++ O) (.pointer (some o_a)) o := h_o
 have s0 : St w O w [] := St.start hO
 refine callsK_of 14 Try.func84 rfl rfl (of_decide_eq_true rfl) (fun F0 => ?_)
 refine cw_seq (?_)
 refine cw_region (by kernel_rfl) (wl_s (o_boxR (E := Enc.devop) (Value.agg #[vI p.device, vI p.no, vI p.kind, vI p.copy, vI p.to, vI p.token]) ([vI p.device, vI p.no, vI p.kind, vI p.copy, vI p.to, vI p.token]) p rfl rfl rfl s0 fun a4858 w4859 s4860 m4861 k4862 hp4863 => (?_)))
 have h_o := h_o.mv m4861
 refine wl_s (o_assign (Value.bool false) rfl (wl_nil (thenQ_n (?_))))
 refine cw_seq (?_)
 refine cw_region (by kernel_rfl) (wl_s (o_fieldR 2 f_40_2 (p.kind) rfl hp4863 (fun _ _ _ h => Enc_devop_f2 h) fun a4864 hp4865 => (wl_s (o_loadI Try.underlying3 rfl rfl hp4865 (wl_s (o_eql .i64 p.kind (2 : Int) rfl rfl (wl_s (o_move (Value.bool (p.kind == (2 : Int))) rfl (?_)))))))))
 cases hb4866 : (p.kind == (2 : Int))
 ·have hp4867 : p.kind ≠ (2 : Int) := by first | simpa using hb4866 | (have e := hb4866; simp at e; omega)
  refine wl_k rfl (wl_k rfl (wl_k rfl (wl_k rfl (wl_k rfl (wl_s (o_pickF (Value.bool false) rfl rfl (wl_s (o_assign (Value.bool false) rfl (wl_nil (thenQ_n (?_)))))))))))
  refine cw_ret (end_r rfl (res1 rfl rfl rfl) (?_))
  have e : ((p.kind == 2) && (p.copy == o.copy)) = false := by simp [*]
  exact ⟨_, rfl, s4860.keep, (by first | exact congrArg Value.bool e.symm | rfl)⟩
 ·have hp4868 : p.kind = (2 : Int) := by first | simpa using hb4866 | (have e := hb4866; simp at e; omega)
  refine wl_t rfl (o_fieldR 3 f_40_3 (p.copy) rfl hp4863 (fun _ _ _ h => Enc_devop_f3 h) fun a4869 hp4870 => (wl_t rfl (o_loadI Try.underlying3 rfl rfl hp4870 (wl_t rfl (o_fieldR 3 f_40_3 (o.copy) rfl h_o (fun _ _ _ h => Enc_devop_f3 h) fun a4871 hp4872 => (wl_t rfl (o_loadI Try.underlying3 rfl rfl hp4872 (wl_t rfl (o_eql .i64 p.copy o.copy rfl rfl (wl_s (o_pickT (Value.bool (p.copy == o.copy)) rfl rfl (wl_s (o_assign (Value.bool (p.copy == o.copy)) rfl (wl_nil (thenQ_n (?_))))))))))))))))
  refine cw_ret (end_r rfl (res1 rfl rfl rfl) (?_))
  have e : ((p.kind == 2) && (p.copy == o.copy)) = (p.copy == o.copy) := by simp [*]
  exact ⟨_, rfl, s4860.keep, (by first | exact congrArg Value.bool e.symm | rfl)⟩
set_option maxHeartbeats 4000000 in
set_option maxRecDepth 100000 in
theorem c_act1 {O : List Nat} (crash_a : Addr) (crash : Int) (w : World) (h_crash : PT Enc.int w O (.pointer (some crash_a)) crash) (hO : ∀ b ∈ O, b < w.heap.size) : CallsK Try.prog 78 [.pointer (some crash_a)] w (fun v _ => v = .bool (decide (0 ≤ crash) && decide (crash ≤ 2))) :=  by
 have h_crash : PT Enc.int w ([] ++ O) (.pointer (some crash_a)) crash := h_crash
 have s0 : St w O w [] := St.start hO
 refine callsK_of 8 Try.func78 rfl rfl (of_decide_eq_true rfl) (fun F0 => ?_)
 refine cw_seq (?_)
 refine cw_region (by kernel_rfl) (wl_s (o_assign (Value.bool false) rfl (wl_nil (thenQ_n (?_)))))
 refine cw_seq (?_)
 refine cw_region (by kernel_rfl) (wl_s (o_loadI Try.underlying3 rfl rfl h_crash (wl_s (o_geq .i64 crash (0 : Int) rfl rfl (wl_s (o_move (Value.bool (decide ((0 : Int) ≤ crash))) rfl (?_)))))))
 cases hb4873 : (decide ((0 : Int) ≤ crash))
 ·have hp4874 : crash < (0 : Int) := by first | simpa using hb4873 | (have e := hb4873; simp at e; omega)
  refine wl_k rfl (wl_k rfl (wl_s (o_pickF (Value.bool false) rfl rfl (wl_s (o_assign (Value.bool false) rfl (wl_nil (thenQ_n (?_))))))))
  refine cw_ret (end_r rfl (res1 rfl rfl rfl) (?_))
  have e : (decide (0 ≤ crash) && decide (crash ≤ 2)) = false := by simp [*]
  exact ⟨_, rfl, s0.keep, (by first | exact congrArg Value.bool e.symm | rfl)⟩
 ·have hp4875 : (0 : Int) ≤ crash := by first | simpa using hb4873 | (have e := hb4873; simp at e; omega)
  refine wl_t rfl (o_loadI Try.underlying3 rfl rfl h_crash (wl_t rfl (o_leq .i64 crash (2 : Int) rfl rfl (wl_s (o_pickT (Value.bool (decide (crash ≤ (2 : Int)))) rfl rfl (wl_s (o_assign (Value.bool (decide (crash ≤ (2 : Int)))) rfl (wl_nil (thenQ_n (?_))))))))))
  refine cw_ret (end_r rfl (res1 rfl rfl rfl) (?_))
  have e : (decide (0 ≤ crash) && decide (crash ≤ 2)) = (decide (crash ≤ (2 : Int))) := by simp [*]
  exact ⟨_, rfl, s0.keep, (by first | exact congrArg Value.bool e.symm | rfl)⟩
set_option maxHeartbeats 4000000 in
set_option maxRecDepth 100000 in
theorem c_act2 {O : List Nat} (d_a : Addr) (d : Device) (w : World) (h_d : PT Enc.device w O (.pointer (some d_a)) d) (hO : ∀ b ∈ O, b < w.heap.size) : CallsK Try.prog 80 [.pointer (some d_a)] w (fun v _ => v = .bool (!d.halted && wholeM d)) :=  by
 have h_d : PT Enc.device w ([] ++ O) (.pointer (some d_a)) d := h_d
 have s0 : St w O w [] := St.start hO
 refine callsK_of 10 Try.func80 rfl rfl (of_decide_eq_true rfl) (fun F0 => ?_)
 refine cw_seq (?_)
 refine cw_region (by kernel_rfl) (wl_s (o_assign (Value.bool false) rfl (wl_nil (thenQ_n (?_)))))
 refine cw_seq (?_)
 refine cw_region (by kernel_rfl) (wl_s (o_field0 f_112_0 rfl (wl_s (o_fieldR 3 f_31_3 (d.halted) rfl h_d (fun _ _ _ h => Enc_device_f3 h) fun a4876 hp4877 => (wl_s (o_loadT Try.underlying4 rfl rfl hp4877 (wl_s (o_not d.halted rfl (wl_s (o_move (Value.bool (!d.halted)) rfl (?_)))))))))))
 cases hb4878 : (!d.halted)
 ·have hp4879 : d.halted = true := by first | simpa using hb4878 | (have e := hb4878; rw [Bool.not_eq_true'] at e; exact e) | (have e := hb4878; rw [Bool.not_eq_false'] at e; exact e) | (have e := hb4878; simp at e; omega)
  refine wl_k rfl (wl_k rfl (wl_s (o_pickF (Value.bool false) rfl rfl (wl_s (o_assign (Value.bool false) rfl (wl_nil (thenQ_n (?_))))))))
  refine cw_ret (end_r rfl (res1 rfl rfl rfl) (?_))
  have e : (!d.halted && wholeM d) = false := by simp [*]
  exact ⟨_, rfl, s0.keep, (by first | exact congrArg Value.bool e.symm | rfl)⟩
 ·have hp4880 : d.halted = false := by first | simpa using hb4878 | (have e := hb4878; rw [Bool.not_eq_true'] at e; exact e) | (have e := hb4878; rw [Bool.not_eq_false'] at e; exact e) | (have e := hb4878; simp at e; omega)
  refine wl_t rfl (o_loadS Try.underlying112 rfl s_112 rfl h_d fun cs4881 hs4882 => (wl_t rfl (o_callK (vs := [Value.agg cs4881.toArray]) enter_81 (c_whole (O := [] ++ O) cs4881 d w hs4882 s0.lt) rfl s0 fun v4883 w4884 s4885 m4886 k4887 r4888 => (?_))))
  obtain rfl := r4888
  refine wl_s (o_pickT (Value.bool (wholeM d)) rfl rfl (wl_s (o_assign (Value.bool (wholeM d)) rfl (wl_nil (thenQ_n (?_))))))
  refine cw_ret (end_r rfl (res1 rfl rfl rfl) (?_))
  have e : (!d.halted && wholeM d) = (wholeM d) := by simp [*]
  exact ⟨_, rfl, s4885.keep, (by first | exact congrArg Value.bool e.symm | rfl)⟩
set_option maxHeartbeats 4000000 in
set_option maxRecDepth 100000 in
theorem c_act3 {O : List Nat} (o_a : Addr) (o : DeviceOp) (d_a : Addr) (d : Device) (w : World) (h_o : PT Enc.devop w O (.pointer (some o_a)) o) (h_d : PT Enc.device w O (.pointer (some d_a)) d) (hpre0 : 0 ≤ d.counter) (hpre1 : d.counter ≤ 65535) (hO : ∀ b ∈ O, b < w.heap.size) : CallsK Try.prog 82 [.pointer (some o_a), .pointer (some d_a)] w (fun v _ => v = .bool ((o.device == d.id) && (o.no == d.counter + 1))) :=  by
 have h_o : PT Enc.devop w ([] ++ O) (.pointer (some o_a)) o := h_o
 have h_d : PT Enc.device w ([] ++ O) (.pointer (some d_a)) d := h_d
 have s0 : St w O w [] := St.start hO
 refine callsK_of 18 Try.func82 rfl rfl (of_decide_eq_true rfl) (fun F0 => ?_)
 refine cw_seq (?_)
 refine cw_region (by kernel_rfl) (wl_s (o_assign (Value.bool false) rfl (wl_nil (thenQ_n (?_)))))
 refine cw_seq (?_)
 refine cw_region (by kernel_rfl) (wl_s (o_fieldR 0 f_40_0 (o.device) rfl h_o (fun _ _ _ h => Enc_devop_f0 h) fun a4889 hp4890 => (wl_s (o_loadI Try.underlying3 rfl rfl hp4890 (wl_s (o_field0 f_112_0 rfl (wl_s (o_fieldR 0 f_31_0 (d.id) rfl h_d (fun _ _ _ h => Enc_device_f0 h) fun a4891 hp4892 => (wl_s (o_loadI Try.underlying3 rfl rfl hp4892 (wl_s (o_eql .i64 o.device d.id rfl rfl (wl_s (o_move (Value.bool (o.device == d.id)) rfl (?_)))))))))))))))
 cases hb4893 : (o.device == d.id)
 ·have hp4894 : o.device ≠ d.id := by first | simpa using hb4893 | (have e := hb4893; simp at e; omega)
  refine wl_k rfl (wl_k rfl (wl_k rfl (wl_k rfl (wl_k rfl (wl_k rfl (wl_k rfl (wl_s (o_pickF (Value.bool false) rfl rfl (wl_s (o_assign (Value.bool false) rfl (wl_nil (thenQ_n (?_)))))))))))))
  refine cw_ret (end_r rfl (res1 rfl rfl rfl) (?_))
  have e : ((o.device == d.id) && (o.no == d.counter + 1)) = false := by simp [*]
  exact ⟨_, rfl, s0.keep, (by first | exact congrArg Value.bool e.symm | rfl)⟩
 ·have hp4895 : o.device = d.id := by first | simpa using hb4893 | (have e := hb4893; simp at e; omega)
  refine wl_t rfl (o_fieldR 1 f_40_1 (o.no) rfl h_o (fun _ _ _ h => Enc_devop_f1 h) fun a4896 hp4897 => (wl_t rfl (o_loadI Try.underlying3 rfl rfl hp4897 (wl_t rfl (o_field0 f_112_0 rfl (wl_t rfl (o_fieldR 1 f_31_1 (d.counter) rfl h_d (fun _ _ _ h => Enc_device_f1 h) fun a4898 hp4899 => (wl_t rfl (o_loadI Try.underlying3 rfl rfl hp4899 (wl_t rfl (o_add .i64 d.counter (1 : Int) (d.counter + 1) rfl rfl (w64 (by omega) rfl) (wl_t rfl (o_eql .i64 o.no (d.counter + 1) rfl rfl (wl_s (o_pickT (Value.bool (o.no == (d.counter + 1))) rfl rfl (wl_s (o_assign (Value.bool (o.no == (d.counter + 1))) rfl (wl_nil (thenQ_n (?_))))))))))))))))))))
  refine cw_ret (end_r rfl (res1 rfl rfl rfl) (?_))
  have e : ((o.device == d.id) && (o.no == d.counter + 1)) = (o.no == (d.counter + 1)) := by simp [*]
  exact ⟨_, rfl, s0.keep, (by first | exact congrArg Value.bool e.symm | rfl)⟩
set_option maxHeartbeats 4000000 in
set_option maxRecDepth 100000 in
theorem c_act4 {O : List Nat} (d_a : Addr) (d : Device) (o_a : Addr) (o : DeviceOp) (w : World) (h_d : PT Enc.device w O (.pointer (some d_a)) d) (h_o : PT Enc.devop w O (.pointer (some o_a)) o) (hO : ∀ b ∈ O, b < w.heap.size) : CallsK Try.prog 83 [.pointer (some d_a), .pointer (some o_a)] w (fun v _ => v = .bool (!shownIn d.ops o)) :=  by
 have h_d : PT Enc.device w ([] ++ O) (.pointer (some d_a)) d := h_d
 have h_o : PT Enc.devop w ([] ++ O) (.pointer (some o_a)) o := h_o
 have s0 : St w O w [] := St.start hO
 refine callsK_of 9 Try.func83 rfl rfl (of_decide_eq_true rfl) (fun F0 => ?_)
 refine cw_seq (?_)
 refine cw_region (by kernel_rfl) (wl_s (o_assign (Value.bool false) rfl (wl_nil (thenQ_n (?_)))))
 refine cw_seq (?_)
 refine cw_region (by kernel_rfl) (wl_s (o_field0 f_112_0 rfl (wl_s (o_fieldR 2 f_31_2 (d.ops) rfl h_d (fun _ _ _ h => Enc_device_f2 h) fun a4900 hp4901 => (wl_s (o_loadL Try.underlying26 rfl rfl hp4901 fun v4902 hl4903 => (?_)))))))
 have := hl4903.len_le
 refine wl_s (o_makeFunc (first := []) (captured := [.tmp 1]) [] [Value.pointer (some o_a)] rfl rfl (wl_s (o_callK (vs := [v4902, Value.func (.func 84) #[] #[Value.pointer (some o_a)]]) enter_57 (c_containsF (O := [] ++ O) v4902 d.ops 84 [Value.pointer (some o_a)] (fun x_ => (x_.kind == 2) && (x_.copy == o.copy)) w hl4903 enter_84 (fun w'_ O'_ kk_ hs_ hl_ x__cs x_ hr_x_  => c_act41 (O := O'_) x__cs x_ o_a o w'_ hr_x_ (h_o.on hs_ kk_) hl_) s0.lt) rfl s0 fun v4904 w4905 s4906 m4907 k4908 r4909 => (?_))))
 obtain rfl := r4909
 refine wl_s (o_not (d.ops.any (fun x_ => (x_.kind == 2) && (x_.copy == o.copy))) rfl (wl_s (o_assign (Value.bool (!(d.ops.any (fun x_ => (x_.kind == 2) && (x_.copy == o.copy))))) rfl (wl_nil (thenQ_n (?_))))))
 refine cw_ret (end_r rfl (res1 rfl rfl rfl) (?_))
 have e : (!shownIn d.ops o) = (!(d.ops.any (fun x_ => (x_.kind == 2) && (x_.copy == o.copy)))) := rfl
 exact ⟨_, rfl, s4906.keep, (by first | exact congrArg Value.bool e.symm | rfl)⟩
set_option maxHeartbeats 4000000 in
set_option maxRecDepth 100000 in
theorem c_act {O : List Nat} (d_cs : List Value) (d : Device) (o_cs : List Value) (o : DeviceOp) (crash : Int) (w : World) (h_d : Enc.device.rd w O d_cs d) (h_o : Enc.devop.rd w O o_cs o) (hO : ∀ b ∈ O, b < w.heap.size) : CallsK Try.prog 40 [.agg d_cs.toArray, .agg o_cs.toArray, vI crash] w (fun v w' => ∃ (x0 : List Value), v = .tuple #[.agg x0.toArray, vI ((actM d o crash).2)] ∧ Enc.device.rd w' (O) x0 ((actM d o crash).1)) :=  by
 have h_d : Enc.device.rd w ([] ++ O) d_cs d := h_d
 obtain rfl := h_o
 have s0 : St w O w [] := St.start hO
 refine callsK_of 68 Try.func40 rfl rfl (of_decide_eq_true rfl) (fun F0 => ?_)
 refine cw_seq (?_)
 refine cw_region (by kernel_rfl) (wl_s (o_boxR (E := Enc.device) (Value.agg d_cs.toArray) (d_cs) d rfl rfl h_d s0 fun a4910 w4911 s4912 m4913 k4914 hp4915 => (?_)))
 refine wl_s (o_boxR (E := Enc.devop) (Value.agg #[vI o.device, vI o.no, vI o.kind, vI o.copy, vI o.to, vI o.token]) ([vI o.device, vI o.no, vI o.kind, vI o.copy, vI o.to, vI o.token]) o rfl rfl rfl s4912 fun a4916 w4917 s4918 m4919 k4920 hp4921 => (?_))
 have hp4915 := hp4915.mv m4919
 refine wl_s (o_boxR (E := Enc.int) (vI crash) ([vI crash]) crash rfl rfl rfl s4918 fun a4922 w4923 s4924 m4925 k4926 hp4927 => (?_))
 have hp4915 := hp4915.mv m4925
 have hp4921 := hp4921.mv m4925
 refine wl_s (o_alloc [vI (0 : Int), vI (0 : Int), Value.slice none 0 0, Value.bool false] z_31 rfl s4924 fun b4928 w4929 e4934 s4930 m4931 k4932 bx4933 => (?_))
 clear e4934
 have hp4915 := hp4915.mv m4931
 have hp4921 := hp4921.mv m4931
 have hp4927 := hp4927.mv m4931
 refine wl_s (o_assign (vI (0 : Int)) rfl (wl_nil (thenQ_n (?_))))
 refine cw_seq (?_)
 refine cw_region (by kernel_rfl) (wl_s (o_loadS Try.underlying31 rfl s_31 rfl hp4915 fun cs4935 hs4936 => (?_)))
 obtain ⟨d4937, rfl, hd4938⟩ := hs4936
 have := hd4938.len_le
 refine wl_s (o_build (l := [(0, .tmp 13)]) pl_112 z_112 rfl [(0, Value.agg #[vI d.id, vI d.counter, d4937, Value.bool d.halted], [vI d.id, vI d.counter, d4937, Value.bool d.halted])] [vI d.id, vI d.counter, d4937, Value.bool d.halted] rfl ⟨_, rfl, rfl, (of_decide_eq_true rfl), rfl⟩ (wl_s (o_alloc [vI (0 : Int), vI (0 : Int), Value.slice none 0 0, Value.bool false] z_112 rfl s4930 fun b4939 w4940 e4945 s4941 m4942 k4943 bx4944 => (?_))))
 have ne4946 : NeB b4928 b4939 := by show b4928 ≠ b4939; have := bx4933.lt; omega
 clear e4945
 have hp4921 := hp4921.mv m4942
 have hp4927 := hp4927.mv m4942
 have hd4938 := hd4938.mv m4942
 have bx4933 := bx4933.keep k4943 (by simp)
 refine wl_n (o_store (vs := [vI d.id, vI d.counter, d4937, Value.bool d.halted]) (.agg #[vI d.id, vI d.counter, d4937, Value.bool d.halted]) rfl rfl rfl s_112 (fun u hu => by simp only [List.mem_cons, List.not_mem_nil, or_false] at hu; rcases hu with rfl | rfl | rfl | rfl <;> first | rfl | exact hd4938.oneCell) (by repeat (first | assumption | constructor)) bx4944 (of_decide_eq_true rfl) s4941 fun w4947 s4948 m4949 k4950 bx4951 => (?_))
 have hp4921 := hp4921.mv m4949
 have hp4927 := hp4927.mv m4949
 have hd4938 := hd4938.mv m4949
 have bx4933 := bx4933.keep k4950 (nin1 ne4946)
 refine wl_nil (thenQ_n (?_))
 refine cw_seq (?_)
 refine cw_region (by kernel_rfl) (wl_s (o_makeFunc (first := []) (captured := [.tmp 5]) [] [Value.pointer (some a4922)] rfl rfl (wl_s (o_build (l := [(0, .tmp 15), (1, .const (vI (1 : Int)))]) pl_113 z_113 rfl [(0, Value.func (.func 78) #[] #[Value.pointer (some a4922)], [Value.func (.func 78) #[] #[Value.pointer (some a4922)]]), (1, vI (1 : Int), [vI (1 : Int)])] [Value.func (.func 78) #[] #[Value.pointer (some a4922)], vI (1 : Int)] rfl ⟨_, rfl, rfl, (of_decide_eq_true rfl), ⟨_, rfl, rfl, (of_decide_eq_true rfl), rfl⟩⟩ (wl_s (o_loadBxA (vs := [vI d.id, vI d.counter, d4937, Value.bool d.halted]) Try.underlying112 rfl s_112 rfl bx4951 rfl (wl_s (o_makeFunc (first := [.tmp 17]) (captured := []) [Value.agg #[vI d.id, vI d.counter, d4937, Value.bool d.halted]] [] rfl rfl (wl_s (o_build (l := [(0, .tmp 18), (1, .const (vI (420 : Int)))]) pl_113 z_113 rfl [(0, Value.func (.func 79) #[Value.agg #[vI d.id, vI d.counter, d4937, Value.bool d.halted]] #[], [Value.func (.func 79) #[Value.agg #[vI d.id, vI d.counter, d4937, Value.bool d.halted]] #[]]), (1, vI (420 : Int), [vI (420 : Int)])] [Value.func (.func 79) #[Value.agg #[vI d.id, vI d.counter, d4937, Value.bool d.halted]] #[], vI (420 : Int)] rfl ⟨_, rfl, rfl, (of_decide_eq_true rfl), ⟨_, rfl, rfl, (of_decide_eq_true rfl), rfl⟩⟩ (wl_s (o_makeFunc (first := []) (captured := [.tmp 8]) [] [Value.pointer (some ⟨b4939, 0, none⟩)] rfl rfl (wl_s (o_build (l := [(0, .tmp 20), (1, .const (vI (430 : Int)))]) pl_113 z_113 rfl [(0, Value.func (.func 80) #[] #[Value.pointer (some ⟨b4939, 0, none⟩)], [Value.func (.func 80) #[] #[Value.pointer (some ⟨b4939, 0, none⟩)]]), (1, vI (430 : Int), [vI (430 : Int)])] [Value.func (.func 80) #[] #[Value.pointer (some ⟨b4939, 0, none⟩)], vI (430 : Int)] rfl ⟨_, rfl, rfl, (of_decide_eq_true rfl), ⟨_, rfl, rfl, (of_decide_eq_true rfl), rfl⟩⟩ (wl_s (o_makeFunc (first := []) (captured := [.tmp 4, .tmp 8]) [] [Value.pointer (some a4916), Value.pointer (some ⟨b4939, 0, none⟩)] rfl rfl (wl_s (o_build (l := [(0, .tmp 22), (1, .const (vI (420 : Int)))]) pl_113 z_113 rfl [(0, Value.func (.func 82) #[] #[Value.pointer (some a4916), Value.pointer (some ⟨b4939, 0, none⟩)], [Value.func (.func 82) #[] #[Value.pointer (some a4916), Value.pointer (some ⟨b4939, 0, none⟩)]]), (1, vI (420 : Int), [vI (420 : Int)])] [Value.func (.func 82) #[] #[Value.pointer (some a4916), Value.pointer (some ⟨b4939, 0, none⟩)], vI (420 : Int)] rfl ⟨_, rfl, rfl, (of_decide_eq_true rfl), ⟨_, rfl, rfl, (of_decide_eq_true rfl), rfl⟩⟩ (wl_s (o_makeFunc (first := []) (captured := [.tmp 8, .tmp 4]) [] [Value.pointer (some ⟨b4939, 0, none⟩), Value.pointer (some a4916)] rfl rfl (wl_s (o_build (l := [(0, .tmp 24), (1, .const (vI (420 : Int)))]) pl_113 z_113 rfl [(0, Value.func (.func 83) #[] #[Value.pointer (some ⟨b4939, 0, none⟩), Value.pointer (some a4916)], [Value.func (.func 83) #[] #[Value.pointer (some ⟨b4939, 0, none⟩), Value.pointer (some a4916)]]), (1, vI (420 : Int), [vI (420 : Int)])] [Value.func (.func 83) #[] #[Value.pointer (some ⟨b4939, 0, none⟩), Value.pointer (some a4916)], vI (420 : Int)] rfl ⟨_, rfl, rfl, (of_decide_eq_true rfl), ⟨_, rfl, rfl, (of_decide_eq_true rfl), rfl⟩⟩ (wl_s (o_lit (E := (Enc.cells 2)) (xs := [.tmp 16, .tmp 19, .tmp 21, .tmp 23, .tmp 25]) Try.underlying114 s_113 z_113 (by decide) [Value.agg #[Value.func (.func 78) #[] #[Value.pointer (some a4922)], vI (1 : Int)], Value.agg #[Value.func (.func 79) #[Value.agg #[vI d.id, vI d.counter, d4937, Value.bool d.halted]] #[], vI (420 : Int)], Value.agg #[Value.func (.func 80) #[] #[Value.pointer (some ⟨b4939, 0, none⟩)], vI (430 : Int)], Value.agg #[Value.func (.func 82) #[] #[Value.pointer (some a4916), Value.pointer (some ⟨b4939, 0, none⟩)], vI (420 : Int)], Value.agg #[Value.func (.func 83) #[] #[Value.pointer (some ⟨b4939, 0, none⟩), Value.pointer (some a4916)], vI (420 : Int)]] [[Value.func (.func 78) #[] #[Value.pointer (some a4922)], vI (1 : Int)], [Value.func (.func 79) #[Value.agg #[vI d.id, vI d.counter, d4937, Value.bool d.halted]] #[], vI (420 : Int)], [Value.func (.func 80) #[] #[Value.pointer (some ⟨b4939, 0, none⟩)], vI (430 : Int)], [Value.func (.func 82) #[] #[Value.pointer (some a4916), Value.pointer (some ⟨b4939, 0, none⟩)], vI (420 : Int)], [Value.func (.func 83) #[] #[Value.pointer (some ⟨b4939, 0, none⟩), Value.pointer (some a4916)], vI (420 : Int)]] [[Value.func (.func 78) #[] #[Value.pointer (some a4922)], vI (1 : Int)], [Value.func (.func 79) #[Value.agg #[vI d.id, vI d.counter, d4937, Value.bool d.halted]] #[], vI (420 : Int)], [Value.func (.func 80) #[] #[Value.pointer (some ⟨b4939, 0, none⟩)], vI (430 : Int)], [Value.func (.func 82) #[] #[Value.pointer (some a4916), Value.pointer (some ⟨b4939, 0, none⟩)], vI (420 : Int)], [Value.func (.func 83) #[] #[Value.pointer (some ⟨b4939, 0, none⟩), Value.pointer (some a4916)], vI (420 : Int)]] rfl rfl rfl (Parts.cons rfl ⟨rfl, rfl, (fun u hu => by simp only [List.mem_cons, List.not_mem_nil, or_false] at hu; rcases hu with rfl | rfl <;> rfl)⟩ (Parts.cons rfl ⟨rfl, rfl, (fun u hu => by simp only [List.mem_cons, List.not_mem_nil, or_false] at hu; rcases hu with rfl | rfl <;> rfl)⟩ (Parts.cons rfl ⟨rfl, rfl, (fun u hu => by simp only [List.mem_cons, List.not_mem_nil, or_false] at hu; rcases hu with rfl | rfl <;> rfl)⟩ (Parts.cons rfl ⟨rfl, rfl, (fun u hu => by simp only [List.mem_cons, List.not_mem_nil, or_false] at hu; rcases hu with rfl | rfl <;> rfl)⟩ (Parts.cons rfl ⟨rfl, rfl, (fun u hu => by simp only [List.mem_cons, List.not_mem_nil, or_false] at hu; rcases hu with rfl | rfl <;> rfl)⟩ (Parts.nil _ _ _)))))) (of_decide_eq_true rfl) s4948 fun v4956 w4952 s4953 m4954 k4955 hl4957 => (?_)))))))))))))))))))))))))
 have hp4921 := hp4921.mv m4954
 have hp4927 := hp4927.mv m4954
 have hd4938 := hd4938.mv m4954
 have bx4933 := bx4933.keep k4955 (by simp)
 have bx4951 := bx4951.keep k4955 (by simp)
 refine wl_s (o_assign (v4956) rfl (wl_nil (thenQ_n (?_))))
 refine cw_seq (?_)
 refine cw_seq (?_)
 refine cw_region (by kernel_rfl) (wl_s (o_move (v4956) rfl (wl_s (o_lenR Try.underlying114 rfl hl4957 (wl_s (o_move (vI (0 : Int)) rfl (wl_nil (thenQ_n (?_)))))))))
 refine cw_block (?_)
 refine cw_unroll 6 (cwr_step ?_)
 refine cw_seq (?_)
 refine cw_region (by kernel_rfl) (wl_s (o_lss .i64 (0 : Int) (5 : Int) rfl rfl (wl_nil (thenQ_n (?_)))))
 refine cw_seq (?_)
 refine cw_cond true rfl rfl (fun _ => ?_) (fun h => by cases h)
 refine cw_skip (thenQ_n (?_))
 refine cw_seq (?_)
 refine cw_block (?_)
 refine cw_seq (?_)
 refine cw_region (by kernel_rfl) (wl_s (o_idx Try.underlying114 s_113 .i64 (0 : Int) 0 rfl rfl rfl hl4957 (show 0 < 5 by decide) fun a4958 hp4959 => (wl_s (o_loadS Try.underlying113 rfl s_113 rfl hp4959 fun cs4960 hs4961 => (?_)))))
 obtain rfl : cs4960 = [Value.func (.func 78) #[] #[Value.pointer (some a4922)], vI (1 : Int)] := hs4961.1
 refine wl_s (o_alloc [Value.nilFunc, vI (0 : Int)] z_113 rfl s4953 fun b4962 w4963 e4968 s4964 m4965 k4966 bx4967 => (?_))
 have ne4969 : NeB b4928 b4962 := by show b4928 ≠ b4962; have := bx4933.lt; omega
 have ne4970 : NeB b4939 b4962 := by show b4939 ≠ b4962; have := bx4951.lt; omega
 clear e4968
 have hp4921 := hp4921.mv m4965
 have hp4927 := hp4927.mv m4965
 have hl4957 := hl4957.mv m4965
 have hd4938 := hd4938.mv m4965
 have bx4933 := bx4933.keep k4966 (by simp)
 have bx4951 := bx4951.keep k4966 (by simp)
 refine wl_n (o_store (vs := [Value.func (.func 78) #[] #[Value.pointer (some a4922)], vI (1 : Int)]) (.agg #[Value.func (.func 78) #[] #[Value.pointer (some a4922)], vI (1 : Int)]) rfl rfl rfl s_113 (fun u hu => by simp only [List.mem_cons, List.not_mem_nil, or_false] at hu; rcases hu with rfl | rfl <;> first | rfl) (by repeat (first | assumption | constructor)) bx4967 (of_decide_eq_true rfl) s4964 fun w4971 s4972 m4973 k4974 bx4975 => (?_))
 have hp4921 := hp4921.mv m4973
 have hp4927 := hp4927.mv m4973
 have hl4957 := hl4957.mv m4973
 have hd4938 := hd4938.mv m4973
 have bx4933 := bx4933.keep k4974 (nin1 ne4969)
 have bx4951 := bx4951.keep k4974 (nin1 ne4970)
 refine wl_nil (thenQ_n (?_))
 refine cw_seq (?_)
 refine cw_region (by kernel_rfl) (wl_s (o_fieldL 0 f_113_0 rfl (wl_s (o_loadBx Try.underlying23 rfl (Value.func (.func 78) #[] #[Value.pointer (some a4922)]) rfl bx4975 rfl (wl_s (o_callvK (vs := [Value.pointer (some a4922)]) [] [Value.pointer (some a4922)] [] enter_78 rfl (c_act1 (O := (b4962 :: (b4939 :: (b4928 :: []))) ++ O) a4922 crash w4971 hp4927 s4972.lt) rfl rfl s4972 fun v4976 w4977 s4978 m4979 k4980 r4981 => (?_)))))))
 obtain rfl := r4981
 have hp4921 := hp4921.mv m4979
 have hp4927 := hp4927.mv m4979
 have hl4957 := hl4957.mv m4979
 have hd4938 := hd4938.mv m4979
 have bx4933 := bx4933.keep k4980 (by simp)
 have bx4951 := bx4951.keep k4980 (by simp)
 have bx4975 := bx4975.keep k4980 (by simp)
 refine wl_s (o_not (decide (0 ≤ crash) && decide (crash ≤ 2)) rfl (wl_nil (thenQ_n (?_))))
 refine cw_cond (!(decide (0 ≤ crash) && decide (crash ≤ 2))) rfl rfl (fun hc4982 => ?_) (fun hc4982 => ?_)
 ·have hp4983 : (decide (0 ≤ crash) && decide (crash ≤ 2)) = false := by first | simpa using hc4982 | (have e := hc4982; rw [Bool.not_eq_true'] at e; exact e) | (have e := hc4982; rw [Bool.not_eq_false'] at e; exact e) | (have e := hc4982; simp at e; omega)
  refine cw_seq (?_)
  refine cw_drawL 3 [1, 2] _ _ _ [isV (Value.agg #[vI (0 : Int), vI (0 : Int), Value.slice none 0 0, Value.bool false]), isV (Value.pointer (some ⟨b4962, 1, none⟩)), isV (vI (1 : Int))] (by kernel_rfl) (by kernel_rfl) (by kernel_rfl) (by kernel_rfl) (by decide) rfl rfl rfl ⟨kI, kI, kI, trivial⟩ ⟨?_, ?_, ?_, trivial⟩ ?_ ?_
  ·intro F1 w1 k1 hf hd
   have k0 := (Keep.drew [] w4977).trans k1
   have bx4933 := bx4933.keep k0 (by simp)
   obtain ⟨F2, rfl⟩ := lit_of (F := F1) [(6, Value.pointer (some ⟨b4928, 0, none⟩))] ⟨hf 6 (by kernel_rfl), trivial⟩
   exact sp_plain rfl ((o_loadBxA (vs := [vI (0 : Int), vI (0 : Int), Value.slice none 0 0, Value.bool false]) Try.underlying31 rfl s_31 rfl bx4933 rfl (⟨(Keep.refl _ _), rfl⟩)))
  ·intro F1 w1 k1 hf hd
   obtain ⟨F2, rfl⟩ := lit_of (F := F1) [(11, Value.pointer (some ⟨b4962, 0, none⟩))] ⟨hf 11 (by kernel_rfl), trivial⟩
   exact sp_plain rfl ((o_fieldL 1 f_113_1 rfl (⟨(Keep.refl _ _), rfl⟩)))
  ·intro F1 w1 k1 hf hd
   have k0 := (Keep.drew [] w4977).trans k1
   have bx4975 := bx4975.keep k0 (by simp)
   obtain ⟨F2, rfl⟩ := lit_of (F := F1) [(38, Value.pointer (some ⟨b4962, 1, none⟩))] ⟨hd 1 38 (by kernel_rfl), trivial⟩
   exact sp_plain rfl ((o_loadBx Try.underlying32 rfl (vI (1 : Int)) rfl bx4975 rfl (⟨(Keep.refl _ _), rfl⟩)))
  ·intro F4985 w4986 k4984 hT4987 hF4988
   have s4989 := s4978.call k4984
   have bx4933 := bx4933.keep k4984 (by simp)
   obtain ⟨F2, rfl⟩ := lit_of (F := F4985) [(6, Value.pointer (some ⟨b4928, 0, none⟩)), (7, vI (0 : Int)), (68, undef), (37, Value.agg #[vI (0 : Int), vI (0 : Int), Value.slice none 0 0, Value.bool false]), (39, vI (1 : Int))] ⟨hF4988 6 (by kernel_rfl), hF4988 7 (by kernel_rfl), hF4988 68 (by kernel_rfl), hT4987 0 37 (by kernel_rfl) (by decide), hT4987 2 39 (by kernel_rfl) (by decide), trivial⟩
   clear hT4987 hF4988
   refine wl_n (o_store (vs := [vI (0 : Int), vI (0 : Int), Value.slice none 0 0, Value.bool false]) (.agg #[vI (0 : Int), vI (0 : Int), Value.slice none 0 0, Value.bool false]) rfl rfl rfl s_31 (fun u hu => by simp only [List.mem_cons, List.not_mem_nil, or_false] at hu; rcases hu with rfl | rfl | rfl | rfl <;> first | rfl) (by repeat (first | assumption | constructor)) bx4933 (of_decide_eq_true rfl) s4989 fun w4993 s4994 m4995 k4996 bx4997 => (?_))
   refine wl_s (o_assign (vI (1 : Int)) rfl (wl_nil (thenQ_n (?_))))
   refine cw_ret (blockQ_r (thenQ_r (thenQ_r (blockQ_r (thenQ_r (end_r rfl (resv2 rfl (rv_A (vs := [vI (0 : Int), vI (0 : Int), Value.slice none 0 0, Value.bool false]) rfl Try.underlying31 rfl s_31 rfl bx4997 rfl) (rv_t rfl rfl)) (?_)))))))
   have e4998 : ((actM d o crash).1) = (⟨(0 : Int), (0 : Int), [], false⟩ : Device) := by exact congrArg (fun p => p.1) (show actM d o crash = _ from act_1b (by assumption))
   have e4999 : ((actM d o crash).2) = (1 : Int) := by exact congrArg (fun p => p.2) (show actM d o crash = _ from act_1b (by assumption))
   exact ⟨_, rfl, s4994.keep, by rw [e4998, e4999]; exact ⟨[vI (0 : Int), vI (0 : Int), Value.slice none 0 0, Value.bool false], rfl, Enc.out (B := (b4962 :: (b4939 :: (b4928 :: [])))) ⟨.slice none 0 0, rfl, (RdL.nil _ _ _)⟩⟩⟩
  ·intro cx_ hcx_
   match cx_, hcx_ with
   | 0, _ =>
    intro F5001 w5002 k5000 hT5003 hF5004
    have s5005 := s4978.call k5000
    have bx4933 := bx4933.keep k5000 (by simp)
    have bx4975 := bx4975.keep k5000 (by simp)
    obtain ⟨F2, rfl⟩ := lit_of (F := F5001) [(6, Value.pointer (some ⟨b4928, 0, none⟩)), (7, vI (0 : Int)), (11, Value.pointer (some ⟨b4962, 0, none⟩)), (68, undef), (37, Value.agg #[vI (0 : Int), vI (0 : Int), Value.slice none 0 0, Value.bool false])] ⟨hF5004 6 (by kernel_rfl), hF5004 7 (by kernel_rfl), hF5004 11 (by kernel_rfl), hF5004 68 (by kernel_rfl), hT5003 0 37 (by kernel_rfl) (by decide) (by decide), trivial⟩
    clear hT5003 hF5004
    refine wl_n (o_store (vs := [vI (0 : Int), vI (0 : Int), Value.slice none 0 0, Value.bool false]) (.agg #[vI (0 : Int), vI (0 : Int), Value.slice none 0 0, Value.bool false]) rfl rfl rfl s_31 (fun u hu => by simp only [List.mem_cons, List.not_mem_nil, or_false] at hu; rcases hu with rfl | rfl | rfl | rfl <;> first | rfl) (by repeat (first | assumption | constructor)) bx4933 (of_decide_eq_true rfl) s5005 fun w5009 s5010 m5011 k5012 bx5013 => (?_))
    have bx4975 := bx4975.keep k5012 (nin1 (Ne.symm ne4969))
    refine wl_s (o_fieldL 1 f_113_1 rfl (wl_s (o_loadBx Try.underlying32 rfl (vI (1 : Int)) rfl bx4975 rfl (wl_s (o_assign (vI (1 : Int)) rfl (wl_nil (thenQ_n (?_))))))))
    refine cw_ret (blockQ_r (thenQ_r (thenQ_r (blockQ_r (thenQ_r (end_r rfl (resv2 rfl (rv_A (vs := [vI (0 : Int), vI (0 : Int), Value.slice none 0 0, Value.bool false]) rfl Try.underlying31 rfl s_31 rfl bx5013 rfl) (rv_t rfl rfl)) (?_)))))))
    have e5014 : ((actM d o crash).1) = (⟨(0 : Int), (0 : Int), [], false⟩ : Device) := by exact congrArg (fun p => p.1) (show actM d o crash = _ from act_1b (by assumption))
    have e5015 : ((actM d o crash).2) = (1 : Int) := by exact congrArg (fun p => p.2) (show actM d o crash = _ from act_1b (by assumption))
    exact ⟨_, rfl, s5010.keep, by rw [e5014, e5015]; exact ⟨[vI (0 : Int), vI (0 : Int), Value.slice none 0 0, Value.bool false], rfl, Enc.out (B := (b4962 :: (b4939 :: (b4928 :: [])))) ⟨.slice none 0 0, rfl, (RdL.nil _ _ _)⟩⟩⟩
   | 1, _ =>
    intro F5017 w5018 k5016 hT5019 hF5020
    have s5021 := s4978.call k5016
    have bx4933 := bx4933.keep k5016 (by simp)
    have bx4975 := bx4975.keep k5016 (by simp)
    obtain ⟨F2, rfl⟩ := lit_of (F := F5017) [(6, Value.pointer (some ⟨b4928, 0, none⟩)), (7, vI (0 : Int)), (68, undef), (37, Value.agg #[vI (0 : Int), vI (0 : Int), Value.slice none 0 0, Value.bool false]), (38, Value.pointer (some ⟨b4962, 1, none⟩))] ⟨hF5020 6 (by kernel_rfl), hF5020 7 (by kernel_rfl), hF5020 68 (by kernel_rfl), hT5019 0 37 (by kernel_rfl) (by decide) (by decide), hT5019 1 38 (by kernel_rfl) (by decide) (by decide), trivial⟩
    clear hT5019 hF5020
    refine wl_n (o_store (vs := [vI (0 : Int), vI (0 : Int), Value.slice none 0 0, Value.bool false]) (.agg #[vI (0 : Int), vI (0 : Int), Value.slice none 0 0, Value.bool false]) rfl rfl rfl s_31 (fun u hu => by simp only [List.mem_cons, List.not_mem_nil, or_false] at hu; rcases hu with rfl | rfl | rfl | rfl <;> first | rfl) (by repeat (first | assumption | constructor)) bx4933 (of_decide_eq_true rfl) s5021 fun w5025 s5026 m5027 k5028 bx5029 => (?_))
    have bx4975 := bx4975.keep k5028 (nin1 (Ne.symm ne4969))
    refine wl_s (o_loadBx Try.underlying32 rfl (vI (1 : Int)) rfl bx4975 rfl (wl_s (o_assign (vI (1 : Int)) rfl (wl_nil (thenQ_n (?_))))))
    refine cw_ret (blockQ_r (thenQ_r (thenQ_r (blockQ_r (thenQ_r (end_r rfl (resv2 rfl (rv_A (vs := [vI (0 : Int), vI (0 : Int), Value.slice none 0 0, Value.bool false]) rfl Try.underlying31 rfl s_31 rfl bx5029 rfl) (rv_t rfl rfl)) (?_)))))))
    have e5030 : ((actM d o crash).1) = (⟨(0 : Int), (0 : Int), [], false⟩ : Device) := by exact congrArg (fun p => p.1) (show actM d o crash = _ from act_1b (by assumption))
    have e5031 : ((actM d o crash).2) = (1 : Int) := by exact congrArg (fun p => p.2) (show actM d o crash = _ from act_1b (by assumption))
    exact ⟨_, rfl, s5026.keep, by rw [e5030, e5031]; exact ⟨[vI (0 : Int), vI (0 : Int), Value.slice none 0 0, Value.bool false], rfl, Enc.out (B := (b4962 :: (b4939 :: (b4928 :: [])))) ⟨.slice none 0 0, rfl, (RdL.nil _ _ _)⟩⟩⟩
 ·have hp5032 : (decide (0 ≤ crash) && decide (crash ≤ 2)) = true := by first | simpa using hc4982 | (have e := hc4982; rw [Bool.not_eq_true'] at e; exact e) | (have e := hc4982; rw [Bool.not_eq_false'] at e; exact e) | (have e := hc4982; simp at e; omega)
  have hcr : 0 ≤ crash ∧ crash ≤ 2 := by simpa using hc4982
  refine cw_skip (blockQ_n (thenQ_n (?_)))
  refine cw_region (by kernel_rfl) (wl_s (o_add .i64 (0 : Int) (1 : Int) ((1 : Int)) rfl rfl (w64 (by omega) (by omega)) (wl_s (o_move (vI (1 : Int)) rfl (wl_nil (thenQ_n (?_)))))))
  refine cwr_step ?_
  refine cw_seq (?_)
  refine cw_region (by kernel_rfl) (wl_s (o_lss .i64 (1 : Int) (5 : Int) rfl rfl (wl_nil (thenQ_n (?_)))))
  refine cw_seq (?_)
  refine cw_cond true rfl rfl (fun _ => ?_) (fun h => by cases h)
  refine cw_skip (thenQ_n (?_))
  refine cw_seq (?_)
  refine cw_block (?_)
  refine cw_seq (?_)
  refine cw_region (by kernel_rfl) (wl_s (o_idx Try.underlying114 s_113 .i64 (1 : Int) 1 rfl rfl rfl hl4957 (show 1 < 5 by decide) fun a5033 hp5034 => (wl_s (o_loadS Try.underlying113 rfl s_113 rfl hp5034 fun cs5035 hs5036 => (?_)))))
  obtain rfl : cs5035 = [Value.func (.func 79) #[Value.agg #[vI d.id, vI d.counter, d4937, Value.bool d.halted]] #[], vI (420 : Int)] := hs5036.1
  refine wl_s (o_alloc [Value.nilFunc, vI (0 : Int)] z_113 rfl s4978 fun b5037 w5038 e5043 s5039 m5040 k5041 bx5042 => (?_))
  have ne5044 : NeB b4928 b5037 := by show b4928 ≠ b5037; have := bx4933.lt; omega
  have ne5045 : NeB b4939 b5037 := by show b4939 ≠ b5037; have := bx4951.lt; omega
  have ne5046 : NeB b4962 b5037 := by show b4962 ≠ b5037; have := bx4975.lt; omega
  clear e5043
  have hp4921 := hp4921.mv m5040
  have hp4927 := hp4927.mv m5040
  have hl4957 := hl4957.mv m5040
  have hd4938 := hd4938.mv m5040
  have bx4933 := bx4933.keep k5041 (by simp)
  have bx4951 := bx4951.keep k5041 (by simp)
  have bx4975 := bx4975.keep k5041 (by simp)
  refine wl_n (o_store (vs := [Value.func (.func 79) #[Value.agg #[vI d.id, vI d.counter, d4937, Value.bool d.halted]] #[], vI (420 : Int)]) (.agg #[Value.func (.func 79) #[Value.agg #[vI d.id, vI d.counter, d4937, Value.bool d.halted]] #[], vI (420 : Int)]) rfl rfl rfl s_113 (fun u hu => by simp only [List.mem_cons, List.not_mem_nil, or_false] at hu; rcases hu with rfl | rfl <;> first | rfl) (by repeat (first | assumption | constructor)) bx5042 (of_decide_eq_true rfl) s5039 fun w5047 s5048 m5049 k5050 bx5051 => (?_))
  have hp4921 := hp4921.mv m5049
  have hp4927 := hp4927.mv m5049
  have hl4957 := hl4957.mv m5049
  have hd4938 := hd4938.mv m5049
  have bx4933 := bx4933.keep k5050 (nin1 ne5044)
  have bx4951 := bx4951.keep k5050 (nin1 ne5045)
  have bx4975 := bx4975.keep k5050 (nin1 ne5046)
  refine wl_nil (thenQ_n (?_))
  refine cw_seq (?_)
  refine cw_region (by kernel_rfl) (wl_s (o_fieldL 0 f_113_0 rfl (wl_s (o_loadBx Try.underlying23 rfl (Value.func (.func 79) #[Value.agg #[vI d.id, vI d.counter, d4937, Value.bool d.halted]] #[]) rfl bx5051 rfl (wl_s (o_callvK (vs := [Value.agg #[vI d.id, vI d.counter, d4937, Value.bool d.halted]]) [Value.agg #[vI d.id, vI d.counter, d4937, Value.bool d.halted]] [] [] enter_79 rfl (c_formed (O := (b5037 :: (b4962 :: (b4939 :: (b4928 :: [])))) ++ O) [vI d.id, vI d.counter, d4937, Value.bool d.halted] d w5047 ⟨_, rfl, hd4938⟩ s5048.lt) rfl rfl s5048 fun v5052 w5053 s5054 m5055 k5056 r5057 => (?_)))))))
  obtain rfl := r5057
  have hp4921 := hp4921.mv m5055
  have hp4927 := hp4927.mv m5055
  have hl4957 := hl4957.mv m5055
  have hd4938 := hd4938.mv m5055
  have bx4933 := bx4933.keep k5056 (by simp)
  have bx4951 := bx4951.keep k5056 (by simp)
  have bx4975 := bx4975.keep k5056 (by simp)
  have bx5051 := bx5051.keep k5056 (by simp)
  refine wl_s (o_not (formedM d) rfl (wl_nil (thenQ_n (?_))))
  refine cw_cond (!(formedM d)) rfl rfl (fun hc5058 => ?_) (fun hc5058 => ?_)
  ·have hp5059 : (formedM d) = false := by first | simpa using hc5058 | (have e := hc5058; rw [Bool.not_eq_true'] at e; exact e) | (have e := hc5058; rw [Bool.not_eq_false'] at e; exact e) | (have e := hc5058; simp at e; omega)
   refine cw_seq (?_)
   refine cw_drawL 3 [1, 2] _ _ _ [isV (Value.agg #[vI (0 : Int), vI (0 : Int), Value.slice none 0 0, Value.bool false]), isV (Value.pointer (some ⟨b5037, 1, none⟩)), isV (vI (420 : Int))] (by kernel_rfl) (by kernel_rfl) (by kernel_rfl) (by kernel_rfl) (by decide) rfl rfl rfl ⟨kI, kI, kI, trivial⟩ ⟨?_, ?_, ?_, trivial⟩ ?_ ?_
   ·intro F1 w1 k1 hf hd
    have k0 := (Keep.drew [] w5053).trans k1
    have bx4933 := bx4933.keep k0 (by simp)
    obtain ⟨F2, rfl⟩ := lit_of (F := F1) [(6, Value.pointer (some ⟨b4928, 0, none⟩))] ⟨hf 6 (by kernel_rfl), trivial⟩
    exact sp_plain rfl ((o_loadBxA (vs := [vI (0 : Int), vI (0 : Int), Value.slice none 0 0, Value.bool false]) Try.underlying31 rfl s_31 rfl bx4933 rfl (⟨(Keep.refl _ _), rfl⟩)))
   ·intro F1 w1 k1 hf hd
    obtain ⟨F2, rfl⟩ := lit_of (F := F1) [(11, Value.pointer (some ⟨b5037, 0, none⟩))] ⟨hf 11 (by kernel_rfl), trivial⟩
    exact sp_plain rfl ((o_fieldL 1 f_113_1 rfl (⟨(Keep.refl _ _), rfl⟩)))
   ·intro F1 w1 k1 hf hd
    have k0 := (Keep.drew [] w5053).trans k1
    have bx5051 := bx5051.keep k0 (by simp)
    obtain ⟨F2, rfl⟩ := lit_of (F := F1) [(38, Value.pointer (some ⟨b5037, 1, none⟩))] ⟨hd 1 38 (by kernel_rfl), trivial⟩
    exact sp_plain rfl ((o_loadBx Try.underlying32 rfl (vI (420 : Int)) rfl bx5051 rfl (⟨(Keep.refl _ _), rfl⟩)))
   ·intro F5061 w5062 k5060 hT5063 hF5064
    have s5065 := s5054.call k5060
    have bx4933 := bx4933.keep k5060 (by simp)
    obtain ⟨F2, rfl⟩ := lit_of (F := F5061) [(6, Value.pointer (some ⟨b4928, 0, none⟩)), (7, vI (0 : Int)), (68, undef), (37, Value.agg #[vI (0 : Int), vI (0 : Int), Value.slice none 0 0, Value.bool false]), (39, vI (420 : Int))] ⟨hF5064 6 (by kernel_rfl), hF5064 7 (by kernel_rfl), hF5064 68 (by kernel_rfl), hT5063 0 37 (by kernel_rfl) (by decide), hT5063 2 39 (by kernel_rfl) (by decide), trivial⟩
    clear hT5063 hF5064
    refine wl_n (o_store (vs := [vI (0 : Int), vI (0 : Int), Value.slice none 0 0, Value.bool false]) (.agg #[vI (0 : Int), vI (0 : Int), Value.slice none 0 0, Value.bool false]) rfl rfl rfl s_31 (fun u hu => by simp only [List.mem_cons, List.not_mem_nil, or_false] at hu; rcases hu with rfl | rfl | rfl | rfl <;> first | rfl) (by repeat (first | assumption | constructor)) bx4933 (of_decide_eq_true rfl) s5065 fun w5069 s5070 m5071 k5072 bx5073 => (?_))
    refine wl_s (o_assign (vI (420 : Int)) rfl (wl_nil (thenQ_n (?_))))
    refine cw_ret (blockQ_r (thenQ_r (thenQ_r (blockQ_r (thenQ_r (end_r rfl (resv2 rfl (rv_A (vs := [vI (0 : Int), vI (0 : Int), Value.slice none 0 0, Value.bool false]) rfl Try.underlying31 rfl s_31 rfl bx5073 rfl) (rv_t rfl rfl)) (?_)))))))
    have e5074 : ((actM d o crash).1) = (⟨(0 : Int), (0 : Int), [], false⟩ : Device) := by exact congrArg (fun p => p.1) (show actM d o crash = _ from act_2 hcr.1 hcr.2 (by assumption))
    have e5075 : ((actM d o crash).2) = (420 : Int) := by exact congrArg (fun p => p.2) (show actM d o crash = _ from act_2 hcr.1 hcr.2 (by assumption))
    exact ⟨_, rfl, s5070.keep, by rw [e5074, e5075]; exact ⟨[vI (0 : Int), vI (0 : Int), Value.slice none 0 0, Value.bool false], rfl, Enc.out (B := (b5037 :: (b4962 :: (b4939 :: (b4928 :: []))))) ⟨.slice none 0 0, rfl, (RdL.nil _ _ _)⟩⟩⟩
   ·intro cx_ hcx_
    match cx_, hcx_ with
    | 0, _ =>
     intro F5077 w5078 k5076 hT5079 hF5080
     have s5081 := s5054.call k5076
     have bx4933 := bx4933.keep k5076 (by simp)
     have bx5051 := bx5051.keep k5076 (by simp)
     obtain ⟨F2, rfl⟩ := lit_of (F := F5077) [(6, Value.pointer (some ⟨b4928, 0, none⟩)), (7, vI (0 : Int)), (11, Value.pointer (some ⟨b5037, 0, none⟩)), (68, undef), (37, Value.agg #[vI (0 : Int), vI (0 : Int), Value.slice none 0 0, Value.bool false])] ⟨hF5080 6 (by kernel_rfl), hF5080 7 (by kernel_rfl), hF5080 11 (by kernel_rfl), hF5080 68 (by kernel_rfl), hT5079 0 37 (by kernel_rfl) (by decide) (by decide), trivial⟩
     clear hT5079 hF5080
     refine wl_n (o_store (vs := [vI (0 : Int), vI (0 : Int), Value.slice none 0 0, Value.bool false]) (.agg #[vI (0 : Int), vI (0 : Int), Value.slice none 0 0, Value.bool false]) rfl rfl rfl s_31 (fun u hu => by simp only [List.mem_cons, List.not_mem_nil, or_false] at hu; rcases hu with rfl | rfl | rfl | rfl <;> first | rfl) (by repeat (first | assumption | constructor)) bx4933 (of_decide_eq_true rfl) s5081 fun w5085 s5086 m5087 k5088 bx5089 => (?_))
     have bx5051 := bx5051.keep k5088 (nin1 (Ne.symm ne5044))
     refine wl_s (o_fieldL 1 f_113_1 rfl (wl_s (o_loadBx Try.underlying32 rfl (vI (420 : Int)) rfl bx5051 rfl (wl_s (o_assign (vI (420 : Int)) rfl (wl_nil (thenQ_n (?_))))))))
     refine cw_ret (blockQ_r (thenQ_r (thenQ_r (blockQ_r (thenQ_r (end_r rfl (resv2 rfl (rv_A (vs := [vI (0 : Int), vI (0 : Int), Value.slice none 0 0, Value.bool false]) rfl Try.underlying31 rfl s_31 rfl bx5089 rfl) (rv_t rfl rfl)) (?_)))))))
     have e5090 : ((actM d o crash).1) = (⟨(0 : Int), (0 : Int), [], false⟩ : Device) := by exact congrArg (fun p => p.1) (show actM d o crash = _ from act_2 hcr.1 hcr.2 (by assumption))
     have e5091 : ((actM d o crash).2) = (420 : Int) := by exact congrArg (fun p => p.2) (show actM d o crash = _ from act_2 hcr.1 hcr.2 (by assumption))
     exact ⟨_, rfl, s5086.keep, by rw [e5090, e5091]; exact ⟨[vI (0 : Int), vI (0 : Int), Value.slice none 0 0, Value.bool false], rfl, Enc.out (B := (b5037 :: (b4962 :: (b4939 :: (b4928 :: []))))) ⟨.slice none 0 0, rfl, (RdL.nil _ _ _)⟩⟩⟩
    | 1, _ =>
     intro F5093 w5094 k5092 hT5095 hF5096
     have s5097 := s5054.call k5092
     have bx4933 := bx4933.keep k5092 (by simp)
     have bx5051 := bx5051.keep k5092 (by simp)
     obtain ⟨F2, rfl⟩ := lit_of (F := F5093) [(6, Value.pointer (some ⟨b4928, 0, none⟩)), (7, vI (0 : Int)), (68, undef), (37, Value.agg #[vI (0 : Int), vI (0 : Int), Value.slice none 0 0, Value.bool false]), (38, Value.pointer (some ⟨b5037, 1, none⟩))] ⟨hF5096 6 (by kernel_rfl), hF5096 7 (by kernel_rfl), hF5096 68 (by kernel_rfl), hT5095 0 37 (by kernel_rfl) (by decide) (by decide), hT5095 1 38 (by kernel_rfl) (by decide) (by decide), trivial⟩
     clear hT5095 hF5096
     refine wl_n (o_store (vs := [vI (0 : Int), vI (0 : Int), Value.slice none 0 0, Value.bool false]) (.agg #[vI (0 : Int), vI (0 : Int), Value.slice none 0 0, Value.bool false]) rfl rfl rfl s_31 (fun u hu => by simp only [List.mem_cons, List.not_mem_nil, or_false] at hu; rcases hu with rfl | rfl | rfl | rfl <;> first | rfl) (by repeat (first | assumption | constructor)) bx4933 (of_decide_eq_true rfl) s5097 fun w5101 s5102 m5103 k5104 bx5105 => (?_))
     have bx5051 := bx5051.keep k5104 (nin1 (Ne.symm ne5044))
     refine wl_s (o_loadBx Try.underlying32 rfl (vI (420 : Int)) rfl bx5051 rfl (wl_s (o_assign (vI (420 : Int)) rfl (wl_nil (thenQ_n (?_))))))
     refine cw_ret (blockQ_r (thenQ_r (thenQ_r (blockQ_r (thenQ_r (end_r rfl (resv2 rfl (rv_A (vs := [vI (0 : Int), vI (0 : Int), Value.slice none 0 0, Value.bool false]) rfl Try.underlying31 rfl s_31 rfl bx5105 rfl) (rv_t rfl rfl)) (?_)))))))
     have e5106 : ((actM d o crash).1) = (⟨(0 : Int), (0 : Int), [], false⟩ : Device) := by exact congrArg (fun p => p.1) (show actM d o crash = _ from act_2 hcr.1 hcr.2 (by assumption))
     have e5107 : ((actM d o crash).2) = (420 : Int) := by exact congrArg (fun p => p.2) (show actM d o crash = _ from act_2 hcr.1 hcr.2 (by assumption))
     exact ⟨_, rfl, s5102.keep, by rw [e5106, e5107]; exact ⟨[vI (0 : Int), vI (0 : Int), Value.slice none 0 0, Value.bool false], rfl, Enc.out (B := (b5037 :: (b4962 :: (b4939 :: (b4928 :: []))))) ⟨.slice none 0 0, rfl, (RdL.nil _ _ _)⟩⟩⟩
  ·have hp5108 : (formedM d) = true := by first | simpa using hc5058 | (have e := hc5058; rw [Bool.not_eq_true'] at e; exact e) | (have e := hc5058; rw [Bool.not_eq_false'] at e; exact e) | (have e := hc5058; simp at e; omega)
   have hfm : formedM d = true := by simpa using hc5058
   have hfb := formed_b hfm
   have hchk := formed_ok hfm
   refine cw_skip (blockQ_n (thenQ_n (?_)))
   refine cw_region (by kernel_rfl) (wl_s (o_add .i64 (1 : Int) (1 : Int) ((2 : Int)) rfl rfl (w64 (by omega) (by omega)) (wl_s (o_move (vI (2 : Int)) rfl (wl_nil (thenQ_n (?_)))))))
   refine cwr_step ?_
   refine cw_seq (?_)
   refine cw_region (by kernel_rfl) (wl_s (o_lss .i64 (2 : Int) (5 : Int) rfl rfl (wl_nil (thenQ_n (?_)))))
   refine cw_seq (?_)
   refine cw_cond true rfl rfl (fun _ => ?_) (fun h => by cases h)
   refine cw_skip (thenQ_n (?_))
   refine cw_seq (?_)
   refine cw_block (?_)
   refine cw_seq (?_)
   refine cw_region (by kernel_rfl) (wl_s (o_idx Try.underlying114 s_113 .i64 (2 : Int) 2 rfl rfl rfl hl4957 (show 2 < 5 by decide) fun a5109 hp5110 => (wl_s (o_loadS Try.underlying113 rfl s_113 rfl hp5110 fun cs5111 hs5112 => (?_)))))
   obtain rfl : cs5111 = [Value.func (.func 80) #[] #[Value.pointer (some ⟨b4939, 0, none⟩)], vI (430 : Int)] := hs5112.1
   refine wl_s (o_alloc [Value.nilFunc, vI (0 : Int)] z_113 rfl s5054 fun b5113 w5114 e5119 s5115 m5116 k5117 bx5118 => (?_))
   have ne5120 : NeB b4928 b5113 := by show b4928 ≠ b5113; have := bx4933.lt; omega
   have ne5121 : NeB b4939 b5113 := by show b4939 ≠ b5113; have := bx4951.lt; omega
   have ne5122 : NeB b4962 b5113 := by show b4962 ≠ b5113; have := bx4975.lt; omega
   have ne5123 : NeB b5037 b5113 := by show b5037 ≠ b5113; have := bx5051.lt; omega
   clear e5119
   have hp4921 := hp4921.mv m5116
   have hp4927 := hp4927.mv m5116
   have hl4957 := hl4957.mv m5116
   have hd4938 := hd4938.mv m5116
   have bx4933 := bx4933.keep k5117 (by simp)
   have bx4951 := bx4951.keep k5117 (by simp)
   have bx4975 := bx4975.keep k5117 (by simp)
   have bx5051 := bx5051.keep k5117 (by simp)
   refine wl_n (o_store (vs := [Value.func (.func 80) #[] #[Value.pointer (some ⟨b4939, 0, none⟩)], vI (430 : Int)]) (.agg #[Value.func (.func 80) #[] #[Value.pointer (some ⟨b4939, 0, none⟩)], vI (430 : Int)]) rfl rfl rfl s_113 (fun u hu => by simp only [List.mem_cons, List.not_mem_nil, or_false] at hu; rcases hu with rfl | rfl <;> first | rfl) (by repeat (first | assumption | constructor)) bx5118 (of_decide_eq_true rfl) s5115 fun w5124 s5125 m5126 k5127 bx5128 => (?_))
   have hp4921 := hp4921.mv m5126
   have hp4927 := hp4927.mv m5126
   have hl4957 := hl4957.mv m5126
   have hd4938 := hd4938.mv m5126
   have bx4933 := bx4933.keep k5127 (nin1 ne5120)
   have bx4951 := bx4951.keep k5127 (nin1 ne5121)
   have bx4975 := bx4975.keep k5127 (nin1 ne5122)
   have bx5051 := bx5051.keep k5127 (nin1 ne5123)
   refine wl_nil (thenQ_n (?_))
   refine cw_seq (?_)
   refine cw_region (by kernel_rfl) (wl_s (o_fieldL 0 f_113_0 rfl (wl_s (o_loadBx Try.underlying23 rfl (Value.func (.func 80) #[] #[Value.pointer (some ⟨b4939, 0, none⟩)]) rfl bx5128 rfl (wl_s (o_callvK (vs := [Value.pointer (some ⟨b4939, 0, none⟩)]) [] [Value.pointer (some ⟨b4939, 0, none⟩)] [] enter_80 rfl (c_act2 (O := []) ⟨b4939, 0, none⟩ d w5124 (PT.of_box bx4951 ⟨_, rfl, hd4938.rd0⟩ (fun h => by cases h)) no_blocks) rfl rfl s5125 fun v5129 w5130 s5131 m5132 k5133 r5134 => (?_)))))))
   obtain rfl := r5134
   have hp4921 := hp4921.mv m5132
   have hp4927 := hp4927.mv m5132
   have hl4957 := hl4957.mv m5132
   have hd4938 := hd4938.mv m5132
   have bx4933 := bx4933.keep k5133 (by simp)
   have bx4951 := bx4951.keep k5133 (by simp)
   have bx4975 := bx4975.keep k5133 (by simp)
   have bx5051 := bx5051.keep k5133 (by simp)
   have bx5128 := bx5128.keep k5133 (by simp)
   refine wl_s (o_not (!d.halted && wholeM d) rfl (wl_nil (thenQ_n (?_))))
   refine cw_cond (!(!d.halted && wholeM d)) rfl rfl (fun hc5135 => ?_) (fun hc5135 => ?_)
   ·have hp5136 : (!d.halted && wholeM d) = false := by first | simpa using hc5135 | (have e := hc5135; rw [Bool.not_eq_true'] at e; exact e) | (have e := hc5135; rw [Bool.not_eq_false'] at e; exact e) | (have e := hc5135; simp at e; omega)
    refine cw_seq (?_)
    refine cw_drawL 3 [1, 2] _ _ _ [isV (Value.agg #[vI (0 : Int), vI (0 : Int), Value.slice none 0 0, Value.bool false]), isV (Value.pointer (some ⟨b5113, 1, none⟩)), isV (vI (430 : Int))] (by kernel_rfl) (by kernel_rfl) (by kernel_rfl) (by kernel_rfl) (by decide) rfl rfl rfl ⟨kI, kI, kI, trivial⟩ ⟨?_, ?_, ?_, trivial⟩ ?_ ?_
    ·intro F1 w1 k1 hf hd
     have k0 := (Keep.drew [] w5130).trans k1
     have bx4933 := bx4933.keep k0 (by simp)
     obtain ⟨F2, rfl⟩ := lit_of (F := F1) [(6, Value.pointer (some ⟨b4928, 0, none⟩))] ⟨hf 6 (by kernel_rfl), trivial⟩
     exact sp_plain rfl ((o_loadBxA (vs := [vI (0 : Int), vI (0 : Int), Value.slice none 0 0, Value.bool false]) Try.underlying31 rfl s_31 rfl bx4933 rfl (⟨(Keep.refl _ _), rfl⟩)))
    ·intro F1 w1 k1 hf hd
     obtain ⟨F2, rfl⟩ := lit_of (F := F1) [(11, Value.pointer (some ⟨b5113, 0, none⟩))] ⟨hf 11 (by kernel_rfl), trivial⟩
     exact sp_plain rfl ((o_fieldL 1 f_113_1 rfl (⟨(Keep.refl _ _), rfl⟩)))
    ·intro F1 w1 k1 hf hd
     have k0 := (Keep.drew [] w5130).trans k1
     have bx5128 := bx5128.keep k0 (by simp)
     obtain ⟨F2, rfl⟩ := lit_of (F := F1) [(38, Value.pointer (some ⟨b5113, 1, none⟩))] ⟨hd 1 38 (by kernel_rfl), trivial⟩
     exact sp_plain rfl ((o_loadBx Try.underlying32 rfl (vI (430 : Int)) rfl bx5128 rfl (⟨(Keep.refl _ _), rfl⟩)))
    ·intro F5138 w5139 k5137 hT5140 hF5141
     have s5142 := s5131.call k5137
     have bx4933 := bx4933.keep k5137 (by simp)
     obtain ⟨F2, rfl⟩ := lit_of (F := F5138) [(6, Value.pointer (some ⟨b4928, 0, none⟩)), (7, vI (0 : Int)), (68, undef), (37, Value.agg #[vI (0 : Int), vI (0 : Int), Value.slice none 0 0, Value.bool false]), (39, vI (430 : Int))] ⟨hF5141 6 (by kernel_rfl), hF5141 7 (by kernel_rfl), hF5141 68 (by kernel_rfl), hT5140 0 37 (by kernel_rfl) (by decide), hT5140 2 39 (by kernel_rfl) (by decide), trivial⟩
     clear hT5140 hF5141
     refine wl_n (o_store (vs := [vI (0 : Int), vI (0 : Int), Value.slice none 0 0, Value.bool false]) (.agg #[vI (0 : Int), vI (0 : Int), Value.slice none 0 0, Value.bool false]) rfl rfl rfl s_31 (fun u hu => by simp only [List.mem_cons, List.not_mem_nil, or_false] at hu; rcases hu with rfl | rfl | rfl | rfl <;> first | rfl) (by repeat (first | assumption | constructor)) bx4933 (of_decide_eq_true rfl) s5142 fun w5146 s5147 m5148 k5149 bx5150 => (?_))
     refine wl_s (o_assign (vI (430 : Int)) rfl (wl_nil (thenQ_n (?_))))
     refine cw_ret (blockQ_r (thenQ_r (thenQ_r (blockQ_r (thenQ_r (end_r rfl (resv2 rfl (rv_A (vs := [vI (0 : Int), vI (0 : Int), Value.slice none 0 0, Value.bool false]) rfl Try.underlying31 rfl s_31 rfl bx5150 rfl) (rv_t rfl rfl)) (?_)))))))
     have e5151 : ((actM d o crash).1) = (⟨(0 : Int), (0 : Int), [], false⟩ : Device) := by exact congrArg (fun p => p.1) (show actM d o crash = _ from act_3c hcr.1 hcr.2 hfm (by assumption))
     have e5152 : ((actM d o crash).2) = (430 : Int) := by exact congrArg (fun p => p.2) (show actM d o crash = _ from act_3c hcr.1 hcr.2 hfm (by assumption))
     exact ⟨_, rfl, s5147.keep, by rw [e5151, e5152]; exact ⟨[vI (0 : Int), vI (0 : Int), Value.slice none 0 0, Value.bool false], rfl, Enc.out (B := (b5113 :: (b5037 :: (b4962 :: (b4939 :: (b4928 :: [])))))) ⟨.slice none 0 0, rfl, (RdL.nil _ _ _)⟩⟩⟩
    ·intro cx_ hcx_
     match cx_, hcx_ with
     | 0, _ =>
      intro F5154 w5155 k5153 hT5156 hF5157
      have s5158 := s5131.call k5153
      have bx4933 := bx4933.keep k5153 (by simp)
      have bx5128 := bx5128.keep k5153 (by simp)
      obtain ⟨F2, rfl⟩ := lit_of (F := F5154) [(6, Value.pointer (some ⟨b4928, 0, none⟩)), (7, vI (0 : Int)), (11, Value.pointer (some ⟨b5113, 0, none⟩)), (68, undef), (37, Value.agg #[vI (0 : Int), vI (0 : Int), Value.slice none 0 0, Value.bool false])] ⟨hF5157 6 (by kernel_rfl), hF5157 7 (by kernel_rfl), hF5157 11 (by kernel_rfl), hF5157 68 (by kernel_rfl), hT5156 0 37 (by kernel_rfl) (by decide) (by decide), trivial⟩
      clear hT5156 hF5157
      refine wl_n (o_store (vs := [vI (0 : Int), vI (0 : Int), Value.slice none 0 0, Value.bool false]) (.agg #[vI (0 : Int), vI (0 : Int), Value.slice none 0 0, Value.bool false]) rfl rfl rfl s_31 (fun u hu => by simp only [List.mem_cons, List.not_mem_nil, or_false] at hu; rcases hu with rfl | rfl | rfl | rfl <;> first | rfl) (by repeat (first | assumption | constructor)) bx4933 (of_decide_eq_true rfl) s5158 fun w5162 s5163 m5164 k5165 bx5166 => (?_))
      have bx5128 := bx5128.keep k5165 (nin1 (Ne.symm ne5120))
      refine wl_s (o_fieldL 1 f_113_1 rfl (wl_s (o_loadBx Try.underlying32 rfl (vI (430 : Int)) rfl bx5128 rfl (wl_s (o_assign (vI (430 : Int)) rfl (wl_nil (thenQ_n (?_))))))))
      refine cw_ret (blockQ_r (thenQ_r (thenQ_r (blockQ_r (thenQ_r (end_r rfl (resv2 rfl (rv_A (vs := [vI (0 : Int), vI (0 : Int), Value.slice none 0 0, Value.bool false]) rfl Try.underlying31 rfl s_31 rfl bx5166 rfl) (rv_t rfl rfl)) (?_)))))))
      have e5167 : ((actM d o crash).1) = (⟨(0 : Int), (0 : Int), [], false⟩ : Device) := by exact congrArg (fun p => p.1) (show actM d o crash = _ from act_3c hcr.1 hcr.2 hfm (by assumption))
      have e5168 : ((actM d o crash).2) = (430 : Int) := by exact congrArg (fun p => p.2) (show actM d o crash = _ from act_3c hcr.1 hcr.2 hfm (by assumption))
      exact ⟨_, rfl, s5163.keep, by rw [e5167, e5168]; exact ⟨[vI (0 : Int), vI (0 : Int), Value.slice none 0 0, Value.bool false], rfl, Enc.out (B := (b5113 :: (b5037 :: (b4962 :: (b4939 :: (b4928 :: [])))))) ⟨.slice none 0 0, rfl, (RdL.nil _ _ _)⟩⟩⟩
     | 1, _ =>
      intro F5170 w5171 k5169 hT5172 hF5173
      have s5174 := s5131.call k5169
      have bx4933 := bx4933.keep k5169 (by simp)
      have bx5128 := bx5128.keep k5169 (by simp)
      obtain ⟨F2, rfl⟩ := lit_of (F := F5170) [(6, Value.pointer (some ⟨b4928, 0, none⟩)), (7, vI (0 : Int)), (68, undef), (37, Value.agg #[vI (0 : Int), vI (0 : Int), Value.slice none 0 0, Value.bool false]), (38, Value.pointer (some ⟨b5113, 1, none⟩))] ⟨hF5173 6 (by kernel_rfl), hF5173 7 (by kernel_rfl), hF5173 68 (by kernel_rfl), hT5172 0 37 (by kernel_rfl) (by decide) (by decide), hT5172 1 38 (by kernel_rfl) (by decide) (by decide), trivial⟩
      clear hT5172 hF5173
      refine wl_n (o_store (vs := [vI (0 : Int), vI (0 : Int), Value.slice none 0 0, Value.bool false]) (.agg #[vI (0 : Int), vI (0 : Int), Value.slice none 0 0, Value.bool false]) rfl rfl rfl s_31 (fun u hu => by simp only [List.mem_cons, List.not_mem_nil, or_false] at hu; rcases hu with rfl | rfl | rfl | rfl <;> first | rfl) (by repeat (first | assumption | constructor)) bx4933 (of_decide_eq_true rfl) s5174 fun w5178 s5179 m5180 k5181 bx5182 => (?_))
      have bx5128 := bx5128.keep k5181 (nin1 (Ne.symm ne5120))
      refine wl_s (o_loadBx Try.underlying32 rfl (vI (430 : Int)) rfl bx5128 rfl (wl_s (o_assign (vI (430 : Int)) rfl (wl_nil (thenQ_n (?_))))))
      refine cw_ret (blockQ_r (thenQ_r (thenQ_r (blockQ_r (thenQ_r (end_r rfl (resv2 rfl (rv_A (vs := [vI (0 : Int), vI (0 : Int), Value.slice none 0 0, Value.bool false]) rfl Try.underlying31 rfl s_31 rfl bx5182 rfl) (rv_t rfl rfl)) (?_)))))))
      have e5183 : ((actM d o crash).1) = (⟨(0 : Int), (0 : Int), [], false⟩ : Device) := by exact congrArg (fun p => p.1) (show actM d o crash = _ from act_3c hcr.1 hcr.2 hfm (by assumption))
      have e5184 : ((actM d o crash).2) = (430 : Int) := by exact congrArg (fun p => p.2) (show actM d o crash = _ from act_3c hcr.1 hcr.2 hfm (by assumption))
      exact ⟨_, rfl, s5179.keep, by rw [e5183, e5184]; exact ⟨[vI (0 : Int), vI (0 : Int), Value.slice none 0 0, Value.bool false], rfl, Enc.out (B := (b5113 :: (b5037 :: (b4962 :: (b4939 :: (b4928 :: [])))))) ⟨.slice none 0 0, rfl, (RdL.nil _ _ _)⟩⟩⟩
   ·have hp5185 : (!d.halted && wholeM d) = true := by first | simpa using hc5135 | (have e := hc5135; rw [Bool.not_eq_true'] at e; exact e) | (have e := hc5135; rw [Bool.not_eq_false'] at e; exact e) | (have e := hc5135; simp at e; omega)
    have hhw : d.halted = false ∧ wholeM d = true := by simpa using hc5135
    refine cw_skip (blockQ_n (thenQ_n (?_)))
    refine cw_region (by kernel_rfl) (wl_s (o_add .i64 (2 : Int) (1 : Int) ((3 : Int)) rfl rfl (w64 (by omega) (by omega)) (wl_s (o_move (vI (3 : Int)) rfl (wl_nil (thenQ_n (?_)))))))
    refine cwr_step ?_
    refine cw_seq (?_)
    refine cw_region (by kernel_rfl) (wl_s (o_lss .i64 (3 : Int) (5 : Int) rfl rfl (wl_nil (thenQ_n (?_)))))
    refine cw_seq (?_)
    refine cw_cond true rfl rfl (fun _ => ?_) (fun h => by cases h)
    refine cw_skip (thenQ_n (?_))
    refine cw_seq (?_)
    refine cw_block (?_)
    refine cw_seq (?_)
    refine cw_region (by kernel_rfl) (wl_s (o_idx Try.underlying114 s_113 .i64 (3 : Int) 3 rfl rfl rfl hl4957 (show 3 < 5 by decide) fun a5186 hp5187 => (wl_s (o_loadS Try.underlying113 rfl s_113 rfl hp5187 fun cs5188 hs5189 => (?_)))))
    obtain rfl : cs5188 = [Value.func (.func 82) #[] #[Value.pointer (some a4916), Value.pointer (some ⟨b4939, 0, none⟩)], vI (420 : Int)] := hs5189.1
    refine wl_s (o_alloc [Value.nilFunc, vI (0 : Int)] z_113 rfl s5131 fun b5190 w5191 e5196 s5192 m5193 k5194 bx5195 => (?_))
    have ne5197 : NeB b4928 b5190 := by show b4928 ≠ b5190; have := bx4933.lt; omega
    have ne5198 : NeB b4939 b5190 := by show b4939 ≠ b5190; have := bx4951.lt; omega
    have ne5199 : NeB b4962 b5190 := by show b4962 ≠ b5190; have := bx4975.lt; omega
    have ne5200 : NeB b5037 b5190 := by show b5037 ≠ b5190; have := bx5051.lt; omega
    have ne5201 : NeB b5113 b5190 := by show b5113 ≠ b5190; have := bx5128.lt; omega
    clear e5196
    have hp4921 := hp4921.mv m5193
    have hp4927 := hp4927.mv m5193
    have hl4957 := hl4957.mv m5193
    have hd4938 := hd4938.mv m5193
    have bx4933 := bx4933.keep k5194 (by simp)
    have bx4951 := bx4951.keep k5194 (by simp)
    have bx4975 := bx4975.keep k5194 (by simp)
    have bx5051 := bx5051.keep k5194 (by simp)
    have bx5128 := bx5128.keep k5194 (by simp)
    refine wl_n (o_store (vs := [Value.func (.func 82) #[] #[Value.pointer (some a4916), Value.pointer (some ⟨b4939, 0, none⟩)], vI (420 : Int)]) (.agg #[Value.func (.func 82) #[] #[Value.pointer (some a4916), Value.pointer (some ⟨b4939, 0, none⟩)], vI (420 : Int)]) rfl rfl rfl s_113 (fun u hu => by simp only [List.mem_cons, List.not_mem_nil, or_false] at hu; rcases hu with rfl | rfl <;> first | rfl) (by repeat (first | assumption | constructor)) bx5195 (of_decide_eq_true rfl) s5192 fun w5202 s5203 m5204 k5205 bx5206 => (?_))
    have hp4921 := hp4921.mv m5204
    have hp4927 := hp4927.mv m5204
    have hl4957 := hl4957.mv m5204
    have hd4938 := hd4938.mv m5204
    have bx4933 := bx4933.keep k5205 (nin1 ne5197)
    have bx4951 := bx4951.keep k5205 (nin1 ne5198)
    have bx4975 := bx4975.keep k5205 (nin1 ne5199)
    have bx5051 := bx5051.keep k5205 (nin1 ne5200)
    have bx5128 := bx5128.keep k5205 (nin1 ne5201)
    refine wl_nil (thenQ_n (?_))
    refine cw_seq (?_)
    refine cw_region (by kernel_rfl) (wl_s (o_fieldL 0 f_113_0 rfl (wl_s (o_loadBx Try.underlying23 rfl (Value.func (.func 82) #[] #[Value.pointer (some a4916), Value.pointer (some ⟨b4939, 0, none⟩)]) rfl bx5206 rfl (wl_s (o_callvK (vs := [Value.pointer (some a4916), Value.pointer (some ⟨b4939, 0, none⟩)]) [] [Value.pointer (some a4916), Value.pointer (some ⟨b4939, 0, none⟩)] [] enter_82 rfl (c_act3 (O := []) a4916 o ⟨b4939, 0, none⟩ d w5202 (hp4921.sub (fun _ h => by cases h)) (PT.of_box bx4951 ⟨_, rfl, hd4938.rd0⟩ (fun h => by cases h)) (by first | omega | assumption | (simp; done)) (by first | omega | assumption | (simp; done)) no_blocks) rfl rfl s5203 fun v5207 w5208 s5209 m5210 k5211 r5212 => (?_)))))))
    obtain rfl := r5212
    have hp4921 := hp4921.mv m5210
    have hp4927 := hp4927.mv m5210
    have hl4957 := hl4957.mv m5210
    have hd4938 := hd4938.mv m5210
    have bx4933 := bx4933.keep k5211 (by simp)
    have bx4951 := bx4951.keep k5211 (by simp)
    have bx4975 := bx4975.keep k5211 (by simp)
    have bx5051 := bx5051.keep k5211 (by simp)
    have bx5128 := bx5128.keep k5211 (by simp)
    have bx5206 := bx5206.keep k5211 (by simp)
    refine wl_s (o_not ((o.device == d.id) && (o.no == d.counter + 1)) rfl (wl_nil (thenQ_n (?_))))
    refine cw_cond (!((o.device == d.id) && (o.no == d.counter + 1))) rfl rfl (fun hc5213 => ?_) (fun hc5213 => ?_)
    ·have hp5214 : ((o.device == d.id) && (o.no == d.counter + 1)) = false := by first | simpa using hc5213 | (have e := hc5213; rw [Bool.not_eq_true'] at e; exact e) | (have e := hc5213; rw [Bool.not_eq_false'] at e; exact e) | (have e := hc5213; simp at e; omega)
     refine cw_seq (?_)
     refine cw_drawL 3 [1, 2] _ _ _ [isV (Value.agg #[vI (0 : Int), vI (0 : Int), Value.slice none 0 0, Value.bool false]), isV (Value.pointer (some ⟨b5190, 1, none⟩)), isV (vI (420 : Int))] (by kernel_rfl) (by kernel_rfl) (by kernel_rfl) (by kernel_rfl) (by decide) rfl rfl rfl ⟨kI, kI, kI, trivial⟩ ⟨?_, ?_, ?_, trivial⟩ ?_ ?_
     ·intro F1 w1 k1 hf hd
      have k0 := (Keep.drew [] w5208).trans k1
      have bx4933 := bx4933.keep k0 (by simp)
      obtain ⟨F2, rfl⟩ := lit_of (F := F1) [(6, Value.pointer (some ⟨b4928, 0, none⟩))] ⟨hf 6 (by kernel_rfl), trivial⟩
      exact sp_plain rfl ((o_loadBxA (vs := [vI (0 : Int), vI (0 : Int), Value.slice none 0 0, Value.bool false]) Try.underlying31 rfl s_31 rfl bx4933 rfl (⟨(Keep.refl _ _), rfl⟩)))
     ·intro F1 w1 k1 hf hd
      obtain ⟨F2, rfl⟩ := lit_of (F := F1) [(11, Value.pointer (some ⟨b5190, 0, none⟩))] ⟨hf 11 (by kernel_rfl), trivial⟩
      exact sp_plain rfl ((o_fieldL 1 f_113_1 rfl (⟨(Keep.refl _ _), rfl⟩)))
     ·intro F1 w1 k1 hf hd
      have k0 := (Keep.drew [] w5208).trans k1
      have bx5206 := bx5206.keep k0 (by simp)
      obtain ⟨F2, rfl⟩ := lit_of (F := F1) [(38, Value.pointer (some ⟨b5190, 1, none⟩))] ⟨hd 1 38 (by kernel_rfl), trivial⟩
      exact sp_plain rfl ((o_loadBx Try.underlying32 rfl (vI (420 : Int)) rfl bx5206 rfl (⟨(Keep.refl _ _), rfl⟩)))
     ·intro F5216 w5217 k5215 hT5218 hF5219
      have s5220 := s5209.call k5215
      have bx4933 := bx4933.keep k5215 (by simp)
      obtain ⟨F2, rfl⟩ := lit_of (F := F5216) [(6, Value.pointer (some ⟨b4928, 0, none⟩)), (7, vI (0 : Int)), (68, undef), (37, Value.agg #[vI (0 : Int), vI (0 : Int), Value.slice none 0 0, Value.bool false]), (39, vI (420 : Int))] ⟨hF5219 6 (by kernel_rfl), hF5219 7 (by kernel_rfl), hF5219 68 (by kernel_rfl), hT5218 0 37 (by kernel_rfl) (by decide), hT5218 2 39 (by kernel_rfl) (by decide), trivial⟩
      clear hT5218 hF5219
      refine wl_n (o_store (vs := [vI (0 : Int), vI (0 : Int), Value.slice none 0 0, Value.bool false]) (.agg #[vI (0 : Int), vI (0 : Int), Value.slice none 0 0, Value.bool false]) rfl rfl rfl s_31 (fun u hu => by simp only [List.mem_cons, List.not_mem_nil, or_false] at hu; rcases hu with rfl | rfl | rfl | rfl <;> first | rfl) (by repeat (first | assumption | constructor)) bx4933 (of_decide_eq_true rfl) s5220 fun w5224 s5225 m5226 k5227 bx5228 => (?_))
      refine wl_s (o_assign (vI (420 : Int)) rfl (wl_nil (thenQ_n (?_))))
      refine cw_ret (blockQ_r (thenQ_r (thenQ_r (blockQ_r (thenQ_r (end_r rfl (resv2 rfl (rv_A (vs := [vI (0 : Int), vI (0 : Int), Value.slice none 0 0, Value.bool false]) rfl Try.underlying31 rfl s_31 rfl bx5228 rfl) (rv_t rfl rfl)) (?_)))))))
      have e5229 : ((actM d o crash).1) = (⟨(0 : Int), (0 : Int), [], false⟩ : Device) := by exact congrArg (fun p => p.1) (show actM d o crash = _ from act_4c hcr.1 hcr.2 hfm hhw.1 hhw.2 (by assumption))
      have e5230 : ((actM d o crash).2) = (420 : Int) := by exact congrArg (fun p => p.2) (show actM d o crash = _ from act_4c hcr.1 hcr.2 hfm hhw.1 hhw.2 (by assumption))
      exact ⟨_, rfl, s5225.keep, by rw [e5229, e5230]; exact ⟨[vI (0 : Int), vI (0 : Int), Value.slice none 0 0, Value.bool false], rfl, Enc.out (B := (b5190 :: (b5113 :: (b5037 :: (b4962 :: (b4939 :: (b4928 :: []))))))) ⟨.slice none 0 0, rfl, (RdL.nil _ _ _)⟩⟩⟩
     ·intro cx_ hcx_
      match cx_, hcx_ with
      | 0, _ =>
       intro F5232 w5233 k5231 hT5234 hF5235
       have s5236 := s5209.call k5231
       have bx4933 := bx4933.keep k5231 (by simp)
       have bx5206 := bx5206.keep k5231 (by simp)
       obtain ⟨F2, rfl⟩ := lit_of (F := F5232) [(6, Value.pointer (some ⟨b4928, 0, none⟩)), (7, vI (0 : Int)), (11, Value.pointer (some ⟨b5190, 0, none⟩)), (68, undef), (37, Value.agg #[vI (0 : Int), vI (0 : Int), Value.slice none 0 0, Value.bool false])] ⟨hF5235 6 (by kernel_rfl), hF5235 7 (by kernel_rfl), hF5235 11 (by kernel_rfl), hF5235 68 (by kernel_rfl), hT5234 0 37 (by kernel_rfl) (by decide) (by decide), trivial⟩
       clear hT5234 hF5235
       refine wl_n (o_store (vs := [vI (0 : Int), vI (0 : Int), Value.slice none 0 0, Value.bool false]) (.agg #[vI (0 : Int), vI (0 : Int), Value.slice none 0 0, Value.bool false]) rfl rfl rfl s_31 (fun u hu => by simp only [List.mem_cons, List.not_mem_nil, or_false] at hu; rcases hu with rfl | rfl | rfl | rfl <;> first | rfl) (by repeat (first | assumption | constructor)) bx4933 (of_decide_eq_true rfl) s5236 fun w5240 s5241 m5242 k5243 bx5244 => (?_))
       have bx5206 := bx5206.keep k5243 (nin1 (Ne.symm ne5197))
       refine wl_s (o_fieldL 1 f_113_1 rfl (wl_s (o_loadBx Try.underlying32 rfl (vI (420 : Int)) rfl bx5206 rfl (wl_s (o_assign (vI (420 : Int)) rfl (wl_nil (thenQ_n (?_))))))))
       refine cw_ret (blockQ_r (thenQ_r (thenQ_r (blockQ_r (thenQ_r (end_r rfl (resv2 rfl (rv_A (vs := [vI (0 : Int), vI (0 : Int), Value.slice none 0 0, Value.bool false]) rfl Try.underlying31 rfl s_31 rfl bx5244 rfl) (rv_t rfl rfl)) (?_)))))))
       have e5245 : ((actM d o crash).1) = (⟨(0 : Int), (0 : Int), [], false⟩ : Device) := by exact congrArg (fun p => p.1) (show actM d o crash = _ from act_4c hcr.1 hcr.2 hfm hhw.1 hhw.2 (by assumption))
       have e5246 : ((actM d o crash).2) = (420 : Int) := by exact congrArg (fun p => p.2) (show actM d o crash = _ from act_4c hcr.1 hcr.2 hfm hhw.1 hhw.2 (by assumption))
       exact ⟨_, rfl, s5241.keep, by rw [e5245, e5246]; exact ⟨[vI (0 : Int), vI (0 : Int), Value.slice none 0 0, Value.bool false], rfl, Enc.out (B := (b5190 :: (b5113 :: (b5037 :: (b4962 :: (b4939 :: (b4928 :: []))))))) ⟨.slice none 0 0, rfl, (RdL.nil _ _ _)⟩⟩⟩
      | 1, _ =>
       intro F5248 w5249 k5247 hT5250 hF5251
       have s5252 := s5209.call k5247
       have bx4933 := bx4933.keep k5247 (by simp)
       have bx5206 := bx5206.keep k5247 (by simp)
       obtain ⟨F2, rfl⟩ := lit_of (F := F5248) [(6, Value.pointer (some ⟨b4928, 0, none⟩)), (7, vI (0 : Int)), (68, undef), (37, Value.agg #[vI (0 : Int), vI (0 : Int), Value.slice none 0 0, Value.bool false]), (38, Value.pointer (some ⟨b5190, 1, none⟩))] ⟨hF5251 6 (by kernel_rfl), hF5251 7 (by kernel_rfl), hF5251 68 (by kernel_rfl), hT5250 0 37 (by kernel_rfl) (by decide) (by decide), hT5250 1 38 (by kernel_rfl) (by decide) (by decide), trivial⟩
       clear hT5250 hF5251
       refine wl_n (o_store (vs := [vI (0 : Int), vI (0 : Int), Value.slice none 0 0, Value.bool false]) (.agg #[vI (0 : Int), vI (0 : Int), Value.slice none 0 0, Value.bool false]) rfl rfl rfl s_31 (fun u hu => by simp only [List.mem_cons, List.not_mem_nil, or_false] at hu; rcases hu with rfl | rfl | rfl | rfl <;> first | rfl) (by repeat (first | assumption | constructor)) bx4933 (of_decide_eq_true rfl) s5252 fun w5256 s5257 m5258 k5259 bx5260 => (?_))
       have bx5206 := bx5206.keep k5259 (nin1 (Ne.symm ne5197))
       refine wl_s (o_loadBx Try.underlying32 rfl (vI (420 : Int)) rfl bx5206 rfl (wl_s (o_assign (vI (420 : Int)) rfl (wl_nil (thenQ_n (?_))))))
       refine cw_ret (blockQ_r (thenQ_r (thenQ_r (blockQ_r (thenQ_r (end_r rfl (resv2 rfl (rv_A (vs := [vI (0 : Int), vI (0 : Int), Value.slice none 0 0, Value.bool false]) rfl Try.underlying31 rfl s_31 rfl bx5260 rfl) (rv_t rfl rfl)) (?_)))))))
       have e5261 : ((actM d o crash).1) = (⟨(0 : Int), (0 : Int), [], false⟩ : Device) := by exact congrArg (fun p => p.1) (show actM d o crash = _ from act_4c hcr.1 hcr.2 hfm hhw.1 hhw.2 (by assumption))
       have e5262 : ((actM d o crash).2) = (420 : Int) := by exact congrArg (fun p => p.2) (show actM d o crash = _ from act_4c hcr.1 hcr.2 hfm hhw.1 hhw.2 (by assumption))
       exact ⟨_, rfl, s5257.keep, by rw [e5261, e5262]; exact ⟨[vI (0 : Int), vI (0 : Int), Value.slice none 0 0, Value.bool false], rfl, Enc.out (B := (b5190 :: (b5113 :: (b5037 :: (b4962 :: (b4939 :: (b4928 :: []))))))) ⟨.slice none 0 0, rfl, (RdL.nil _ _ _)⟩⟩⟩
    ·have hp5263 : ((o.device == d.id) && (o.no == d.counter + 1)) = true := by first | simpa using hc5213 | (have e := hc5213; rw [Bool.not_eq_true'] at e; exact e) | (have e := hc5213; rw [Bool.not_eq_false'] at e; exact e) | (have e := hc5213; simp at e; omega)
     have hdn : o.device = d.id ∧ o.no = d.counter + 1 := by simpa using hc5213
     refine cw_skip (blockQ_n (thenQ_n (?_)))
     refine cw_region (by kernel_rfl) (wl_s (o_add .i64 (3 : Int) (1 : Int) ((4 : Int)) rfl rfl (w64 (by omega) (by omega)) (wl_s (o_move (vI (4 : Int)) rfl (wl_nil (thenQ_n (?_)))))))
     refine cwr_step ?_
     refine cw_seq (?_)
     refine cw_region (by kernel_rfl) (wl_s (o_lss .i64 (4 : Int) (5 : Int) rfl rfl (wl_nil (thenQ_n (?_)))))
     refine cw_seq (?_)
     refine cw_cond true rfl rfl (fun _ => ?_) (fun h => by cases h)
     refine cw_skip (thenQ_n (?_))
     refine cw_seq (?_)
     refine cw_block (?_)
     refine cw_seq (?_)
     refine cw_region (by kernel_rfl) (wl_s (o_idx Try.underlying114 s_113 .i64 (4 : Int) 4 rfl rfl rfl hl4957 (show 4 < 5 by decide) fun a5264 hp5265 => (wl_s (o_loadS Try.underlying113 rfl s_113 rfl hp5265 fun cs5266 hs5267 => (?_)))))
     obtain rfl : cs5266 = [Value.func (.func 83) #[] #[Value.pointer (some ⟨b4939, 0, none⟩), Value.pointer (some a4916)], vI (420 : Int)] := hs5267.1
     refine wl_s (o_alloc [Value.nilFunc, vI (0 : Int)] z_113 rfl s5209 fun b5268 w5269 e5274 s5270 m5271 k5272 bx5273 => (?_))
     have ne5275 : NeB b4928 b5268 := by show b4928 ≠ b5268; have := bx4933.lt; omega
     have ne5276 : NeB b4939 b5268 := by show b4939 ≠ b5268; have := bx4951.lt; omega
     have ne5277 : NeB b4962 b5268 := by show b4962 ≠ b5268; have := bx4975.lt; omega
     have ne5278 : NeB b5037 b5268 := by show b5037 ≠ b5268; have := bx5051.lt; omega
     have ne5279 : NeB b5113 b5268 := by show b5113 ≠ b5268; have := bx5128.lt; omega
     have ne5280 : NeB b5190 b5268 := by show b5190 ≠ b5268; have := bx5206.lt; omega
     clear e5274
     have hp4921 := hp4921.mv m5271
     have hp4927 := hp4927.mv m5271
     have hd4938 := hd4938.mv m5271
     have bx4933 := bx4933.keep k5272 (by simp)
     have bx4951 := bx4951.keep k5272 (by simp)
     refine wl_n (o_store (vs := [Value.func (.func 83) #[] #[Value.pointer (some ⟨b4939, 0, none⟩), Value.pointer (some a4916)], vI (420 : Int)]) (.agg #[Value.func (.func 83) #[] #[Value.pointer (some ⟨b4939, 0, none⟩), Value.pointer (some a4916)], vI (420 : Int)]) rfl rfl rfl s_113 (fun u hu => by simp only [List.mem_cons, List.not_mem_nil, or_false] at hu; rcases hu with rfl | rfl <;> first | rfl) (by repeat (first | assumption | constructor)) bx5273 (of_decide_eq_true rfl) s5270 fun w5281 s5282 m5283 k5284 bx5285 => (?_))
     have hp4921 := hp4921.mv m5283
     have hp4927 := hp4927.mv m5283
     have hd4938 := hd4938.mv m5283
     have bx4933 := bx4933.keep k5284 (nin1 ne5275)
     have bx4951 := bx4951.keep k5284 (nin1 ne5276)
     refine wl_nil (thenQ_n (?_))
     refine cw_seq (?_)
     refine cw_region (by kernel_rfl) (wl_s (o_fieldL 0 f_113_0 rfl (wl_s (o_loadBx Try.underlying23 rfl (Value.func (.func 83) #[] #[Value.pointer (some ⟨b4939, 0, none⟩), Value.pointer (some a4916)]) rfl bx5285 rfl (wl_s (o_callvK (vs := [Value.pointer (some ⟨b4939, 0, none⟩), Value.pointer (some a4916)]) [] [Value.pointer (some ⟨b4939, 0, none⟩), Value.pointer (some a4916)] [] enter_83 rfl (c_act4 (O := []) ⟨b4939, 0, none⟩ d a4916 o w5281 (PT.of_box bx4951 ⟨_, rfl, hd4938.rd0⟩ (fun h => by cases h)) (hp4921.sub (fun _ h => by cases h)) no_blocks) rfl rfl s5282 fun v5286 w5287 s5288 m5289 k5290 r5291 => (?_)))))))
     obtain rfl := r5291
     have hp4921 := hp4921.mv m5289
     have hp4927 := hp4927.mv m5289
     have hd4938 := hd4938.mv m5289
     have bx4933 := bx4933.keep k5290 (by simp)
     have bx4951 := bx4951.keep k5290 (by simp)
     have bx5285 := bx5285.keep k5290 (by simp)
     refine wl_s (o_not (!shownIn d.ops o) rfl (wl_nil (thenQ_n (?_))))
     refine cw_cond (!(!shownIn d.ops o)) rfl rfl (fun hc5292 => ?_) (fun hc5292 => ?_)
     ·have hp5293 : (!shownIn d.ops o) = false := by first | simpa using hc5292 | (have e := hc5292; rw [Bool.not_eq_true'] at e; exact e) | (have e := hc5292; rw [Bool.not_eq_false'] at e; exact e) | (have e := hc5292; simp at e; omega)
      refine cw_seq (?_)
      refine cw_drawL 3 [1, 2] _ _ _ [isV (Value.agg #[vI (0 : Int), vI (0 : Int), Value.slice none 0 0, Value.bool false]), isV (Value.pointer (some ⟨b5268, 1, none⟩)), isV (vI (420 : Int))] (by kernel_rfl) (by kernel_rfl) (by kernel_rfl) (by kernel_rfl) (by decide) rfl rfl rfl ⟨kI, kI, kI, trivial⟩ ⟨?_, ?_, ?_, trivial⟩ ?_ ?_
      ·intro F1 w1 k1 hf hd
       have k0 := (Keep.drew [] w5287).trans k1
       have bx4933 := bx4933.keep k0 (by simp)
       obtain ⟨F2, rfl⟩ := lit_of (F := F1) [(6, Value.pointer (some ⟨b4928, 0, none⟩))] ⟨hf 6 (by kernel_rfl), trivial⟩
       exact sp_plain rfl ((o_loadBxA (vs := [vI (0 : Int), vI (0 : Int), Value.slice none 0 0, Value.bool false]) Try.underlying31 rfl s_31 rfl bx4933 rfl (⟨(Keep.refl _ _), rfl⟩)))
      ·intro F1 w1 k1 hf hd
       obtain ⟨F2, rfl⟩ := lit_of (F := F1) [(11, Value.pointer (some ⟨b5268, 0, none⟩))] ⟨hf 11 (by kernel_rfl), trivial⟩
       exact sp_plain rfl ((o_fieldL 1 f_113_1 rfl (⟨(Keep.refl _ _), rfl⟩)))
      ·intro F1 w1 k1 hf hd
       have k0 := (Keep.drew [] w5287).trans k1
       have bx5285 := bx5285.keep k0 (by simp)
       obtain ⟨F2, rfl⟩ := lit_of (F := F1) [(38, Value.pointer (some ⟨b5268, 1, none⟩))] ⟨hd 1 38 (by kernel_rfl), trivial⟩
       exact sp_plain rfl ((o_loadBx Try.underlying32 rfl (vI (420 : Int)) rfl bx5285 rfl (⟨(Keep.refl _ _), rfl⟩)))
      ·intro F5295 w5296 k5294 hT5297 hF5298
       have s5299 := s5288.call k5294
       have bx4933 := bx4933.keep k5294 (by simp)
       obtain ⟨F2, rfl⟩ := lit_of (F := F5295) [(6, Value.pointer (some ⟨b4928, 0, none⟩)), (7, vI (0 : Int)), (68, undef), (37, Value.agg #[vI (0 : Int), vI (0 : Int), Value.slice none 0 0, Value.bool false]), (39, vI (420 : Int))] ⟨hF5298 6 (by kernel_rfl), hF5298 7 (by kernel_rfl), hF5298 68 (by kernel_rfl), hT5297 0 37 (by kernel_rfl) (by decide), hT5297 2 39 (by kernel_rfl) (by decide), trivial⟩
       clear hT5297 hF5298
       refine wl_n (o_store (vs := [vI (0 : Int), vI (0 : Int), Value.slice none 0 0, Value.bool false]) (.agg #[vI (0 : Int), vI (0 : Int), Value.slice none 0 0, Value.bool false]) rfl rfl rfl s_31 (fun u hu => by simp only [List.mem_cons, List.not_mem_nil, or_false] at hu; rcases hu with rfl | rfl | rfl | rfl <;> first | rfl) (by repeat (first | assumption | constructor)) bx4933 (of_decide_eq_true rfl) s5299 fun w5303 s5304 m5305 k5306 bx5307 => (?_))
       refine wl_s (o_assign (vI (420 : Int)) rfl (wl_nil (thenQ_n (?_))))
       refine cw_ret (blockQ_r (thenQ_r (thenQ_r (blockQ_r (thenQ_r (end_r rfl (resv2 rfl (rv_A (vs := [vI (0 : Int), vI (0 : Int), Value.slice none 0 0, Value.bool false]) rfl Try.underlying31 rfl s_31 rfl bx5307 rfl) (rv_t rfl rfl)) (?_)))))))
       have e5308 : ((actM d o crash).1) = (⟨(0 : Int), (0 : Int), [], false⟩ : Device) := by exact congrArg (fun p => p.1) (show actM d o crash = _ from act_5 hcr.1 hcr.2 hfm hhw.1 hhw.2 hdn.1 hdn.2 (by have h_ : (!shownIn d.ops o) = false := (by assumption); simpa using h_))
       have e5309 : ((actM d o crash).2) = (420 : Int) := by exact congrArg (fun p => p.2) (show actM d o crash = _ from act_5 hcr.1 hcr.2 hfm hhw.1 hhw.2 hdn.1 hdn.2 (by have h_ : (!shownIn d.ops o) = false := (by assumption); simpa using h_))
       exact ⟨_, rfl, s5304.keep, by rw [e5308, e5309]; exact ⟨[vI (0 : Int), vI (0 : Int), Value.slice none 0 0, Value.bool false], rfl, Enc.out (B := (b5268 :: (b5190 :: (b5113 :: (b5037 :: (b4962 :: (b4939 :: (b4928 :: [])))))))) ⟨.slice none 0 0, rfl, (RdL.nil _ _ _)⟩⟩⟩
      ·intro cx_ hcx_
       match cx_, hcx_ with
       | 0, _ =>
        intro F5311 w5312 k5310 hT5313 hF5314
        have s5315 := s5288.call k5310
        have bx4933 := bx4933.keep k5310 (by simp)
        have bx5285 := bx5285.keep k5310 (by simp)
        obtain ⟨F2, rfl⟩ := lit_of (F := F5311) [(6, Value.pointer (some ⟨b4928, 0, none⟩)), (7, vI (0 : Int)), (11, Value.pointer (some ⟨b5268, 0, none⟩)), (68, undef), (37, Value.agg #[vI (0 : Int), vI (0 : Int), Value.slice none 0 0, Value.bool false])] ⟨hF5314 6 (by kernel_rfl), hF5314 7 (by kernel_rfl), hF5314 11 (by kernel_rfl), hF5314 68 (by kernel_rfl), hT5313 0 37 (by kernel_rfl) (by decide) (by decide), trivial⟩
        clear hT5313 hF5314
        refine wl_n (o_store (vs := [vI (0 : Int), vI (0 : Int), Value.slice none 0 0, Value.bool false]) (.agg #[vI (0 : Int), vI (0 : Int), Value.slice none 0 0, Value.bool false]) rfl rfl rfl s_31 (fun u hu => by simp only [List.mem_cons, List.not_mem_nil, or_false] at hu; rcases hu with rfl | rfl | rfl | rfl <;> first | rfl) (by repeat (first | assumption | constructor)) bx4933 (of_decide_eq_true rfl) s5315 fun w5319 s5320 m5321 k5322 bx5323 => (?_))
        have bx5285 := bx5285.keep k5322 (nin1 (Ne.symm ne5275))
        refine wl_s (o_fieldL 1 f_113_1 rfl (wl_s (o_loadBx Try.underlying32 rfl (vI (420 : Int)) rfl bx5285 rfl (wl_s (o_assign (vI (420 : Int)) rfl (wl_nil (thenQ_n (?_))))))))
        refine cw_ret (blockQ_r (thenQ_r (thenQ_r (blockQ_r (thenQ_r (end_r rfl (resv2 rfl (rv_A (vs := [vI (0 : Int), vI (0 : Int), Value.slice none 0 0, Value.bool false]) rfl Try.underlying31 rfl s_31 rfl bx5323 rfl) (rv_t rfl rfl)) (?_)))))))
        have e5324 : ((actM d o crash).1) = (⟨(0 : Int), (0 : Int), [], false⟩ : Device) := by exact congrArg (fun p => p.1) (show actM d o crash = _ from act_5 hcr.1 hcr.2 hfm hhw.1 hhw.2 hdn.1 hdn.2 (by have h_ : (!shownIn d.ops o) = false := (by assumption); simpa using h_))
        have e5325 : ((actM d o crash).2) = (420 : Int) := by exact congrArg (fun p => p.2) (show actM d o crash = _ from act_5 hcr.1 hcr.2 hfm hhw.1 hhw.2 hdn.1 hdn.2 (by have h_ : (!shownIn d.ops o) = false := (by assumption); simpa using h_))
        exact ⟨_, rfl, s5320.keep, by rw [e5324, e5325]; exact ⟨[vI (0 : Int), vI (0 : Int), Value.slice none 0 0, Value.bool false], rfl, Enc.out (B := (b5268 :: (b5190 :: (b5113 :: (b5037 :: (b4962 :: (b4939 :: (b4928 :: [])))))))) ⟨.slice none 0 0, rfl, (RdL.nil _ _ _)⟩⟩⟩
       | 1, _ =>
        intro F5327 w5328 k5326 hT5329 hF5330
        have s5331 := s5288.call k5326
        have bx4933 := bx4933.keep k5326 (by simp)
        have bx5285 := bx5285.keep k5326 (by simp)
        obtain ⟨F2, rfl⟩ := lit_of (F := F5327) [(6, Value.pointer (some ⟨b4928, 0, none⟩)), (7, vI (0 : Int)), (68, undef), (37, Value.agg #[vI (0 : Int), vI (0 : Int), Value.slice none 0 0, Value.bool false]), (38, Value.pointer (some ⟨b5268, 1, none⟩))] ⟨hF5330 6 (by kernel_rfl), hF5330 7 (by kernel_rfl), hF5330 68 (by kernel_rfl), hT5329 0 37 (by kernel_rfl) (by decide) (by decide), hT5329 1 38 (by kernel_rfl) (by decide) (by decide), trivial⟩
        clear hT5329 hF5330
        refine wl_n (o_store (vs := [vI (0 : Int), vI (0 : Int), Value.slice none 0 0, Value.bool false]) (.agg #[vI (0 : Int), vI (0 : Int), Value.slice none 0 0, Value.bool false]) rfl rfl rfl s_31 (fun u hu => by simp only [List.mem_cons, List.not_mem_nil, or_false] at hu; rcases hu with rfl | rfl | rfl | rfl <;> first | rfl) (by repeat (first | assumption | constructor)) bx4933 (of_decide_eq_true rfl) s5331 fun w5335 s5336 m5337 k5338 bx5339 => (?_))
        have bx5285 := bx5285.keep k5338 (nin1 (Ne.symm ne5275))
        refine wl_s (o_loadBx Try.underlying32 rfl (vI (420 : Int)) rfl bx5285 rfl (wl_s (o_assign (vI (420 : Int)) rfl (wl_nil (thenQ_n (?_))))))
        refine cw_ret (blockQ_r (thenQ_r (thenQ_r (blockQ_r (thenQ_r (end_r rfl (resv2 rfl (rv_A (vs := [vI (0 : Int), vI (0 : Int), Value.slice none 0 0, Value.bool false]) rfl Try.underlying31 rfl s_31 rfl bx5339 rfl) (rv_t rfl rfl)) (?_)))))))
        have e5340 : ((actM d o crash).1) = (⟨(0 : Int), (0 : Int), [], false⟩ : Device) := by exact congrArg (fun p => p.1) (show actM d o crash = _ from act_5 hcr.1 hcr.2 hfm hhw.1 hhw.2 hdn.1 hdn.2 (by have h_ : (!shownIn d.ops o) = false := (by assumption); simpa using h_))
        have e5341 : ((actM d o crash).2) = (420 : Int) := by exact congrArg (fun p => p.2) (show actM d o crash = _ from act_5 hcr.1 hcr.2 hfm hhw.1 hhw.2 hdn.1 hdn.2 (by have h_ : (!shownIn d.ops o) = false := (by assumption); simpa using h_))
        exact ⟨_, rfl, s5336.keep, by rw [e5340, e5341]; exact ⟨[vI (0 : Int), vI (0 : Int), Value.slice none 0 0, Value.bool false], rfl, Enc.out (B := (b5268 :: (b5190 :: (b5113 :: (b5037 :: (b4962 :: (b4939 :: (b4928 :: [])))))))) ⟨.slice none 0 0, rfl, (RdL.nil _ _ _)⟩⟩⟩
     ·have hp5342 : (!shownIn d.ops o) = true := by first | simpa using hc5292 | (have e := hc5292; rw [Bool.not_eq_true'] at e; exact e) | (have e := hc5292; rw [Bool.not_eq_false'] at e; exact e) | (have e := hc5292; simp at e; omega)
      have hsn : shownIn d.ops o = false := by simpa using hc5292
      refine cw_skip (blockQ_n (thenQ_n (?_)))
      refine cw_region (by kernel_rfl) (wl_s (o_add .i64 (4 : Int) (1 : Int) ((5 : Int)) rfl rfl (w64 (by omega) (by omega)) (wl_s (o_move (vI (5 : Int)) rfl (wl_nil (thenQ_n (?_)))))))
      refine cwr_step ?_
      refine cw_seq (?_)
      refine cw_region (by kernel_rfl) (wl_s (o_lss .i64 (5 : Int) (5 : Int) rfl rfl (wl_nil (thenQ_n (?_)))))
      refine cw_seq (?_)
      refine cw_cond false rfl rfl (fun h => by cases h) (fun _ => ?_)
      refine cw_exit (thenQ_x (thenQ_x (blockQ_x (thenQ_n (?_)))))
      refine cw_seq (?_)
      refine cw_region (by kernel_rfl) (wl_s (o_fieldL 0 f_112_0 rfl (wl_s (o_fieldL 2 f_31_2 rfl (wl_s (o_loadBx Try.underlying26 rfl (d4937) rfl bx4951 rfl (wl_s (o_loadS Try.underlying40 rfl s_40 rfl hp4921 fun cs5343 hs5344 => (?_)))))))))
      obtain rfl := hs5344
      refine wl_s (o_callK (vs := [d4937, Value.agg #[vI o.device, vI o.no, vI o.kind, vI o.copy, vI o.to, vI o.token]]) enter_23 (c_add (O := (b5268 :: (b5190 :: (b5113 :: (b5037 :: (b4962 :: (b4939 :: (b4928 :: []))))))) ++ O) d4937 d.ops [vI o.device, vI o.no, vI o.kind, vI o.copy, vI o.to, vI o.token] o w5287 hd4938 rfl s5288.lt) rfl s5288 fun v5345 w5346 s5347 m5348 k5349 r5350 => (?_))
      obtain ⟨x5351, rfl, hl5352⟩ := r5350
      have := hl5352.len_le
      have hp4927 := hp4927.mv m5348
      have hd4938 := hd4938.mv m5348
      have bx4933 := bx4933.keep k5349 (by simp)
      have bx4951 := bx4951.keep k5349 (by simp)
      refine wl_s (o_move (Value.tuple #[x5351, vI ((addM d.ops o).2)]) rfl (wl_s (o_extract (x5351) rfl rfl (wl_s (o_extract (vI ((addM d.ops o).2)) rfl rfl (wl_s (o_assign (x5351) rfl (wl_s (o_assign (vI ((addM d.ops o).2)) rfl (wl_nil (thenQ_n (?_))))))))))))
      refine cw_seq (?_)
      refine cw_seq (?_)
      refine cw_region (by kernel_rfl) (wl_s (o_move (vI ((addM d.ops o).2)) rfl (wl_s (o_neq .i64 ((addM d.ops o).2) (0 : Int) rfl rfl (wl_nil (thenQ_n (?_)))))))
      refine cw_cond (((addM d.ops o).2) != (0 : Int)) rfl rfl (fun hc5353 => ?_) (fun hc5353 => ?_)
      ·have hp5354 : (addM d.ops o).2 ≠ (0 : Int) := by first | simpa using hc5353 | (have e := hc5353; simp at e; omega)
       refine cw_seq (?_)
       refine cw_region (by kernel_rfl) (wl_s (o_loadBxA (vs := [vI (0 : Int), vI (0 : Int), Value.slice none 0 0, Value.bool false]) Try.underlying31 rfl s_31 rfl bx4933 rfl (wl_s (o_move (vI ((addM d.ops o).2)) rfl (wl_n (o_store (vs := [vI (0 : Int), vI (0 : Int), Value.slice none 0 0, Value.bool false]) (.agg #[vI (0 : Int), vI (0 : Int), Value.slice none 0 0, Value.bool false]) rfl rfl rfl s_31 (fun u hu => by simp only [List.mem_cons, List.not_mem_nil, or_false] at hu; rcases hu with rfl | rfl | rfl | rfl <;> first | rfl) (by repeat (first | assumption | constructor)) bx4933 (of_decide_eq_true rfl) s5347 fun w5355 s5356 m5357 k5358 bx5359 => (?_)))))))
       refine wl_s (o_assign (vI ((addM d.ops o).2)) rfl (wl_nil (thenQ_n (?_))))
       refine cw_ret (thenQ_r (end_r rfl (resv2 rfl (rv_A (vs := [vI (0 : Int), vI (0 : Int), Value.slice none 0 0, Value.bool false]) rfl Try.underlying31 rfl s_31 rfl bx5359 rfl) (rv_t rfl rfl)) (?_)))
       have e5360 : ((actM d o crash).1) = (⟨(0 : Int), (0 : Int), [], false⟩ : Device) := by exact congrArg (fun p => p.1) (show actM d o crash = _ from act_6 hcr.1 hcr.2 hfm hhw.1 hhw.2 hdn.1 hdn.2 hsn (by assumption))
       have e5361 : ((actM d o crash).2) = ((addM d.ops o).2) := by exact congrArg (fun p => p.2) (show actM d o crash = _ from act_6 hcr.1 hcr.2 hfm hhw.1 hhw.2 hdn.1 hdn.2 hsn (by assumption))
       exact ⟨_, rfl, s5356.keep, by rw [e5360, e5361]; exact ⟨[vI (0 : Int), vI (0 : Int), Value.slice none 0 0, Value.bool false], rfl, Enc.out (B := (b5268 :: (b5190 :: (b5113 :: (b5037 :: (b4962 :: (b4939 :: (b4928 :: [])))))))) ⟨.slice none 0 0, rfl, (RdL.nil _ _ _)⟩⟩⟩
      ·have hp5362 : (addM d.ops o).2 = (0 : Int) := by first | simpa using hc5353 | (have e := hc5353; simp at e; omega)
       refine cw_skip (thenQ_n (?_))
       refine cw_seq (?_)
       refine cw_seq (?_)
       refine cw_region (by kernel_rfl) (wl_s (o_loadI Try.underlying3 rfl rfl hp4927 (wl_s (o_geq .i64 crash (1 : Int) rfl rfl (wl_nil (thenQ_n (?_)))))))
       refine cw_cond (decide ((1 : Int) ≤ crash)) rfl rfl (fun hc5363 => ?_) (fun hc5363 => ?_)
       ·have hp5364 : (1 : Int) ≤ crash := by first | simpa using hc5363 | (have e := hc5363; simp at e; omega)
        refine cw_region (by kernel_rfl) (wl_s (o_fieldL 0 f_112_0 rfl (wl_s (o_fieldL 1 f_31_1 rfl (wl_s (o_loadBx Try.underlying3 rfl (vI d.counter) rfl bx4951 rfl (wl_s (o_add .i64 d.counter (1 : Int) (d.counter + 1) rfl rfl (w64 (by omega) rfl) (wl_s (o_fieldL 0 f_112_0 rfl (wl_s (o_fieldL 1 f_31_1 rfl (wl_n (o_store1 (vI (d.counter + 1)) rfl rfl rfl s_3 (by repeat (first | assumption | constructor)) bx4951 (of_decide_eq_true rfl) s5347 fun w5365 s5366 m5367 k5368 bx5369 => (?_)))))))))))))))
        have hp4927 := hp4927.mv m5367
        have hl5352 := hl5352.mv m5367
        have hd4938 := hd4938.mv m5367
        have bx4933 := bx4933.keep k5368 (nin1 ne4946)
        refine wl_nil (thenQ_n (?_))
        refine cw_seq (?_)
        refine cw_seq (?_)
        refine cw_region (by kernel_rfl) (wl_s (o_loadI Try.underlying3 rfl rfl hp4927 (wl_s (o_eql .i64 crash (2 : Int) rfl rfl (wl_nil (thenQ_n (?_)))))))
        refine cw_cond (crash == (2 : Int)) rfl rfl (fun hc5370 => ?_) (fun hc5370 => ?_)
        ·have hp5371 : crash = (2 : Int) := by first | simpa using hc5370 | (have e := hc5370; simp at e; omega)
         refine cw_region (by kernel_rfl) (wl_s (o_move (x5351) rfl (wl_s (o_fieldL 0 f_112_0 rfl (wl_s (o_fieldL 2 f_31_2 rfl (wl_n (o_store1 (x5351) rfl rfl hl5352.oneCell s_26 (by repeat (first | assumption | constructor)) bx5369 (of_decide_eq_true rfl) s5366 fun w5372 s5373 m5374 k5375 bx5376 => (?_)))))))))
         have hl5352 := hl5352.mv m5374
         have bx4933 := bx4933.keep k5375 (nin1 ne4946)
         refine wl_nil (thenQ_n (?_))
         refine cw_seq (?_)
         refine cw_region (by kernel_rfl) (wl_s (o_fieldL 0 f_112_0 rfl (wl_s (o_loadBxA (vs := [vI d.id, vI (d.counter + 1), x5351, Value.bool d.halted]) Try.underlying31 rfl s_31 rfl bx5376 rfl (wl_n (o_store (vs := [vI d.id, vI (d.counter + 1), x5351, Value.bool d.halted]) (.agg #[vI d.id, vI (d.counter + 1), x5351, Value.bool d.halted]) rfl rfl rfl s_31 (fun u hu => by simp only [List.mem_cons, List.not_mem_nil, or_false] at hu; rcases hu with rfl | rfl | rfl | rfl <;> first | rfl | exact hl5352.oneCell) (by repeat (first | assumption | constructor)) bx4933 (of_decide_eq_true rfl) s5373 fun w5377 s5378 m5379 k5380 bx5381 => (?_)))))))
         have hl5352 := hl5352.mv m5379
         refine wl_s (o_assign (vI (0 : Int)) rfl (wl_nil (thenQ_n (?_))))
         refine cw_ret (end_r rfl (resv2 rfl (rv_A (vs := [vI d.id, vI (d.counter + 1), x5351, Value.bool d.halted]) rfl Try.underlying31 rfl s_31 rfl bx5381 rfl) (rv_t rfl rfl)) (?_))
         have e5382 : ((actM d o crash).1) = (⟨d.id, d.counter + 1, (addM d.ops o).1, d.halted⟩ : Device) := by exact congrArg (fun p => p.1) (show actM d o crash = _ from act_72 hcr.1 hcr.2 hfm hhw.1 hhw.2 hdn.1 hdn.2 hsn (by assumption) (by assumption))
         have e5383 : ((actM d o crash).2) = (0 : Int) := by exact congrArg (fun p => p.2) (show actM d o crash = _ from act_72 hcr.1 hcr.2 hfm hhw.1 hhw.2 hdn.1 hdn.2 hsn (by assumption) (by assumption))
         exact ⟨_, rfl, s5378.keep, by rw [e5382, e5383]; exact ⟨[vI d.id, vI (d.counter + 1), x5351, Value.bool d.halted], rfl, Enc.out (B := (b5268 :: (b5190 :: (b5113 :: (b5037 :: (b4962 :: (b4939 :: (b4928 :: [])))))))) ⟨_, rfl, hl5352⟩⟩⟩
        ·have hp5384 : crash ≠ (2 : Int) := by first | simpa using hc5370 | (have e := hc5370; simp at e; omega)
         refine cw_skip (thenQ_n (?_))
         refine cw_seq (?_)
         refine cw_region (by kernel_rfl) (wl_s (o_fieldL 0 f_112_0 rfl (wl_s (o_loadBxA (vs := [vI d.id, vI (d.counter + 1), d4937, Value.bool d.halted]) Try.underlying31 rfl s_31 rfl bx5369 rfl (wl_n (o_store (vs := [vI d.id, vI (d.counter + 1), d4937, Value.bool d.halted]) (.agg #[vI d.id, vI (d.counter + 1), d4937, Value.bool d.halted]) rfl rfl rfl s_31 (fun u hu => by simp only [List.mem_cons, List.not_mem_nil, or_false] at hu; rcases hu with rfl | rfl | rfl | rfl <;> first | rfl | exact hd4938.oneCell) (by repeat (first | assumption | constructor)) bx4933 (of_decide_eq_true rfl) s5366 fun w5385 s5386 m5387 k5388 bx5389 => (?_)))))))
         have hd4938 := hd4938.mv m5387
         refine wl_s (o_assign (vI (0 : Int)) rfl (wl_nil (thenQ_n (?_))))
         refine cw_ret (end_r rfl (resv2 rfl (rv_A (vs := [vI d.id, vI (d.counter + 1), d4937, Value.bool d.halted]) rfl Try.underlying31 rfl s_31 rfl bx5389 rfl) (rv_t rfl rfl)) (?_))
         have e5390 : ((actM d o crash).1) = (⟨d.id, d.counter + 1, d.ops, d.halted⟩ : Device) := by exact congrArg (fun p => p.1) (show actM d o crash = _ from act_71 hcr.1 hcr.2 hfm hhw.1 hhw.2 hdn.1 hdn.2 hsn (by assumption) (by assumption) (by assumption))
         have e5391 : ((actM d o crash).2) = (0 : Int) := by exact congrArg (fun p => p.2) (show actM d o crash = _ from act_71 hcr.1 hcr.2 hfm hhw.1 hhw.2 hdn.1 hdn.2 hsn (by assumption) (by assumption) (by assumption))
         exact ⟨_, rfl, s5386.keep, by rw [e5390, e5391]; exact ⟨[vI d.id, vI (d.counter + 1), d4937, Value.bool d.halted], rfl, Enc.out (B := (b5268 :: (b5190 :: (b5113 :: (b5037 :: (b4962 :: (b4939 :: (b4928 :: [])))))))) ⟨_, rfl, hd4938⟩⟩⟩
       ·have hp5392 : crash < (1 : Int) := by first | simpa using hc5363 | (have e := hc5363; simp at e; omega)
        refine cw_skip (thenQ_n (?_))
        refine cw_seq (?_)
        refine cw_seq (?_)
        refine cw_region (by kernel_rfl) (wl_s (o_loadI Try.underlying3 rfl rfl hp4927 (wl_s (o_eql .i64 crash (2 : Int) rfl rfl (wl_nil (thenQ_n (?_)))))))
        refine cw_cond (crash == (2 : Int)) rfl rfl (fun hc5393 => ?_) (fun hc5393 => ?_)
        ·have hp5394 : crash = (2 : Int) := by first | simpa using hc5393 | (have e := hc5393; simp at e; omega)
         refine cw_region (by kernel_rfl) (wl_s (o_move (x5351) rfl (wl_s (o_fieldL 0 f_112_0 rfl (wl_s (o_fieldL 2 f_31_2 rfl (wl_n (o_store1 (x5351) rfl rfl hl5352.oneCell s_26 (by repeat (first | assumption | constructor)) bx4951 (of_decide_eq_true rfl) s5347 fun w5395 s5396 m5397 k5398 bx5399 => (?_)))))))))
         have hl5352 := hl5352.mv m5397
         have bx4933 := bx4933.keep k5398 (nin1 ne4946)
         refine wl_nil (thenQ_n (?_))
         refine cw_seq (?_)
         refine cw_region (by kernel_rfl) (wl_s (o_fieldL 0 f_112_0 rfl (wl_s (o_loadBxA (vs := [vI d.id, vI d.counter, x5351, Value.bool d.halted]) Try.underlying31 rfl s_31 rfl bx5399 rfl (wl_n (o_store (vs := [vI d.id, vI d.counter, x5351, Value.bool d.halted]) (.agg #[vI d.id, vI d.counter, x5351, Value.bool d.halted]) rfl rfl rfl s_31 (fun u hu => by simp only [List.mem_cons, List.not_mem_nil, or_false] at hu; rcases hu with rfl | rfl | rfl | rfl <;> first | rfl | exact hl5352.oneCell) (by repeat (first | assumption | constructor)) bx4933 (of_decide_eq_true rfl) s5396 fun w5400 s5401 m5402 k5403 bx5404 => (?_)))))))
         have hl5352 := hl5352.mv m5402
         refine wl_s (o_assign (vI (0 : Int)) rfl (wl_nil (thenQ_n (?_))))
         refine cw_ret (end_r rfl (resv2 rfl (rv_A (vs := [vI d.id, vI d.counter, x5351, Value.bool d.halted]) rfl Try.underlying31 rfl s_31 rfl bx5404 rfl) (rv_t rfl rfl)) (?_))
         have e5405 : ((actM d o crash).1) = (⟨d.id, d.counter, (addM d.ops o).1, d.halted⟩ : Device) := by (exfalso; omega)
         have e5406 : ((actM d o crash).2) = (0 : Int) := by (exfalso; omega)
         exact ⟨_, rfl, s5401.keep, by rw [e5405, e5406]; exact ⟨[vI d.id, vI d.counter, x5351, Value.bool d.halted], rfl, Enc.out (B := (b5268 :: (b5190 :: (b5113 :: (b5037 :: (b4962 :: (b4939 :: (b4928 :: [])))))))) ⟨_, rfl, hl5352⟩⟩⟩
        ·have hp5407 : crash ≠ (2 : Int) := by first | simpa using hc5393 | (have e := hc5393; simp at e; omega)
         refine cw_skip (thenQ_n (?_))
         refine cw_seq (?_)
         refine cw_region (by kernel_rfl) (wl_s (o_fieldL 0 f_112_0 rfl (wl_s (o_loadBxA (vs := [vI d.id, vI d.counter, d4937, Value.bool d.halted]) Try.underlying31 rfl s_31 rfl bx4951 rfl (wl_n (o_store (vs := [vI d.id, vI d.counter, d4937, Value.bool d.halted]) (.agg #[vI d.id, vI d.counter, d4937, Value.bool d.halted]) rfl rfl rfl s_31 (fun u hu => by simp only [List.mem_cons, List.not_mem_nil, or_false] at hu; rcases hu with rfl | rfl | rfl | rfl <;> first | rfl | exact hd4938.oneCell) (by repeat (first | assumption | constructor)) bx4933 (of_decide_eq_true rfl) s5347 fun w5408 s5409 m5410 k5411 bx5412 => (?_)))))))
         have hd4938 := hd4938.mv m5410
         refine wl_s (o_assign (vI (0 : Int)) rfl (wl_nil (thenQ_n (?_))))
         refine cw_ret (end_r rfl (resv2 rfl (rv_A (vs := [vI d.id, vI d.counter, d4937, Value.bool d.halted]) rfl Try.underlying31 rfl s_31 rfl bx5412 rfl) (rv_t rfl rfl)) (?_))
         have e5413 : ((actM d o crash).1) = d := by exact congrArg (fun p => p.1) (show actM d o crash = _ from act_70 hcr.1 hcr.2 hfm hhw.1 hhw.2 hdn.1 hdn.2 hsn (by assumption) (by assumption))
         have e5414 : ((actM d o crash).2) = (0 : Int) := by exact congrArg (fun p => p.2) (show actM d o crash = _ from act_70 hcr.1 hcr.2 hfm hhw.1 hhw.2 hdn.1 hdn.2 hsn (by assumption) (by assumption))
         exact ⟨_, rfl, s5409.keep, by rw [e5413, e5414]; exact ⟨[vI d.id, vI d.counter, d4937, Value.bool d.halted], rfl, Enc.out (B := (b5268 :: (b5190 :: (b5113 :: (b5037 :: (b4962 :: (b4939 :: (b4928 :: [])))))))) ⟨_, rfl, hd4938⟩⟩⟩

end Go.Proofs.Ytjpniibleelgiaa
