/- Walks, printed by gen.py. -/
import Derived.Test.YtjpniibleelgiaaYd
import Derived.Test.YtjpniibleelgiaaXv
set_option linter.unusedSimpArgs false
set_option linter.unusedVariables false
namespace Go.Proofs.Ytjpniibleelgiaa
open Go.Fw Go.RowKit

set_option maxHeartbeats 4000000 in
set_option maxRecDepth 100000 in
theorem c_refStart {O : List Nat} (d_cs : List Value) (d : Device) (w : World) (h_d : Enc.device.rd w O d_cs d) (hO : ∀ b ∈ O, b < w.heap.size) : CallsK Try.prog 45 [.agg d_cs.toArray] w (fun v w' => ∃ (x0 : List Value), v = .tuple #[.agg x0.toArray, vI ((startM d).2)] ∧ Enc.device.rd w' (O) x0 ((startM d).1)) :=  by
 have h_d : Enc.device.rd w ([] ++ O) d_cs d := h_d
 have s0 : St w O w [] := St.start hO
 refine callsK_of 18 Try.func45 rfl rfl (of_decide_eq_true rfl) (fun F0 => ?_)
 refine cw_seq (?_)
 refine cw_region (by kernel_rfl) (?_)
 obtain ⟨d6015, rfl, hd6016⟩ := h_d
 have := hd6016.len_le
 refine wl_s (o_box (Value.agg #[vI d.id, vI d.counter, d6015, Value.bool d.halted]) [vI d.id, vI d.counter, d6015, Value.bool d.halted] rfl rfl s0 fun b6017 w6018 e6023 s6019 m6020 k6021 bx6022 => (?_))
 clear e6023
 have hd6016 := hd6016.mv m6020
 refine wl_s (o_alloc [vI (0 : Int), vI (0 : Int), Value.slice none 0 0, Value.bool false] z_31 rfl s6019 fun b6024 w6025 e6030 s6026 m6027 k6028 bx6029 => (?_))
 have ne6031 : NeB b6017 b6024 := by show b6017 ≠ b6024; have := bx6022.lt; omega
 clear e6030
 have hd6016 := hd6016.mv m6027
 have bx6022 := bx6022.keep k6028 (by simp)
 refine wl_s (o_assign (vI (0 : Int)) rfl (wl_nil (thenQ_n (?_))))
 refine cw_seq (?_)
 refine cw_seq (?_)
 refine cw_region (by kernel_rfl) (wl_s (o_loadBxA (vs := [vI d.id, vI d.counter, d6015, Value.bool d.halted]) Try.underlying31 rfl s_31 rfl bx6022 rfl (wl_s (o_callK (vs := [Value.agg #[vI d.id, vI d.counter, d6015, Value.bool d.halted]]) enter_85 (c_refFormed (O := (b6024 :: (b6017 :: [])) ++ O) [vI d.id, vI d.counter, d6015, Value.bool d.halted] d w6025 ⟨_, rfl, hd6016⟩ s6026.lt) rfl s6026 fun v6032 w6033 s6034 m6035 k6036 r6037 => (?_)))))
 obtain rfl := r6037
 have hd6016 := hd6016.mv m6035
 have bx6022 := bx6022.keep k6036 (by simp)
 have bx6029 := bx6029.keep k6036 (by simp)
 refine wl_s (o_not (formedM d) rfl (wl_nil (thenQ_n (?_))))
 refine cw_cond (!(formedM d)) rfl rfl (fun hc6038 => ?_) (fun hc6038 => ?_)
 ·have hp6039 : (formedM d) = false := by first | simpa using hc6038 | (have e := hc6038; rw [Bool.not_eq_true'] at e; exact e) | (have e := hc6038; rw [Bool.not_eq_false'] at e; exact e) | (have e := hc6038; simp at e; omega)
  refine cw_seq (?_)
  refine cw_region (by kernel_rfl) (wl_s (o_build (l := []) pl_31 z_31 rfl [] [vI (0 : Int), vI (0 : Int), Value.slice none 0 0, Value.bool false] rfl rfl (wl_n (o_store (vs := [vI (0 : Int), vI (0 : Int), Value.slice none 0 0, Value.bool false]) (.agg #[vI (0 : Int), vI (0 : Int), Value.slice none 0 0, Value.bool false]) rfl rfl rfl s_31 (fun u hu => by simp only [List.mem_cons, List.not_mem_nil, or_false] at hu; rcases hu with rfl | rfl | rfl | rfl <;> first | rfl) (by repeat (first | assumption | constructor)) bx6029 (of_decide_eq_true rfl) s6034 fun w6040 s6041 m6042 k6043 bx6044 => (?_)))))
  refine wl_s (o_assign (vI (420 : Int)) rfl (wl_nil (thenQ_n (?_))))
  refine cw_ret (thenQ_r (end_r rfl (resv2 rfl (rv_A (vs := [vI (0 : Int), vI (0 : Int), Value.slice none 0 0, Value.bool false]) rfl Try.underlying31 rfl s_31 rfl bx6044 rfl) (rv_t rfl rfl)) (?_)))
  have e6045 : ((startM d).1) = (⟨(0 : Int), (0 : Int), [], false⟩ : Device) := by first | exact congrArg (fun p => p.1) (show startM d = _ from start_1 (by assumption)) | exact congrArg (fun p => p.1) (show startM d = _ from start_2 (by assumption) (.inl (by assumption))) | exact congrArg (fun p => p.1) (show startM d = _ from start_2 (by assumption) (.inr (by assumption))) | exact congrArg (fun p => p.1) (show startM d = _ from start_3 (by assumption) (by assumption) (by assumption))
  have e6046 : ((startM d).2) = (420 : Int) := by first | exact congrArg (fun p => p.2) (show startM d = _ from start_1 (by assumption)) | exact congrArg (fun p => p.2) (show startM d = _ from start_2 (by assumption) (.inl (by assumption))) | exact congrArg (fun p => p.2) (show startM d = _ from start_2 (by assumption) (.inr (by assumption))) | exact congrArg (fun p => p.2) (show startM d = _ from start_3 (by assumption) (by assumption) (by assumption))
  exact ⟨_, rfl, s6041.keep, by rw [e6045, e6046]; exact ⟨[vI (0 : Int), vI (0 : Int), Value.slice none 0 0, Value.bool false], rfl, Enc.out (B := (b6024 :: (b6017 :: []))) ⟨.slice none 0 0, rfl, (RdL.nil _ _ _)⟩⟩⟩
 ·have hp6047 : (formedM d) = true := by first | simpa using hc6038 | (have e := hc6038; rw [Bool.not_eq_true'] at e; exact e) | (have e := hc6038; rw [Bool.not_eq_false'] at e; exact e) | (have e := hc6038; simp at e; omega)
  refine cw_skip (thenQ_n (?_))
  refine cw_seq (?_)
  refine cw_seq (?_)
  refine cw_region (by kernel_rfl) (wl_s (o_fieldL 3 f_31_3 rfl (wl_s (o_loadBx Try.underlying4 rfl (Value.bool d.halted) rfl bx6022 rfl (wl_s (o_move (Value.bool d.halted) rfl (?_)))))))
  cases hb6048 : (d.halted)
  ·have hp6049 : d.halted = false := by first | simpa using hb6048 | (have e := hb6048; simp at e; omega)
   refine wl_t rfl (o_loadBxA (vs := [vI d.id, vI d.counter, d6015, Value.bool d.halted]) Try.underlying31 rfl s_31 rfl bx6022 rfl (wl_t rfl (o_callK (vs := [Value.agg #[vI d.id, vI d.counter, d6015, Value.bool d.halted]]) enter_86 (c_refWhole (O := (b6024 :: (b6017 :: [])) ++ O) [vI d.id, vI d.counter, d6015, Value.bool d.halted] d w6033 ⟨_, rfl, hd6016⟩ s6034.lt) rfl s6034 fun v6050 w6051 s6052 m6053 k6054 r6055 => (?_))))
   obtain rfl := r6055
   have hd6016 := hd6016.mv m6053
   have bx6022 := bx6022.keep k6054 (by simp)
   have bx6029 := bx6029.keep k6054 (by simp)
   refine wl_t rfl (o_not (wholeM d) rfl (wl_s (o_pickF (Value.bool (!(wholeM d))) rfl rfl (wl_nil (thenQ_n (?_))))))
   refine cw_cond (!(wholeM d)) rfl rfl (fun hc6056 => ?_) (fun hc6056 => ?_)
   ·have hp6057 : (wholeM d) = false := by first | simpa using hc6056 | (have e := hc6056; rw [Bool.not_eq_true'] at e; exact e) | (have e := hc6056; rw [Bool.not_eq_false'] at e; exact e) | (have e := hc6056; simp at e; omega)
    refine cw_seq (?_)
    refine cw_region (by kernel_rfl) (wl_s (o_fieldL 3 f_31_3 rfl (wl_n (o_store1 (Value.bool true) rfl rfl rfl s_4 (by repeat (first | assumption | constructor)) bx6022 (of_decide_eq_true rfl) s6052 fun w6058 s6059 m6060 k6061 bx6062 => (?_)))))
    have hd6016 := hd6016.mv m6060
    have bx6029 := bx6029.keep k6061 (nin1 (Ne.symm ne6031))
    refine wl_nil (thenQ_n (?_))
    refine cw_seq (?_)
    refine cw_region (by kernel_rfl) (wl_s (o_loadBxA (vs := [vI d.id, vI d.counter, d6015, Value.bool true]) Try.underlying31 rfl s_31 rfl bx6062 rfl (wl_n (o_store (vs := [vI d.id, vI d.counter, d6015, Value.bool true]) (.agg #[vI d.id, vI d.counter, d6015, Value.bool true]) rfl rfl rfl s_31 (fun u hu => by simp only [List.mem_cons, List.not_mem_nil, or_false] at hu; rcases hu with rfl | rfl | rfl | rfl <;> first | rfl | exact hd6016.oneCell) (by repeat (first | assumption | constructor)) bx6029 (of_decide_eq_true rfl) s6059 fun w6063 s6064 m6065 k6066 bx6067 => (?_)))))
    have hd6016 := hd6016.mv m6065
    refine wl_s (o_assign (vI (430 : Int)) rfl (wl_nil (thenQ_n (?_))))
    refine cw_ret (thenQ_r (end_r rfl (resv2 rfl (rv_A (vs := [vI d.id, vI d.counter, d6015, Value.bool true]) rfl Try.underlying31 rfl s_31 rfl bx6067 rfl) (rv_t rfl rfl)) (?_)))
    have e6068 : ((startM d).1) = (⟨d.id, d.counter, d.ops, true⟩ : Device) := by first | exact congrArg (fun p => p.1) (show startM d = _ from start_1 (by assumption)) | exact congrArg (fun p => p.1) (show startM d = _ from start_2 (by assumption) (.inl (by assumption))) | exact congrArg (fun p => p.1) (show startM d = _ from start_2 (by assumption) (.inr (by assumption))) | exact congrArg (fun p => p.1) (show startM d = _ from start_3 (by assumption) (by assumption) (by assumption))
    have e6069 : ((startM d).2) = (430 : Int) := by first | exact congrArg (fun p => p.2) (show startM d = _ from start_1 (by assumption)) | exact congrArg (fun p => p.2) (show startM d = _ from start_2 (by assumption) (.inl (by assumption))) | exact congrArg (fun p => p.2) (show startM d = _ from start_2 (by assumption) (.inr (by assumption))) | exact congrArg (fun p => p.2) (show startM d = _ from start_3 (by assumption) (by assumption) (by assumption))
    exact ⟨_, rfl, s6064.keep, by rw [e6068, e6069]; exact ⟨[vI d.id, vI d.counter, d6015, Value.bool true], rfl, Enc.out (B := (b6024 :: (b6017 :: []))) ⟨_, rfl, hd6016⟩⟩⟩
   ·have hp6070 : (wholeM d) = true := by first | simpa using hc6056 | (have e := hc6056; rw [Bool.not_eq_true'] at e; exact e) | (have e := hc6056; rw [Bool.not_eq_false'] at e; exact e) | (have e := hc6056; simp at e; omega)
    refine cw_skip (thenQ_n (?_))
    refine cw_seq (?_)
    refine cw_region (by kernel_rfl) (wl_s (o_loadBxA (vs := [vI d.id, vI d.counter, d6015, Value.bool d.halted]) Try.underlying31 rfl s_31 rfl bx6022 rfl (wl_n (o_store (vs := [vI d.id, vI d.counter, d6015, Value.bool d.halted]) (.agg #[vI d.id, vI d.counter, d6015, Value.bool d.halted]) rfl rfl rfl s_31 (fun u hu => by simp only [List.mem_cons, List.not_mem_nil, or_false] at hu; rcases hu with rfl | rfl | rfl | rfl <;> first | rfl | exact hd6016.oneCell) (by repeat (first | assumption | constructor)) bx6029 (of_decide_eq_true rfl) s6052 fun w6071 s6072 m6073 k6074 bx6075 => (?_)))))
    have hd6016 := hd6016.mv m6073
    refine wl_s (o_assign (vI (0 : Int)) rfl (wl_nil (thenQ_n (?_))))
    refine cw_ret (end_r rfl (resv2 rfl (rv_A (vs := [vI d.id, vI d.counter, d6015, Value.bool d.halted]) rfl Try.underlying31 rfl s_31 rfl bx6075 rfl) (rv_t rfl rfl)) (?_))
    have e6076 : ((startM d).1) = d := by first | exact congrArg (fun p => p.1) (show startM d = _ from start_1 (by assumption)) | exact congrArg (fun p => p.1) (show startM d = _ from start_2 (by assumption) (.inl (by assumption))) | exact congrArg (fun p => p.1) (show startM d = _ from start_2 (by assumption) (.inr (by assumption))) | exact congrArg (fun p => p.1) (show startM d = _ from start_3 (by assumption) (by assumption) (by assumption))
    have e6077 : ((startM d).2) = (0 : Int) := by first | exact congrArg (fun p => p.2) (show startM d = _ from start_1 (by assumption)) | exact congrArg (fun p => p.2) (show startM d = _ from start_2 (by assumption) (.inl (by assumption))) | exact congrArg (fun p => p.2) (show startM d = _ from start_2 (by assumption) (.inr (by assumption))) | exact congrArg (fun p => p.2) (show startM d = _ from start_3 (by assumption) (by assumption) (by assumption))
    exact ⟨_, rfl, s6072.keep, by rw [e6076, e6077]; exact ⟨[vI d.id, vI d.counter, d6015, Value.bool d.halted], rfl, Enc.out (B := (b6024 :: (b6017 :: []))) ⟨_, rfl, hd6016⟩⟩⟩
  ·have hp6078 : d.halted = true := by first | simpa using hb6048 | (have e := hb6048; simp at e; omega)
   refine wl_k rfl (wl_k rfl (wl_k rfl (wl_s (o_pickT (Value.bool true) rfl rfl (wl_nil (thenQ_n (?_)))))))
   refine cw_cond true rfl rfl (fun _ => ?_) (fun h => by cases h)
   refine cw_seq (?_)
   refine cw_region (by kernel_rfl) (wl_s (o_fieldL 3 f_31_3 rfl (wl_n (o_store1 (Value.bool true) rfl rfl rfl s_4 (by repeat (first | assumption | constructor)) bx6022 (of_decide_eq_true rfl) s6034 fun w6079 s6080 m6081 k6082 bx6083 => (?_)))))
   have hd6016 := hd6016.mv m6081
   have bx6029 := bx6029.keep k6082 (nin1 (Ne.symm ne6031))
   refine wl_nil (thenQ_n (?_))
   refine cw_seq (?_)
   refine cw_region (by kernel_rfl) (wl_s (o_loadBxA (vs := [vI d.id, vI d.counter, d6015, Value.bool true]) Try.underlying31 rfl s_31 rfl bx6083 rfl (wl_n (o_store (vs := [vI d.id, vI d.counter, d6015, Value.bool true]) (.agg #[vI d.id, vI d.counter, d6015, Value.bool true]) rfl rfl rfl s_31 (fun u hu => by simp only [List.mem_cons, List.not_mem_nil, or_false] at hu; rcases hu with rfl | rfl | rfl | rfl <;> first | rfl | exact hd6016.oneCell) (by repeat (first | assumption | constructor)) bx6029 (of_decide_eq_true rfl) s6080 fun w6084 s6085 m6086 k6087 bx6088 => (?_)))))
   have hd6016 := hd6016.mv m6086
   refine wl_s (o_assign (vI (430 : Int)) rfl (wl_nil (thenQ_n (?_))))
   refine cw_ret (thenQ_r (end_r rfl (resv2 rfl (rv_A (vs := [vI d.id, vI d.counter, d6015, Value.bool true]) rfl Try.underlying31 rfl s_31 rfl bx6088 rfl) (rv_t rfl rfl)) (?_)))
   have e6089 : ((startM d).1) = (⟨d.id, d.counter, d.ops, true⟩ : Device) := by first | exact congrArg (fun p => p.1) (show startM d = _ from start_1 (by assumption)) | exact congrArg (fun p => p.1) (show startM d = _ from start_2 (by assumption) (.inl (by assumption))) | exact congrArg (fun p => p.1) (show startM d = _ from start_2 (by assumption) (.inr (by assumption))) | exact congrArg (fun p => p.1) (show startM d = _ from start_3 (by assumption) (by assumption) (by assumption))
   have e6090 : ((startM d).2) = (430 : Int) := by first | exact congrArg (fun p => p.2) (show startM d = _ from start_1 (by assumption)) | exact congrArg (fun p => p.2) (show startM d = _ from start_2 (by assumption) (.inl (by assumption))) | exact congrArg (fun p => p.2) (show startM d = _ from start_2 (by assumption) (.inr (by assumption))) | exact congrArg (fun p => p.2) (show startM d = _ from start_3 (by assumption) (by assumption) (by assumption))
   exact ⟨_, rfl, s6085.keep, by rw [e6089, e6090]; exact ⟨[vI d.id, vI d.counter, d6015, Value.bool true], rfl, Enc.out (B := (b6024 :: (b6017 :: []))) ⟨_, rfl, hd6016⟩⟩⟩
set_option maxHeartbeats 4000000 in
set_option maxRecDepth 100000 in
theorem c_refRestore {O : List Nat} (d_cs : List Value) (d : Device) (l_v : Value) (l : List DeviceOp) (w : World) (h_d : Enc.device.rd w O d_cs d) (h_l : RdL Enc.devop w O l_v l) (hO : ∀ b ∈ O, b < w.heap.size) : CallsK Try.prog 48 [.agg d_cs.toArray, l_v] w (fun v w' => ∃ (x0 : List Value), v = .agg x0.toArray ∧ Enc.device.rd w' (O) x0 (restoreM d l)) :=  by
 have h_d : Enc.device.rd w ([] ++ O) d_cs d := h_d
 have lim_l := h_l.len_le
 have h_l : RdL Enc.devop w ([] ++ O) l_v l := h_l
 have s0 : St w O w [] := St.start hO
 refine callsK_of 8 Try.func48 rfl rfl (of_decide_eq_true rfl) (fun F0 => ?_)
 refine cw_seq (?_)
 refine cw_region (by kernel_rfl) (?_)
 obtain ⟨d6091, rfl, hd6092⟩ := h_d
 have := hd6092.len_le
 refine wl_s (o_box (Value.agg #[vI d.id, vI d.counter, d6091, Value.bool d.halted]) [vI d.id, vI d.counter, d6091, Value.bool d.halted] rfl rfl s0 fun b6093 w6094 e6099 s6095 m6096 k6097 bx6098 => (?_))
 clear e6099
 have h_l := h_l.mv m6096
 refine wl_s (o_alloc [vI (0 : Int), vI (0 : Int), Value.slice none 0 0, Value.bool false] z_31 rfl s6095 fun b6100 w6101 e6106 s6102 m6103 k6104 bx6105 => (?_))
 have ne6107 : NeB b6093 b6100 := by show b6093 ≠ b6100; have := bx6098.lt; omega
 clear e6106
 have h_l := h_l.mv m6103
 have bx6098 := bx6098.keep k6104 (by simp)
 refine wl_nil (thenQ_n (?_))
 refine cw_seq (?_)
 refine cw_region (by kernel_rfl) (wl_s (o_move (l_v) rfl (wl_s (o_fieldL 2 f_31_2 rfl (wl_n (o_store1 (l_v) rfl rfl h_l.oneCell s_26 (by repeat (first | assumption | constructor)) bx6098 (of_decide_eq_true rfl) s6102 fun w6108 s6109 m6110 k6111 bx6112 => (?_)))))))
 have h_l := h_l.mv m6110
 have bx6105 := bx6105.keep k6111 (nin1 (Ne.symm ne6107))
 refine wl_nil (thenQ_n (?_))
 refine cw_seq (?_)
 refine cw_region (by kernel_rfl) (wl_s (o_loadBxA (vs := [vI d.id, vI d.counter, l_v, Value.bool d.halted]) Try.underlying31 rfl s_31 rfl bx6112 rfl (wl_n (o_store (vs := [vI d.id, vI d.counter, l_v, Value.bool d.halted]) (.agg #[vI d.id, vI d.counter, l_v, Value.bool d.halted]) rfl rfl rfl s_31 (fun u hu => by simp only [List.mem_cons, List.not_mem_nil, or_false] at hu; rcases hu with rfl | rfl | rfl | rfl <;> first | rfl | exact h_l.oneCell) (by repeat (first | assumption | constructor)) bx6105 (of_decide_eq_true rfl) s6109 fun w6113 s6114 m6115 k6116 bx6117 => (?_)))))
 have h_l := h_l.mv m6115
 refine wl_nil (thenQ_n (?_))
 refine cw_ret (end_r rfl (rescA (vs := [vI d.id, vI d.counter, l_v, Value.bool d.halted]) rfl rfl Try.underlying31 rfl s_31 rfl bx6117 rfl) (?_))
 have e : (restoreM d l) = (⟨d.id, d.counter, l, d.halted⟩ : Device) := rfl
 exact ⟨_, rfl, s6114.keep, by rw [e]; first | done | exact ⟨[vI d.id, vI d.counter, l_v, Value.bool d.halted], rfl, Enc.out (B := (b6100 :: (b6093 :: []))) ⟨_, rfl, h_l⟩⟩⟩
set_option maxHeartbeats 4000000 in
set_option maxRecDepth 100000 in
theorem c_refBurnt {O : List Nat} (d_cs : List Value) (d : Device) (copies : Int) (first : Int) (w : World) (h_d : Enc.device.rd w O d_cs d) (hO : ∀ b ∈ O, b < w.heap.size) : CallsK Try.prog 51 [.agg d_cs.toArray, vI copies, vI first] w (fun v w' => ∃ (x0 : Value), v = x0 ∧ RdL Enc.int w' (O) x0 (burntM d copies first)) :=  by
 have h_d : Enc.device.rd w ([] ++ O) d_cs d := h_d
 have s0 : St w O w [] := St.start hO
 refine callsK_of 60 Try.func51 rfl rfl (of_decide_eq_true rfl) (fun F0 => ?_)
 refine cw_seq (?_)
 refine cw_region (by kernel_rfl) (wl_s (o_boxR (E := Enc.device) (Value.agg d_cs.toArray) (d_cs) d rfl rfl h_d s0 fun a6118 w6119 s6120 m6121 k6122 hp6123 => (?_)))
 refine wl_s (o_assign (Value.slice none 0 0) rfl (wl_nil (thenQ_n (?_))))
 refine cw_cut (fun FI wI => ∃ (B : List Nat), (d.halted = true ∨ wholeM d = false) ∧ True ∧ (∃ F1, FI = upds F1 [(1, vI copies), (2, vI first), (3, Value.pointer (some a6118)), (60, undef)]) ∧ St w O wI B ∧ PT Enc.device wI (B ++ O) (.pointer (some a6118)) (d)) ?_ ?_
 ·refine cw_seq (?_)
  refine cw_region (by kernel_rfl) (wl_s (o_loadS Try.underlying31 rfl s_31 rfl hp6123 fun cs6124 hs6125 => (wl_s (o_callK (vs := [Value.agg cs6124.toArray]) enter_86 (c_refWhole (O := [] ++ O) cs6124 d w6119 hs6125 s6120.lt) rfl s6120 fun v6126 w6127 s6128 m6129 k6130 r6131 => (?_)))))
  obtain rfl := r6131
  have hp6123 := hp6123.mv m6129
  refine wl_s (o_move (Value.bool (wholeM d)) rfl (?_))
  cases hb6132 : (wholeM d)
  ·have hp6133 : (wholeM d) = false := by first | simpa using hb6132 | (have e := hb6132; simp at e; omega)
   refine wl_k rfl (wl_k rfl (wl_k rfl (wl_s (o_pickF (Value.bool false) rfl rfl (wl_nil (thenQ_n (?_)))))))
   refine cw_cond false rfl rfl (fun h => by cases h) (fun _ => ?_)
   refine cw_skip (thenQ_n (?_))
   exact ⟨[], (by first | exact .inl (by assumption) | exact .inr (by assumption)), trivial, ⟨_, upds_self _ ⟨rfl, rfl, rfl, rfl, trivial⟩⟩, s6128, hp6123⟩
  ·have hp6134 : (wholeM d) = true := by first | simpa using hb6132 | (have e := hb6132; simp at e; omega)
   refine wl_t rfl (o_fieldR 3 f_31_3 (d.halted) rfl hp6123 (fun _ _ _ h => Enc_device_f3 h) fun a6135 hp6136 => (wl_t rfl (o_loadT Try.underlying4 rfl rfl hp6136 (wl_t rfl (o_not d.halted rfl (wl_s (o_pickT (Value.bool (!d.halted)) rfl rfl (wl_nil (thenQ_n (?_))))))))))
   refine cw_cond (!d.halted) rfl rfl (fun hc6137 => ?_) (fun hc6137 => ?_)
   ·have hp6138 : d.halted = false := by first | simpa using hc6137 | (have e := hc6137; rw [Bool.not_eq_true'] at e; exact e) | (have e := hc6137; rw [Bool.not_eq_false'] at e; exact e) | (have e := hc6137; simp at e; omega)
    refine cw_seq (?_)
    refine cw_region (by kernel_rfl) (wl_s (o_assign (Value.slice none 0 0) rfl (wl_nil (thenQ_n (?_)))))
    refine cw_ret (thenQ_r (end_r rfl (res1 rfl rfl rfl) (?_)))
    have e : (burntM d copies first) = ([]) := by first | exact burnt_1 (by assumption) (by assumption) | exact burnt_2 (.inl (by assumption)) (by assumption) | exact burnt_2 (.inr (by assumption)) (by assumption) | exact burnt_2 hrc19_0 (by assumption) | exact burnt_3 hrc19_0 (by assumption)
    exact ⟨_, rfl, s6128.keep, by rw [e]; first | done | exact ⟨.slice none 0 0, rfl, RdL.nil _ _ _⟩⟩
   ·have hp6139 : d.halted = true := by first | simpa using hc6137 | (have e := hc6137; rw [Bool.not_eq_true'] at e; exact e) | (have e := hc6137; rw [Bool.not_eq_false'] at e; exact e) | (have e := hc6137; simp at e; omega)
    refine cw_skip (thenQ_n (?_))
    exact ⟨[], (by first | exact .inl (by assumption) | exact .inr (by assumption)), trivial, ⟨_, upds_self _ ⟨rfl, rfl, rfl, rfl, trivial⟩⟩, s6128, hp6123⟩
 ·intro F wlc19 hI
  clear hp6123
  obtain ⟨Blc19, hrc19_0, hmc19, ⟨Flc19, rfl⟩, slc19, hp6123⟩ := hI
  refine cw_seq (?_)
  refine cw_region (by kernel_rfl) (wl_s (o_fieldR 2 f_31_2 (d.ops) rfl hp6123 (fun _ _ _ h => Enc_device_f2 h) fun a6140 hp6141 => (wl_s (o_loadL Try.underlying26 rfl rfl hp6141 fun v6142 hl6143 => (?_)))))
  have := hl6143.len_le
  refine wl_s (o_move (vI copies) rfl (wl_s (o_move (vI first) rfl (wl_s (o_callK (vs := [v6142, vI copies, vI first]) enter_33 (c_refState (O := Blc19 ++ O) v6142 d.ops copies first wlc19 hl6143 slc19.lt) rfl slc19 fun v6144 w6145 s6146 m6147 k6148 r6149 => (?_))))))
  obtain ⟨x6150, rfl, hl6151⟩ := r6149
  have := hl6151.len_le
  have hp6123 := hp6123.mv m6147
  refine wl_s (o_move (Value.tuple #[x6150, vI ((stateM d.ops copies first).2)]) rfl (wl_s (o_extract (x6150) rfl rfl (wl_s (o_extract (vI ((stateM d.ops copies first).2)) rfl rfl (wl_s (o_assign (x6150) rfl (wl_s (o_assign (vI ((stateM d.ops copies first).2)) rfl (wl_nil (thenQ_n (?_))))))))))))
  refine cw_seq (?_)
  refine cw_seq (?_)
  refine cw_region (by kernel_rfl) (wl_s (o_move (vI ((stateM d.ops copies first).2)) rfl (wl_s (o_neq .i64 ((stateM d.ops copies first).2) (0 : Int) rfl rfl (wl_nil (thenQ_n (?_)))))))
  refine cw_cond (((stateM d.ops copies first).2) != (0 : Int)) rfl rfl (fun hc6152 => ?_) (fun hc6152 => ?_)
  ·have hp6153 : (stateM d.ops copies first).2 ≠ (0 : Int) := by first | simpa using hc6152 | (have e := hc6152; simp at e; omega)
   refine cw_seq (?_)
   refine cw_region (by kernel_rfl) (wl_s (o_assign (Value.slice none 0 0) rfl (wl_nil (thenQ_n (?_)))))
   refine cw_ret (thenQ_r (end_r rfl (res1 rfl rfl rfl) (?_)))
   have e : (burntM d copies first) = ([]) := by first | exact burnt_1 (by assumption) (by assumption) | exact burnt_2 (.inl (by assumption)) (by assumption) | exact burnt_2 (.inr (by assumption)) (by assumption) | exact burnt_2 hrc19_0 (by assumption) | exact burnt_3 hrc19_0 (by assumption)
   exact ⟨_, rfl, s6146.keep, by rw [e]; first | done | exact ⟨.slice none 0 0, rfl, RdL.nil _ _ _⟩⟩
  ·have hp6154 : (stateM d.ops copies first).2 = (0 : Int) := by first | simpa using hc6152 | (have e := hc6152; simp at e; omega)
   have hst : (stateM d.ops copies first).2 = 0 := hp6154
   have hsl := state_len hst
   have hsb := (state_ok hst).2.2
   refine cw_skip (thenQ_n (?_))
   refine cw_seq (?_)
   refine cw_region (by kernel_rfl) (wl_s (o_litO (E := Enc.int) (xs := []) Try.underlying27 s_3 z_3 (by decide) [] [] [] rfl rfl rfl (Parts.nil _ _ _) (of_decide_eq_true rfl) s6146 fun v6159 b6161 w6155 e6162 hb6163 s6156 m6157 k6158 hl6160 => (?_)))
   have hB6164 : ∀ b, v6159.ownBlock = some b → b ∈ (b6161 :: Blc19) := fun b hb => by rw [hb6163] at hb; cases hb; simp
   clear e6162 hb6163
   have hp6123 := hp6123.mv m6157
   have hl6151 := hl6151.mv m6157
   refine wl_s (o_assign (v6159) rfl (wl_nil (thenQ_n (?_))))
   refine cw_seq (?_)
   refine cw_seq (?_)
   refine cw_region (by kernel_rfl) (wl_s (o_assign (vI (0 : Int)) rfl (wl_nil (thenQ_n (?_)))))
   refine cw_block (?_)
   refine cw_loop (fun mI FI wI => ∃ (k : Nat) (vo0_9 : Value) (B : List Nat), k ≤ ((stateM d.ops copies first).1).length ∧ mI = ((stateM d.ops copies first).1).length - k ∧ (∃ F1, FI = upds F1 [(3, Value.pointer (some a6118)), (7, x6150), (9, vo0_9), (10, vI ((k : Nat) : Int)), (60, undef)]) ∧ St w O wI B ∧ Own Enc.int 3 w.heap.size (B ++ O) wI vo0_9 (burnL (stateM d.ops copies first).1 d.id k) ∧ (∀ b, vo0_9.ownBlock = some b → b ∈ B) ∧ PT Enc.device wI (B ++ O) (.pointer (some a6118)) (d) ∧ RdL Enc.holding wI (B ++ O) (x6150) ((stateM d.ops copies first).1)) (((stateM d.ops copies first).1).length - (0)) ?_ ?_
   ·exact ⟨(0), v6159, (b6161 :: Blc19), (by omega), rfl, ⟨_, upds_self _ ⟨rfl, rfl, rfl, (by first | rfl | exact congrArg (Value.int _) (by first | omega | (simp))), rfl, trivial⟩⟩, s6156, (by rw [show burnL (stateM d.ops copies first).1 d.id (0) = [] from burn_zero _ _]; exact hl6160), hB6164, hp6123, hl6151⟩
   ·intro ml0 F wl0 hI
    clear hp6123 hl6151
    obtain ⟨k, vo0_9, Bl0, hr0_0, hm0, ⟨Fl0, rfl⟩, sl0, ho0_9, hB0_9, hp6123, hl6151⟩ := hI
    refine cw_seq (?_)
    refine cw_seq (?_)
    refine cw_region (by kernel_rfl) (wl_s (o_move (vI ((k : Nat) : Int)) rfl (wl_s (o_move (x6150) rfl (wl_s (o_lenR Try.underlying43 rfl hl6151 (wl_s (o_lss .i64 ((k : Nat) : Int) (((stateM d.ops copies first).1).length : Int) rfl rfl (wl_nil (thenQ_n (?_)))))))))))
    refine cw_cond (decide (((k : Nat) : Int) < (((stateM d.ops copies first).1).length : Int))) rfl rfl (fun hc6165 => ?_) (fun hc6165 => ?_)
    ·have hp6166 : ((k : Nat) : Int) < (((stateM d.ops copies first).1).length : Int) := by first | simpa using hc6165 | (have e := hc6165; simp at e; omega)
     refine cw_skip (thenQ_n (?_))
     refine cw_seq (?_)
     refine cw_block (?_)
     refine cw_seq (?_)
     cases hb6167 : (((((stateM d.ops copies first).1)[k]!).device) == d.id)
     ·have hp6168 : (((stateM d.ops copies first).1)[k]!).device ≠ d.id := by first | simpa using hb6167 | (have e := hb6167; simp at e; omega)
      refine cw_draw' 11 _ _ [fun (vT : Value) (wT : World) => RdL Enc.holding wT (Bl0 ++ O) vT ((stateM d.ops copies first).1), isV (vI ((k : Nat) : Int)), fun (vT : Value) (wT : World) => ∃ aT, vT = .pointer (some aT) ∧ PT Enc.holding wT (Bl0 ++ O) (.pointer (some aT)) (((stateM d.ops copies first).1)[k]!), fun (vT : Value) (wT : World) => ∃ aT, vT = .pointer (some aT) ∧ PT Enc.int wT (Bl0 ++ O) (.pointer (some aT)) ((((stateM d.ops copies first).1)[k]!).device), isV (vI ((((stateM d.ops copies first).1)[k]!).device)), fun (vT : Value) (wT : World) => ∃ aT, vT = .pointer (some aT) ∧ PT Enc.int wT (Bl0 ++ O) (.pointer (some aT)) (d.id), isV (vI d.id), isV (Value.bool false), isV (Value.bool false), isV undef, isV undef] (by kernel_rfl) (by kernel_rfl) (by kernel_rfl) (by kernel_rfl) rfl rfl ⟨fun _ _ _ h k => h.mv (Mv.of_keep k), kI, fun _ _ _ ⟨a, e, h⟩ k => ⟨a, e, h.mv (Mv.of_keep k)⟩, fun _ _ _ ⟨a, e, h⟩ k => ⟨a, e, h.mv (Mv.of_keep k)⟩, kI, fun _ _ _ ⟨a, e, h⟩ k => ⟨a, e, h.mv (Mv.of_keep k)⟩, kI, kI, kI, kI, kI, trivial⟩ ⟨?_, ?_, ?_, ?_, ?_, ?_, ?_, ?_, ?_, ?_, ?_, trivial⟩ ?_
      ·intro F1 w1 k1 hf hd
       have k0 := (Keep.drew [] wl0).trans k1
       have m1 : Mv Bl0 wl0 Bl0 w1 := Mv.of_keep k0
       have hl6151 := hl6151.mv m1
       obtain ⟨F2, rfl⟩ := lit_of (F := F1) [(7, x6150)] ⟨hf 7 (by kernel_rfl), trivial⟩
       exact sp_plain rfl ((o_move (x6150) rfl (⟨(Keep.refl _ _), hl6151⟩)))
      ·intro F1 w1 k1 hf hd
       obtain ⟨F2, rfl⟩ := lit_of (F := F1) [(10, vI ((k : Nat) : Int))] ⟨hf 10 (by kernel_rfl), trivial⟩
       exact sp_plain rfl ((o_move (vI ((k : Nat) : Int)) rfl (⟨(Keep.refl _ _), rfl⟩)))
      ·intro F1 w1 k1 hf hd
       obtain ⟨v6169, e6171, hl6170⟩ : ∃ v, F1 35 = v ∧ RdL Enc.holding w1 (Bl0 ++ O) v ((stateM d.ops copies first).1) := ⟨_, rfl, hd 0 35 (by kernel_rfl)⟩
       have := hl6170.len_le
       obtain ⟨F2, rfl⟩ := lit_of (F := F1) [(35, v6169), (36, vI ((k : Nat) : Int))] ⟨e6171, hd 1 36 (by kernel_rfl), trivial⟩
       exact sp_plain rfl ((o_idx Try.underlying43 s_47 .i64 ((k : Nat) : Int) k rfl rfl rfl hl6170 (by omega) fun a6172 hp6173 => (⟨(Keep.refl _ _), ⟨a6172, rfl, hp6173⟩⟩)))
      ·intro F1 w1 k1 hf hd
       obtain ⟨a6174, e6176, hp6175⟩ : ∃ aX_, F1 37 = .pointer (some aX_) ∧ PT Enc.holding w1 (Bl0 ++ O) (.pointer (some aX_)) (((stateM d.ops copies first).1)[k]!) := hd 2 37 (by kernel_rfl)
       obtain ⟨F2, rfl⟩ := lit_of (F := F1) [(37, Value.pointer (some a6174))] ⟨e6176, trivial⟩
       exact sp_plain rfl ((o_fieldR 1 f_47_1 ((((stateM d.ops copies first).1)[k]!).device) rfl hp6175 (fun _ _ _ h => Enc_holding_f1 h) fun a6177 hp6178 => (⟨(Keep.refl _ _), ⟨a6177, rfl, hp6178⟩⟩)))
      ·intro F1 w1 k1 hf hd
       obtain ⟨a6179, e6181, hp6180⟩ : ∃ aX_, F1 38 = .pointer (some aX_) ∧ PT Enc.int w1 (Bl0 ++ O) (.pointer (some aX_)) ((((stateM d.ops copies first).1)[k]!).device) := hd 3 38 (by kernel_rfl)
       obtain ⟨F2, rfl⟩ := lit_of (F := F1) [(38, Value.pointer (some a6179))] ⟨e6181, trivial⟩
       exact sp_plain rfl ((o_loadI Try.underlying3 rfl rfl hp6180 (⟨(Keep.refl _ _), rfl⟩)))
      ·intro F1 w1 k1 hf hd
       have k0 := (Keep.drew [] wl0).trans k1
       have m1 : Mv Bl0 wl0 Bl0 w1 := Mv.of_keep k0
       have hp6123 := hp6123.mv m1
       obtain ⟨F2, rfl⟩ := lit_of (F := F1) [(3, Value.pointer (some a6118))] ⟨hf 3 (by kernel_rfl), trivial⟩
       exact sp_plain rfl ((o_fieldR 0 f_31_0 (d.id) rfl hp6123 (fun _ _ _ h => Enc_device_f0 h) fun a6182 hp6183 => (⟨(Keep.refl _ _), ⟨a6182, rfl, hp6183⟩⟩)))
      ·intro F1 w1 k1 hf hd
       obtain ⟨a6184, e6186, hp6185⟩ : ∃ aX_, F1 40 = .pointer (some aX_) ∧ PT Enc.int w1 (Bl0 ++ O) (.pointer (some aX_)) (d.id) := hd 5 40 (by kernel_rfl)
       obtain ⟨F2, rfl⟩ := lit_of (F := F1) [(40, Value.pointer (some a6184))] ⟨e6186, trivial⟩
       exact sp_plain rfl ((o_loadI Try.underlying3 rfl rfl hp6185 (⟨(Keep.refl _ _), rfl⟩)))
      ·intro F1 w1 k1 hf hd
       obtain ⟨F2, rfl⟩ := lit_of (F := F1) [(39, vI ((((stateM d.ops copies first).1)[k]!).device)), (41, vI d.id)] ⟨hd 4 39 (by kernel_rfl), hd 6 41 (by kernel_rfl), trivial⟩
       refine sp_plain rfl ((o_eql .i64 ((((stateM d.ops copies first).1)[k]!).device) d.id rfl rfl (?_)))
       exact ⟨(Keep.refl _ _), congrArg Value.bool (hb6167)⟩
      ·intro F1 w1 k1 hf hd
       obtain ⟨F2, rfl⟩ := lit_of (F := F1) [(42, Value.bool false)] ⟨hd 7 42 (by kernel_rfl), trivial⟩
       exact sp_plain rfl ((o_move (Value.bool false) rfl (⟨(Keep.refl _ _), rfl⟩)))
      ·intro F1 w1 k1 hf hd
       exact sp_skipD rfl rfl (hd 8 43 (by kernel_rfl)) rfl rfl
      ·intro F1 w1 k1 hf hd
       exact sp_skipD rfl rfl (hd 8 43 (by kernel_rfl)) rfl rfl
      intro F6188 w6189 k6187 hT6190 hF6191
      have s6192 := sl0.call k6187
      have m6193 : Mv Bl0 wl0 Bl0 w6189 := Mv.of_keep k6187
      have hp6123 := hp6123.mv m6193
      have hl6151 := hl6151.mv m6193
      have ho0_9 := ho0_9.mv m6193 k6187 (by simp)
      obtain ⟨F2, rfl⟩ := lit_of (F := F6188) [(3, Value.pointer (some a6118)), (7, x6150), (9, vo0_9), (10, vI ((k : Nat) : Int)), (60, undef), (43, Value.bool false)] ⟨hF6191 3 (by kernel_rfl), hF6191 7 (by kernel_rfl), hF6191 9 (by kernel_rfl), hF6191 10 (by kernel_rfl), hF6191 60 (by kernel_rfl), hT6190 8 43 (by kernel_rfl) (by decide), trivial⟩
      clear hT6190 hF6191
      refine wl_k rfl (wl_k rfl (wl_k rfl (wl_k rfl (wl_s (o_pickF (Value.bool false) rfl rfl (wl_nil (thenQ_n (?_))))))))
      refine cw_cond false rfl rfl (fun h => by cases h) (fun _ => ?_)
      refine cw_skip (blockQ_n (thenQ_n (?_)))
      refine cw_region (by kernel_rfl) (wl_s (o_move (vI ((k : Nat) : Int)) rfl (wl_s (o_add .i64 ((k : Nat) : Int) (1 : Int) (((k + 1 : Nat) : Int)) rfl rfl (w64 (by omega) (by omega)) (wl_s (o_assign (vI ((k + 1 : Nat) : Int)) rfl (wl_nil (thenQ_n (?_)))))))))
      exact ⟨_, (by omega), (k + 1), vo0_9, Bl0, (by omega), rfl, ⟨_, upds_self _ ⟨rfl, rfl, rfl, (by first | rfl | exact congrArg (Value.int _) (by first | omega | (simp))), rfl, trivial⟩⟩, s6192, (by rw [show burnL (stateM d.ops copies first).1 d.id (k + 1) = burnL (stateM d.ops copies first).1 d.id k from by first | exact burn_y (by omega) (by assumption) (by assumption) | exact burn_n (by omega) (.inl (by assumption)) | exact burn_n (by omega) (.inr (by assumption))]; exact ho0_9), hB0_9, hp6123, hl6151⟩
     ·have hp6196 : (((stateM d.ops copies first).1)[k]!).device = d.id := by first | simpa using hb6167 | (have e := hb6167; simp at e; omega)
      refine cw_draw' 11 _ _ [fun (vT : Value) (wT : World) => RdL Enc.holding wT (Bl0 ++ O) vT ((stateM d.ops copies first).1), isV (vI ((k : Nat) : Int)), fun (vT : Value) (wT : World) => ∃ aT, vT = .pointer (some aT) ∧ PT Enc.holding wT (Bl0 ++ O) (.pointer (some aT)) (((stateM d.ops copies first).1)[k]!), fun (vT : Value) (wT : World) => ∃ aT, vT = .pointer (some aT) ∧ PT Enc.int wT (Bl0 ++ O) (.pointer (some aT)) ((((stateM d.ops copies first).1)[k]!).device), isV (vI ((((stateM d.ops copies first).1)[k]!).device)), fun (vT : Value) (wT : World) => ∃ aT, vT = .pointer (some aT) ∧ PT Enc.int wT (Bl0 ++ O) (.pointer (some aT)) (d.id), isV (vI d.id), isV (Value.bool true), isV (Value.bool true), fun (vT : Value) (wT : World) => RdL Enc.holding wT (Bl0 ++ O) vT ((stateM d.ops copies first).1), isV (vI ((k : Nat) : Int))] (by kernel_rfl) (by kernel_rfl) (by kernel_rfl) (by kernel_rfl) rfl rfl ⟨fun _ _ _ h k => h.mv (Mv.of_keep k), kI, fun _ _ _ ⟨a, e, h⟩ k => ⟨a, e, h.mv (Mv.of_keep k)⟩, fun _ _ _ ⟨a, e, h⟩ k => ⟨a, e, h.mv (Mv.of_keep k)⟩, kI, fun _ _ _ ⟨a, e, h⟩ k => ⟨a, e, h.mv (Mv.of_keep k)⟩, kI, kI, kI, fun _ _ _ h k => h.mv (Mv.of_keep k), kI, trivial⟩ ⟨?_, ?_, ?_, ?_, ?_, ?_, ?_, ?_, ?_, ?_, ?_, trivial⟩ ?_
      ·intro F1 w1 k1 hf hd
       have k0 := (Keep.drew [] wl0).trans k1
       have m1 : Mv Bl0 wl0 Bl0 w1 := Mv.of_keep k0
       have hl6151 := hl6151.mv m1
       obtain ⟨F2, rfl⟩ := lit_of (F := F1) [(7, x6150)] ⟨hf 7 (by kernel_rfl), trivial⟩
       exact sp_plain rfl ((o_move (x6150) rfl (⟨(Keep.refl _ _), hl6151⟩)))
      ·intro F1 w1 k1 hf hd
       obtain ⟨F2, rfl⟩ := lit_of (F := F1) [(10, vI ((k : Nat) : Int))] ⟨hf 10 (by kernel_rfl), trivial⟩
       exact sp_plain rfl ((o_move (vI ((k : Nat) : Int)) rfl (⟨(Keep.refl _ _), rfl⟩)))
      ·intro F1 w1 k1 hf hd
       obtain ⟨v6197, e6199, hl6198⟩ : ∃ v, F1 35 = v ∧ RdL Enc.holding w1 (Bl0 ++ O) v ((stateM d.ops copies first).1) := ⟨_, rfl, hd 0 35 (by kernel_rfl)⟩
       have := hl6198.len_le
       obtain ⟨F2, rfl⟩ := lit_of (F := F1) [(35, v6197), (36, vI ((k : Nat) : Int))] ⟨e6199, hd 1 36 (by kernel_rfl), trivial⟩
       exact sp_plain rfl ((o_idx Try.underlying43 s_47 .i64 ((k : Nat) : Int) k rfl rfl rfl hl6198 (by omega) fun a6200 hp6201 => (⟨(Keep.refl _ _), ⟨a6200, rfl, hp6201⟩⟩)))
      ·intro F1 w1 k1 hf hd
       obtain ⟨a6202, e6204, hp6203⟩ : ∃ aX_, F1 37 = .pointer (some aX_) ∧ PT Enc.holding w1 (Bl0 ++ O) (.pointer (some aX_)) (((stateM d.ops copies first).1)[k]!) := hd 2 37 (by kernel_rfl)
       obtain ⟨F2, rfl⟩ := lit_of (F := F1) [(37, Value.pointer (some a6202))] ⟨e6204, trivial⟩
       exact sp_plain rfl ((o_fieldR 1 f_47_1 ((((stateM d.ops copies first).1)[k]!).device) rfl hp6203 (fun _ _ _ h => Enc_holding_f1 h) fun a6205 hp6206 => (⟨(Keep.refl _ _), ⟨a6205, rfl, hp6206⟩⟩)))
      ·intro F1 w1 k1 hf hd
       obtain ⟨a6207, e6209, hp6208⟩ : ∃ aX_, F1 38 = .pointer (some aX_) ∧ PT Enc.int w1 (Bl0 ++ O) (.pointer (some aX_)) ((((stateM d.ops copies first).1)[k]!).device) := hd 3 38 (by kernel_rfl)
       obtain ⟨F2, rfl⟩ := lit_of (F := F1) [(38, Value.pointer (some a6207))] ⟨e6209, trivial⟩
       exact sp_plain rfl ((o_loadI Try.underlying3 rfl rfl hp6208 (⟨(Keep.refl _ _), rfl⟩)))
      ·intro F1 w1 k1 hf hd
       have k0 := (Keep.drew [] wl0).trans k1
       have m1 : Mv Bl0 wl0 Bl0 w1 := Mv.of_keep k0
       have hp6123 := hp6123.mv m1
       obtain ⟨F2, rfl⟩ := lit_of (F := F1) [(3, Value.pointer (some a6118))] ⟨hf 3 (by kernel_rfl), trivial⟩
       exact sp_plain rfl ((o_fieldR 0 f_31_0 (d.id) rfl hp6123 (fun _ _ _ h => Enc_device_f0 h) fun a6210 hp6211 => (⟨(Keep.refl _ _), ⟨a6210, rfl, hp6211⟩⟩)))
      ·intro F1 w1 k1 hf hd
       obtain ⟨a6212, e6214, hp6213⟩ : ∃ aX_, F1 40 = .pointer (some aX_) ∧ PT Enc.int w1 (Bl0 ++ O) (.pointer (some aX_)) (d.id) := hd 5 40 (by kernel_rfl)
       obtain ⟨F2, rfl⟩ := lit_of (F := F1) [(40, Value.pointer (some a6212))] ⟨e6214, trivial⟩
       exact sp_plain rfl ((o_loadI Try.underlying3 rfl rfl hp6213 (⟨(Keep.refl _ _), rfl⟩)))
      ·intro F1 w1 k1 hf hd
       obtain ⟨F2, rfl⟩ := lit_of (F := F1) [(39, vI ((((stateM d.ops copies first).1)[k]!).device)), (41, vI d.id)] ⟨hd 4 39 (by kernel_rfl), hd 6 41 (by kernel_rfl), trivial⟩
       refine sp_plain rfl ((o_eql .i64 ((((stateM d.ops copies first).1)[k]!).device) d.id rfl rfl (?_)))
       exact ⟨(Keep.refl _ _), congrArg Value.bool (hb6167)⟩
      ·intro F1 w1 k1 hf hd
       obtain ⟨F2, rfl⟩ := lit_of (F := F1) [(42, Value.bool true)] ⟨hd 7 42 (by kernel_rfl), trivial⟩
       exact sp_plain rfl ((o_move (Value.bool true) rfl (⟨(Keep.refl _ _), rfl⟩)))
      ·intro F1 w1 k1 hf hd
       have k0 := (Keep.drew [] wl0).trans k1
       have m1 : Mv Bl0 wl0 Bl0 w1 := Mv.of_keep k0
       have hl6151 := hl6151.mv m1
       obtain ⟨F2, rfl⟩ := lit_of (F := F1) [(7, x6150), (43, Value.bool true)] ⟨hf 7 (by kernel_rfl), hd 8 43 (by kernel_rfl), trivial⟩
       exact sp_take rfl rfl ((o_move (x6150) rfl (⟨(Keep.refl _ _), hl6151⟩)))
      ·intro F1 w1 k1 hf hd
       obtain ⟨F2, rfl⟩ := lit_of (F := F1) [(10, vI ((k : Nat) : Int)), (43, Value.bool true)] ⟨hf 10 (by kernel_rfl), hd 8 43 (by kernel_rfl), trivial⟩
       exact sp_take rfl rfl ((o_move (vI ((k : Nat) : Int)) rfl (⟨(Keep.refl _ _), rfl⟩)))
      intro F6216 w6217 k6215 hT6218 hF6219
      have s6220 := sl0.call k6215
      have m6221 : Mv Bl0 wl0 Bl0 w6217 := Mv.of_keep k6215
      have hp6123 := hp6123.mv m6221
      have hl6151 := hl6151.mv m6221
      have ho0_9 := ho0_9.mv m6221 k6215 (by simp)
      obtain ⟨v6224, e6226, hl6225⟩ : ∃ v, F6216 44 = v ∧ RdL Enc.holding w6217 (Bl0 ++ O) v ((stateM d.ops copies first).1) := ⟨_, rfl, hT6218 9 44 (by kernel_rfl) (by decide)⟩
      have := hl6225.len_le
      obtain ⟨F2, rfl⟩ := lit_of (F := F6216) [(3, Value.pointer (some a6118)), (7, x6150), (9, vo0_9), (10, vI ((k : Nat) : Int)), (60, undef), (43, Value.bool true), (44, v6224), (45, vI ((k : Nat) : Int))] ⟨hF6219 3 (by kernel_rfl), hF6219 7 (by kernel_rfl), hF6219 9 (by kernel_rfl), hF6219 10 (by kernel_rfl), hF6219 60 (by kernel_rfl), hT6218 8 43 (by kernel_rfl) (by decide), e6226, hT6218 10 45 (by kernel_rfl) (by decide), trivial⟩
      clear hT6218 hF6219
      refine wl_t rfl (o_idx Try.underlying43 s_47 .i64 ((k : Nat) : Int) k rfl rfl rfl hl6225 (by omega) fun a6227 hp6228 => (wl_t rfl (o_fieldR 3 f_47_3 ((((stateM d.ops copies first).1)[k]!).shown) rfl hp6228 (fun _ _ _ h => Enc_holding_f3 h) fun a6229 hp6230 => (wl_t rfl (o_loadT Try.underlying4 rfl rfl hp6230 (wl_t rfl (o_not ((((stateM d.ops copies first).1)[k]!).shown) rfl (wl_s (o_pickT (Value.bool (!((((stateM d.ops copies first).1)[k]!).shown))) rfl rfl (wl_nil (thenQ_n (?_))))))))))))
      refine cw_cond (!((((stateM d.ops copies first).1)[k]!).shown)) rfl rfl (fun hc6231 => ?_) (fun hc6231 => ?_)
      ·have hp6232 : ((((stateM d.ops copies first).1)[k]!).shown) = false := by first | simpa using hc6231 | (have e := hc6231; rw [Bool.not_eq_true'] at e; exact e) | (have e := hc6231; rw [Bool.not_eq_false'] at e; exact e) | (have e := hc6231; simp at e; omega)
       refine cw_region (by kernel_rfl) (wl_s (o_move (vo0_9) rfl (wl_s (o_move (x6150) rfl (wl_s (o_move (vI ((k : Nat) : Int)) rfl (wl_s (o_idx Try.underlying43 s_47 .i64 ((k : Nat) : Int) k rfl rfl rfl hl6151 (by omega) fun a6233 hp6234 => (wl_s (o_fieldR 0 f_47_0 ((((stateM d.ops copies first).1)[k]!).copy) rfl hp6234 (fun _ _ _ h => Enc_holding_f0 h) fun a6235 hp6236 => (wl_s (o_loadI Try.underlying3 rfl rfl hp6236 (wl_s (o_lit (E := Enc.int) (xs := [.tmp 56]) Try.underlying27 s_3 z_3 (by decide) [vI ((((stateM d.ops copies first).1)[k]!).copy)] [[vI ((((stateM d.ops copies first).1)[k]!).copy)]] [(((stateM d.ops copies first).1)[k]!).copy] rfl rfl rfl (Parts.cons rfl rfl (Parts.nil _ _ _)) (of_decide_eq_true rfl) s6220 fun v6241 w6237 s6238 m6239 k6240 hl6242 => (?_)))))))))))))))
       have hp6123 := hp6123.mv m6239
       have hl6151 := hl6151.mv m6239
       have ho0_9 := ho0_9.mv m6239 k6240 (by simp)
       have := hl6242.len_le
       refine wl_s (o_append (E := Enc.int) (l := burnL (stateM d.ops copies first).1 d.id k) (m := [(((stateM d.ops copies first).1)[k]!).copy]) Try.underlying27 i_3 rfl (by decide) rfl rfl ho0_9 hl6242 (fun _ hb => .inl hb) hB0_9 (by have := burn_len (stateM d.ops copies first).1 d.id k; simp; omega) (by have := burn_len (stateM d.ops copies first).1 d.id k; simp [maxLen]; omega) s6238 fun v6247 w6243 B6249 hB6250 at6251 sub6252 s6244 m6245 k6246 ho6248 => (?_))
       have hp6123 := hp6123.mv m6245
       have hl6151 := hl6151.mv m6245
       refine wl_s (o_assign (v6247) rfl (wl_nil (blockQ_n (thenQ_n (?_)))))
       refine cw_region (by kernel_rfl) (wl_s (o_move (vI ((k : Nat) : Int)) rfl (wl_s (o_add .i64 ((k : Nat) : Int) (1 : Int) (((k + 1 : Nat) : Int)) rfl rfl (w64 (by omega) (by omega)) (wl_s (o_assign (vI ((k + 1 : Nat) : Int)) rfl (wl_nil (thenQ_n (?_)))))))))
       exact ⟨_, (by omega), (k + 1), v6247, B6249, (by omega), rfl, ⟨_, upds_self _ ⟨rfl, rfl, rfl, (by first | rfl | exact congrArg (Value.int _) (by first | omega | (simp))), rfl, trivial⟩⟩, s6244, (by rw [show burnL (stateM d.ops copies first).1 d.id (k + 1) = (burnL (stateM d.ops copies first).1 d.id k) ++ ([(((stateM d.ops copies first).1)[k]!).copy]) from by first | exact burn_y (by omega) (by assumption) (by assumption) | exact burn_n (by omega) (.inl (by assumption)) | exact burn_n (by omega) (.inr (by assumption))]; exact ho6248), hB6250, hp6123, hl6151⟩
      ·have hp6253 : ((((stateM d.ops copies first).1)[k]!).shown) = true := by first | simpa using hc6231 | (have e := hc6231; rw [Bool.not_eq_true'] at e; exact e) | (have e := hc6231; rw [Bool.not_eq_false'] at e; exact e) | (have e := hc6231; simp at e; omega)
       refine cw_skip (blockQ_n (thenQ_n (?_)))
       refine cw_region (by kernel_rfl) (wl_s (o_move (vI ((k : Nat) : Int)) rfl (wl_s (o_add .i64 ((k : Nat) : Int) (1 : Int) (((k + 1 : Nat) : Int)) rfl rfl (w64 (by omega) (by omega)) (wl_s (o_assign (vI ((k + 1 : Nat) : Int)) rfl (wl_nil (thenQ_n (?_)))))))))
       exact ⟨_, (by omega), (k + 1), vo0_9, Bl0, (by omega), rfl, ⟨_, upds_self _ ⟨rfl, rfl, rfl, (by first | rfl | exact congrArg (Value.int _) (by first | omega | (simp))), rfl, trivial⟩⟩, s6220, (by rw [show burnL (stateM d.ops copies first).1 d.id (k + 1) = burnL (stateM d.ops copies first).1 d.id k from by first | exact burn_y (by omega) (by assumption) (by assumption) | exact burn_n (by omega) (.inl (by assumption)) | exact burn_n (by omega) (.inr (by assumption))]; exact ho0_9), hB0_9, hp6123, hl6151⟩
    ·have hp6254 : (((stateM d.ops copies first).1).length : Int) ≤ ((k : Nat) : Int) := by first | simpa using hc6165 | (have e := hc6165; simp at e; omega)
     obtain rfl : k = ((stateM d.ops copies first).1).length := by omega
     refine cw_exit (thenQ_x (thenQ_x (blockQ_x (thenQ_n (?_)))))
     refine cw_seq (?_)
     refine cw_region (by kernel_rfl) (wl_s (o_move (vo0_9) rfl (wl_s (o_assign (vo0_9) rfl (wl_nil (thenQ_n (?_)))))))
     refine cw_ret (end_r rfl (res1 rfl rfl rfl) (?_))
     have e : (burntM d copies first) = (burnL (stateM d.ops copies first).1 d.id (((stateM d.ops copies first).1).length)) := by first | exact burnt_1 (by assumption) (by assumption) | exact burnt_2 (.inl (by assumption)) (by assumption) | exact burnt_2 (.inr (by assumption)) (by assumption) | exact burnt_2 hrc19_0 (by assumption) | exact burnt_3 hrc19_0 (by assumption)
     exact ⟨_, rfl, sl0.keep, by rw [e]; first | done | exact ⟨vo0_9, rfl, ho0_9.pub sl0⟩⟩

end Go.Proofs.Ytjpniibleelgiaa
