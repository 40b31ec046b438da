/- Walks, printed by gen.py. -/
import Derived.Test.YtjpniibleelgiaaYk
import Derived.Test.YtjpniibleelgiaaYe
set_option linter.unusedSimpArgs false
set_option linter.unusedVariables false
namespace Go.Proofs.Ytjpniibleelgiaa
open Go.Fw Go.RowKit

set_option maxHeartbeats 4000000 in
set_option maxRecDepth 100000 in
theorem c_RollbackActSpec {O : List Nat} (d_cs : List Value) (d : Device) (o_cs : List Value) (o : DeviceOp) (crash : Int) (w : World) (h_d : Enc.device.rd w O d_cs d) (h_o : Enc.devop.rd w O o_cs o) (hO : ∀ b ∈ O, b < w.heap.size) : CallsK Try.prog 12 [.agg d_cs.toArray, .agg o_cs.toArray, vI crash] w (fun v _ => v = .bool (true)) :=  by
 have h_d : Enc.device.rd w ([] ++ O) d_cs d := h_d
 obtain rfl := h_o
 have s0 : St w O w [] := St.start hO
 refine callsK_of 39 Try.func12 rfl rfl (of_decide_eq_true rfl) (fun F0 => ?_)
 refine cw_seq (?_)
 refine cw_region (by kernel_rfl) (wl_s (o_boxR (E := Enc.device) (Value.agg d_cs.toArray) (d_cs) d rfl rfl h_d s0 fun a7017 w7018 s7019 m7020 k7021 hp7022 => (?_)))
 refine wl_s (o_boxR (E := Enc.devop) (Value.agg #[vI o.device, vI o.no, vI o.kind, vI o.copy, vI o.to, vI o.token]) ([vI o.device, vI o.no, vI o.kind, vI o.copy, vI o.to, vI o.token]) o rfl rfl rfl s7019 fun a7023 w7024 s7025 m7026 k7027 hp7028 => (?_))
 have hp7022 := hp7022.mv m7026
 refine wl_s (o_assign (Value.bool false) rfl (wl_nil (thenQ_n (?_))))
 refine cw_seq (?_)
 refine cw_seq (?_)
 refine cw_region (by kernel_rfl) (wl_s (o_callK (vs := []) enter_39 (c_sane43 (O := [] ++ O) w7024 s7025.lt) rfl s7025 fun v7029 w7030 s7031 m7032 k7033 r7034 => (?_)))
 obtain rfl := r7034
 have hp7022 := hp7022.mv m7032
 have hp7028 := hp7028.mv m7032
 refine wl_s (o_not true rfl (wl_nil (thenQ_n (?_))))
 refine cw_cond false rfl rfl (fun h => by cases h) (fun _ => ?_)
 refine cw_skip (thenQ_n (?_))
 refine cw_seq (?_)
 refine cw_seq (?_)
 refine cw_region (by kernel_rfl) (wl_s (o_fieldR 2 f_31_2 (d.ops) rfl hp7022 (fun _ _ _ h => Enc_device_f2 h) fun a7035 hp7036 => (wl_s (o_loadL Try.underlying26 rfl rfl hp7036 fun v7037 hl7038 => (?_)))))
 have := hl7038.len_le
 refine wl_s (o_callK (vs := [v7037]) enter_26 (c_few (O := [] ++ O) v7037 d.ops w7030 hl7038 s7031.lt) rfl s7031 fun v7039 w7040 s7041 m7042 k7043 r7044 => (?_))
 obtain rfl := r7044
 have hp7022 := hp7022.mv m7042
 have hp7028 := hp7028.mv m7042
 refine wl_s (o_not (decide ((d.ops.length : Int) ≤ 40)) rfl (wl_nil (thenQ_n (?_))))
 refine cw_cond (!(decide ((d.ops.length : Int) ≤ 40))) rfl rfl (fun hc7045 => ?_) (fun hc7045 => ?_)
 ·have hp7046 : 40 < (d.ops.length : Int) := by first | simpa using hc7045 | (have e := hc7045; rw [Bool.not_eq_true'] at e; exact e) | (have e := hc7045; rw [Bool.not_eq_false'] at e; exact e) | (have e := hc7045; simp at e; omega)
  refine cw_seq (?_)
  refine cw_region (by kernel_rfl) (wl_s (o_assign (Value.bool true) rfl (wl_nil (thenQ_n (?_)))))
  refine cw_ret (thenQ_r (end_r rfl (res1 rfl rfl rfl) (?_)))
  exact ⟨_, rfl, s7041.keep, rfl⟩
 ·have hp7047 : (d.ops.length : Int) ≤ 40 := by first | simpa using hc7045 | (have e := hc7045; rw [Bool.not_eq_true'] at e; exact e) | (have e := hc7045; rw [Bool.not_eq_false'] at e; exact e) | (have e := hc7045; simp at e; omega)
  refine cw_skip (thenQ_n (?_))
  refine cw_seq (?_)
  refine cw_region (by kernel_rfl) (wl_s (o_loadS Try.underlying31 rfl s_31 rfl hp7022 fun cs7048 hs7049 => (wl_s (o_loadS Try.underlying40 rfl s_40 rfl hp7028 fun cs7050 hs7051 => (?_)))))
  obtain rfl := hs7051
  refine wl_s (o_move (vI crash) rfl (wl_s (o_callK (vs := [Value.agg cs7048.toArray, Value.agg #[vI o.device, vI o.no, vI o.kind, vI o.copy, vI o.to, vI o.token], vI crash]) enter_40 (c_act (O := [] ++ O) cs7048 d [vI o.device, vI o.no, vI o.kind, vI o.copy, vI o.to, vI o.token] o crash w7040 hs7049 rfl s7041.lt) rfl s7041 fun v7052 w7053 s7054 m7055 k7056 r7057 => (?_))))
  obtain ⟨cs7058, rfl, hs7059⟩ := r7057
  have hp7022 := hp7022.mv m7055
  have hp7028 := hp7028.mv m7055
  refine wl_s (o_move (Value.tuple #[Value.agg cs7058.toArray, vI ((actM d o crash).2)]) rfl (wl_s (o_extract (Value.agg cs7058.toArray) rfl rfl (wl_s (o_extract (vI ((actM d o crash).2)) rfl rfl (wl_s (o_alloc [vI (0 : Int), vI (0 : Int), Value.slice none 0 0, Value.bool false] z_31 rfl s7054 fun b7060 w7061 e7066 s7062 m7063 k7064 bx7065 => (?_))))))))
  clear e7066
  have hp7022 := hp7022.mv m7063
  have hp7028 := hp7028.mv m7063
  have hs7059 : Enc.device.rd w7061 ((b7060 :: []) ++ O) cs7058 ((actM d o crash).1) := Enc.mv Enc.device (x := (actM d o crash).1) hs7059 m7063
  obtain ⟨d7072, rfl, hd7073⟩ := hs7059
  have := hd7073.len_le
  refine wl_n (o_store (vs := [vI (((actM d o crash).1).id), vI (((actM d o crash).1).counter), d7072, Value.bool (((actM d o crash).1).halted)]) (.agg #[vI (((actM d o crash).1).id), vI (((actM d o crash).1).counter), d7072, Value.bool (((actM d o crash).1).halted)]) rfl rfl rfl s_31 (fun u hu => by simp only [List.mem_cons, List.not_mem_nil, or_false] at hu; rcases hu with rfl | rfl | rfl | rfl <;> first | rfl | exact hd7073.oneCell) (by repeat (first | assumption | constructor)) bx7065 (of_decide_eq_true rfl) s7062 fun w7067 s7068 m7069 k7070 bx7071 => (?_))
  have hp7022 := hp7022.mv m7069
  have hp7028 := hp7028.mv m7069
  have hd7073 := hd7073.mv m7069
  refine wl_s (o_assign (vI ((actM d o crash).2)) rfl (wl_nil (thenQ_n (?_))))
  refine cw_seq (?_)
  refine cw_region (by kernel_rfl) (wl_s (o_loadS Try.underlying31 rfl s_31 rfl hp7022 fun cs7074 hs7075 => (wl_s (o_loadS Try.underlying40 rfl s_40 rfl hp7028 fun cs7076 hs7077 => (?_)))))
  obtain rfl := hs7077
  refine wl_s (o_move (vI crash) rfl (wl_s (o_callK (vs := [Value.agg cs7074.toArray, Value.agg #[vI o.device, vI o.no, vI o.kind, vI o.copy, vI o.to, vI o.token], vI crash]) enter_41 (c_refAct (O := (b7060 :: []) ++ O) cs7074 d [vI o.device, vI o.no, vI o.kind, vI o.copy, vI o.to, vI o.token] o crash w7067 hs7075 rfl s7068.lt) rfl s7068 fun v7078 w7079 s7080 m7081 k7082 r7083 => (?_))))
  obtain ⟨cs7084, rfl, hs7085⟩ := r7083
  have hd7073 := hd7073.mv m7081
  have bx7071 := bx7071.keep k7082 (by simp)
  refine wl_s (o_move (Value.tuple #[Value.agg cs7084.toArray, vI ((actM d o crash).2)]) rfl (wl_s (o_extract (Value.agg cs7084.toArray) rfl rfl (wl_s (o_extract (vI ((actM d o crash).2)) rfl rfl (wl_s (o_alloc [vI (0 : Int), vI (0 : Int), Value.slice none 0 0, Value.bool false] z_31 rfl s7080 fun b7086 w7087 e7092 s7088 m7089 k7090 bx7091 => (?_))))))))
  have ne7093 : NeB b7060 b7086 := by show b7060 ≠ b7086; have := bx7071.lt; omega
  clear e7092
  have hd7073 := hd7073.mv m7089
  have hs7085 : Enc.device.rd w7087 ((b7086 :: (b7060 :: [])) ++ O) cs7084 ((actM d o crash).1) := Enc.mv Enc.device (x := (actM d o crash).1) hs7085 m7089
  have bx7071 := bx7071.keep k7090 (by simp)
  obtain ⟨d7099, rfl, hd7100⟩ := hs7085
  have := hd7100.len_le
  refine wl_n (o_store (vs := [vI (((actM d o crash).1).id), vI (((actM d o crash).1).counter), d7099, Value.bool (((actM d o crash).1).halted)]) (.agg #[vI (((actM d o crash).1).id), vI (((actM d o crash).1).counter), d7099, Value.bool (((actM d o crash).1).halted)]) rfl rfl rfl s_31 (fun u hu => by simp only [List.mem_cons, List.not_mem_nil, or_false] at hu; rcases hu with rfl | rfl | rfl | rfl <;> first | rfl | exact hd7100.oneCell) (by repeat (first | assumption | constructor)) bx7091 (of_decide_eq_true rfl) s7088 fun w7094 s7095 m7096 k7097 bx7098 => (?_))
  have hd7073 := hd7073.mv m7096
  have hd7100 := hd7100.mv m7096
  have bx7071 := bx7071.keep k7097 (nin1 ne7093)
  refine wl_s (o_assign (vI ((actM d o crash).2)) rfl (wl_nil (thenQ_n (?_))))
  refine cw_seq (?_)
  refine cw_region (by kernel_rfl) (wl_s (o_loadBxA (vs := [vI (((actM d o crash).1).id), vI (((actM d o crash).1).counter), d7072, Value.bool (((actM d o crash).1).halted)]) Try.underlying31 rfl s_31 rfl bx7071 rfl (wl_s (o_loadBxA (vs := [vI (((actM d o crash).1).id), vI (((actM d o crash).1).counter), d7099, Value.bool (((actM d o crash).1).halted)]) Try.underlying31 rfl s_31 rfl bx7098 rfl (wl_s (o_callK (vs := [Value.agg #[vI (((actM d o crash).1).id), vI (((actM d o crash).1).counter), d7072, Value.bool (((actM d o crash).1).halted)], Value.agg #[vI (((actM d o crash).1).id), vI (((actM d o crash).1).counter), d7099, Value.bool (((actM d o crash).1).halted)]]) enter_42 (c_sameD (O := (b7086 :: (b7060 :: [])) ++ O) [vI (((actM d o crash).1).id), vI (((actM d o crash).1).counter), d7072, Value.bool (((actM d o crash).1).halted)] ((actM d o crash).1) [vI (((actM d o crash).1).id), vI (((actM d o crash).1).counter), d7099, Value.bool (((actM d o crash).1).halted)] ((actM d o crash).1) w7094 ⟨_, rfl, hd7073⟩ ⟨_, rfl, hd7100⟩ s7095.lt) rfl s7095 fun v7101 w7102 s7103 m7104 k7105 r7106 => (?_)))))))
  obtain rfl := r7106
  refine wl_s (o_move (Value.bool (((actM d o crash).1) == ((actM d o crash).1))) rfl (?_))
  have hb7107 : (((actM d o crash).1) == ((actM d o crash).1)) = true := (beq_self_eq_true _)
  rw [hb7107]
  refine wl_t rfl (o_move (vI ((actM d o crash).2)) rfl (wl_t rfl (o_move (vI ((actM d o crash).2)) rfl (wl_t rfl (o_eql .i64 ((actM d o crash).2) ((actM d o crash).2) rfl rfl (wl_s (o_pickT (Value.bool (((actM d o crash).2) == ((actM d o crash).2))) rfl rfl (wl_s (o_assign (Value.bool (((actM d o crash).2) == ((actM d o crash).2))) rfl (wl_nil (thenQ_n (?_))))))))))))
  refine cw_ret (end_r rfl (res1 rfl rfl rfl) (?_))
  have e : true = (((actM d o crash).2) == ((actM d o crash).2)) := by first | rfl | exact (beq_self_eq_true _).symm
  exact ⟨_, rfl, s7103.keep, (by first | exact congrArg Value.bool e.symm | rfl)⟩

end Go.Proofs.Ytjpniibleelgiaa
