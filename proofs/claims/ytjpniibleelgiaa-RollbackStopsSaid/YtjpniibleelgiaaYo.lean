/- Walks, printed by gen.py. -/
import Derived.Test.YtjpniibleelgiaaTy
import Derived.Test.YtjpniibleelgiaaMrB
import Derived.Test.YtjpniibleelgiaaFwS
set_option linter.unusedSimpArgs false
set_option linter.unusedVariables false
namespace Go.Proofs.Ytjpniibleelgiaa
open Go.Fw Go.RowKit

set_option maxHeartbeats 4000000 in
set_option maxRecDepth 100000 in
theorem c_other {O : List Nat} (id : Int) (ac_cs : List Value) (ac : Step) (w : World) (h_ac : Enc.step.rd w O ac_cs ac) (hpre0 : 0 ≤ id) (hpre1 : id < 4) (hO : ∀ b ∈ O, b < w.heap.size) : CallsK Try.prog 53 [vI id, .agg ac_cs.toArray] w (fun v w' => ∃ (x0 : List Value), v = .agg x0.toArray ∧ Enc.devop.rd w' (O) x0 (otherM id ac)) :=  by
 have h_ac : Enc.step.rd w ([] ++ O) ac_cs ac := h_ac
 have s0 : St w O w [] := St.start hO
 have h1_ := mod3_lt ac.to
 have h2_ := mod4_lt ac.at_
 have h3_ := mod4_lt ac.copy
 have h4_ := mod4_lt ac.token
 refine callsK_of 29 Try.func53 rfl rfl (of_decide_eq_true rfl) (fun F0 => ?_)
 refine cw_seq (?_)
 refine cw_region (by kernel_rfl) (wl_s (o_boxR (E := Enc.step) (Value.agg ac_cs.toArray) (ac_cs) ac rfl rfl h_ac s0 fun a7378 w7379 s7380 m7381 k7382 hp7383 => (?_)))
 refine wl_s (o_alloc [vI (0 : Int), vI (0 : Int), vI (0 : Int), vI (0 : Int), vI (0 : Int), vI (0 : Int)] z_40 rfl s7380 fun b7384 w7385 e7390 s7386 m7387 k7388 bx7389 => (?_))
 clear e7390
 have hp7383 := hp7383.mv m7387
 refine wl_nil (thenQ_n (?_))
 refine cw_seq (?_)
 refine cw_region (by kernel_rfl) (wl_s (o_move (vI id) rfl (wl_s (o_add .i64 id (1 : Int) (id + (1 : Int)) rfl rfl (w64 (by omega) (by omega)) (wl_s (o_fieldR 2 f_79_2 (ac.to) rfl hp7383 (fun _ _ _ h => Enc_step_f2 h) fun a7391 hp7392 => (wl_s (o_loadB Try.underlying5 rfl rfl hp7392 (wl_s (o_rem8 ac.to (3 : UInt8) (by decide) rfl rfl (wl_s (o_conv .u8 .i64 Try.underlying5 Try.underlying3 ((ac.to % 3).toNat : Int) ((ac.to % 3).toNat : Int) rfl (by have := (ac.to % 3).toNat_lt; exact w64 (by omega) rfl) (wl_s (o_add .i64 (id + (1 : Int)) ((ac.to % 3).toNat : Int) ((id + (1 : Int)) + ((ac.to % 3).toNat : Int)) rfl rfl (w64 (by omega) (by omega)) (wl_s (o_rem .i64 ((id + (1 : Int)) + ((ac.to % 3).toNat : Int)) (4 : Int) (((id + (1 : Int)) + ((ac.to % 3).toNat : Int)).tmod 4) rfl rfl (by decide) rfl (wl_s (o_fieldR 4 f_79_4 (ac.at_) rfl hp7383 (fun _ _ _ h => Enc_step_f4 h) fun a7393 hp7394 => (wl_s (o_loadB Try.underlying5 rfl rfl hp7394 (wl_s (o_rem8 ac.at_ (4 : UInt8) (by decide) rfl rfl (wl_s (o_conv .u8 .i64 Try.underlying5 Try.underlying3 ((ac.at_ % 4).toNat : Int) ((ac.at_ % 4).toNat : Int) rfl (by have := (ac.at_ % 4).toNat_lt; exact w64 (by omega) rfl) (wl_s (o_add .i64 (1 : Int) ((ac.at_ % 4).toNat : Int) ((1 : Int) + ((ac.at_ % 4).toNat : Int)) rfl rfl (w64 (by omega) (by omega)) (wl_s (o_fieldR 1 f_79_1 (ac.copy) rfl hp7383 (fun _ _ _ h => Enc_step_f1 h) fun a7395 hp7396 => (wl_s (o_loadB Try.underlying5 rfl rfl hp7396 (wl_s (o_rem8 ac.copy (4 : UInt8) (by decide) rfl rfl (wl_s (o_conv .u8 .i64 Try.underlying5 Try.underlying3 ((ac.copy % 4).toNat : Int) ((ac.copy % 4).toNat : Int) rfl (by have := (ac.copy % 4).toNat_lt; exact w64 (by omega) rfl) (wl_s (o_move (vI id) rfl (wl_s (o_fieldR 3 f_79_3 (ac.token) rfl hp7383 (fun _ _ _ h => Enc_step_f3 h) fun a7397 hp7398 => (wl_s (o_loadB Try.underlying5 rfl rfl hp7398 (wl_s (o_rem8 ac.token (4 : UInt8) (by decide) rfl rfl (wl_s (o_conv .u8 .i64 Try.underlying5 Try.underlying3 ((ac.token % 4).toNat : Int) ((ac.token % 4).toNat : Int) rfl (by have := (ac.token % 4).toNat_lt; exact w64 (by omega) rfl) (wl_s (o_add .i64 (1 : Int) ((ac.token % 4).toNat : Int) ((1 : Int) + ((ac.token % 4).toNat : Int)) rfl rfl (w64 (by omega) (by omega)) (wl_s (o_build (l := [(0, .tmp 12), (1, .tmp 17), (2, .const (vI (1 : Int))), (3, .tmp 21), (4, .tmp 22), (5, .tmp 27)]) pl_40 z_40 rfl [(0, vI (((id + (1 : Int)) + ((ac.to % 3).toNat : Int)).tmod 4), [vI (((id + (1 : Int)) + ((ac.to % 3).toNat : Int)).tmod 4)]), (1, vI ((1 : Int) + ((ac.at_ % 4).toNat : Int)), [vI ((1 : Int) + ((ac.at_ % 4).toNat : Int))]), (2, vI (1 : Int), [vI (1 : Int)]), (3, vI ((ac.copy % 4).toNat : Int), [vI ((ac.copy % 4).toNat : Int)]), (4, vI id, [vI id]), (5, vI ((1 : Int) + ((ac.token % 4).toNat : Int)), [vI ((1 : Int) + ((ac.token % 4).toNat : Int))])] [vI (((id + (1 : Int)) + ((ac.to % 3).toNat : Int)).tmod 4), vI ((1 : Int) + ((ac.at_ % 4).toNat : Int)), vI (1 : Int), vI ((ac.copy % 4).toNat : Int), vI id, vI ((1 : Int) + ((ac.token % 4).toNat : Int))] rfl ⟨_, rfl, rfl, (of_decide_eq_true rfl), ⟨_, rfl, rfl, (of_decide_eq_true rfl), ⟨_, rfl, rfl, (of_decide_eq_true rfl), ⟨_, rfl, rfl, (of_decide_eq_true rfl), ⟨_, rfl, rfl, (of_decide_eq_true rfl), ⟨_, rfl, rfl, (of_decide_eq_true rfl), rfl⟩⟩⟩⟩⟩⟩ (wl_n (o_store (vs := [vI (((id + (1 : Int)) + ((ac.to % 3).toNat : Int)).tmod 4), vI ((1 : Int) + ((ac.at_ % 4).toNat : Int)), vI (1 : Int), vI ((ac.copy % 4).toNat : Int), vI id, vI ((1 : Int) + ((ac.token % 4).toNat : Int))]) (.agg #[vI (((id + (1 : Int)) + ((ac.to % 3).toNat : Int)).tmod 4), vI ((1 : Int) + ((ac.at_ % 4).toNat : Int)), vI (1 : Int), vI ((ac.copy % 4).toNat : Int), vI id, vI ((1 : Int) + ((ac.token % 4).toNat : Int))]) rfl rfl rfl s_40 (fun u hu => by simp only [List.mem_cons, List.not_mem_nil, or_false] at hu; rcases hu with rfl | rfl | rfl | rfl | rfl | rfl <;> first | rfl) (by repeat (first | assumption | constructor)) bx7389 (of_decide_eq_true rfl) s7386 fun w7399 s7400 m7401 k7402 bx7403 => (?_)))))))))))))))))))))))))))))))))))))))))))))))))))
 refine wl_nil (thenQ_n (?_))
 refine cw_ret (end_r rfl (rescA (vs := [vI (((id + (1 : Int)) + ((ac.to % 3).toNat : Int)).tmod 4), vI ((1 : Int) + ((ac.at_ % 4).toNat : Int)), vI (1 : Int), vI ((ac.copy % 4).toNat : Int), vI id, vI ((1 : Int) + ((ac.token % 4).toNat : Int))]) rfl rfl Try.underlying40 rfl s_40 rfl bx7403 rfl) (?_))
 have e : (otherM id ac) = (⟨((id + (1 : Int)) + ((ac.to % 3).toNat : Int)).tmod 4, (1 : Int) + ((ac.at_ % 4).toNat : Int), (1 : Int), ((ac.copy % 4).toNat : Int), id, (1 : Int) + ((ac.token % 4).toNat : Int)⟩ : DeviceOp) := rfl
 exact ⟨_, rfl, s7400.keep, by rw [e]; first | done | exact ⟨[vI (((id + (1 : Int)) + ((ac.to % 3).toNat : Int)).tmod 4), vI ((1 : Int) + ((ac.at_ % 4).toNat : Int)), vI (1 : Int), vI ((ac.copy % 4).toNat : Int), vI id, vI ((1 : Int) + ((ac.token % 4).toNat : Int))], rfl, Enc.out (B := (b7384 :: [])) rfl⟩⟩

end Go.Proofs.Ytjpniibleelgiaa
