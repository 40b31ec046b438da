/- Walks, printed by gen.py. -/
import Derived.Test.YtpdekmknnpkmgaaWk
import Derived.Test.YtpdekmknnpkmgaaMgD
import Derived.Test.YtpdekmknnpkmgaaFwU
set_option linter.unusedSimpArgs false
set_option linter.unusedVariables false
namespace Go.Proofs.Ytpdekmknnpkmgaa
open Go.Fw Go.RowKit

set_option maxHeartbeats 4000000 in
set_option maxRecDepth 100000 in
theorem c_approveL {O : List Nat} (c_cs : List Value) (c : Circle) (no : Int) (l_v : Value) (l : List UInt8) (w : World) (h_c : Enc.circle.rd w O c_cs c) (h_l : RdL Enc.u8 w O l_v l) (hO : ∀ b ∈ O, b < w.heap.size) : CallsK Try.prog 27 [.agg c_cs.toArray, vI no, l_v] w (fun v w' => ∃ (x0 : List Value), v = .agg x0.toArray ∧ Enc.circle.rd w' (O) x0 (apM c no l l.length)) :=  by
 have h_c : Enc.circle.rd w ([] ++ O) c_cs c := h_c
 have lim_l := h_l.len_le
 have h_l : RdL Enc.u8 w ([] ++ O) l_v l := h_l
 have s0 : St w O w [] := St.start hO
 refine callsK_of 30 Try.func27 rfl rfl (of_decide_eq_true rfl) (fun F0 => ?_)
 refine cw_seq (?_)
 refine cw_region (by kernel_rfl) (?_)
 obtain ⟨d6056, d6058, rfl, hd6057, hd6059⟩ := h_c
 have := hd6057.len_le
 have := hd6059.len_le
 refine wl_s (o_box (Value.agg #[vI c.epoch, vI c.threshold, vI c.wait, d6056, d6058]) [vI c.epoch, vI c.threshold, vI c.wait, d6056, d6058] rfl rfl s0 fun b6060 w6061 e6066 s6062 m6063 k6064 bx6065 => (?_))
 clear e6066
 have hd6057 := hd6057.mv m6063
 have hd6059 := hd6059.mv m6063
 have h_l := h_l.mv m6063
 refine wl_s (o_alloc [vI (0 : Int), vI (0 : Int), vI (0 : Int), Value.slice none 0 0, Value.slice none 0 0] z_25 rfl s6062 fun b6067 w6068 e6073 s6069 m6070 k6071 bx6072 => (?_))
 have ne6074 : b6060 ≠ b6067 := by have := bx6065.lt; omega
 clear e6073
 have hd6057 := hd6057.mv m6070
 have hd6059 := hd6059.mv m6070
 have h_l := h_l.mv m6070
 have bx6065 := bx6065.keep k6071 (by simp)
 refine wl_nil (thenQ_n (?_))
 refine cw_seq (?_)
 refine cw_seq (?_)
 refine cw_region (by kernel_rfl) (wl_s (o_move (l_v) rfl (wl_s (o_lenR Try.underlying50 rfl h_l (wl_s (o_move (vI (0 : Int)) rfl (wl_nil (thenQ_n (?_)))))))))
 refine cw_block (?_)
 refine cw_loop (fun mI FI wI => ∃ (k : Nat) (vr0_b6060_3 : Value) (vr0_b6060_4 : Value) (B : List Nat), k ≤ l.length ∧ mI = l.length - k ∧ (∃ F1, FI = upds F1 [(1, vI no), (3, Value.pointer (some ⟨b6060, 0, none⟩)), (6, Value.pointer (some ⟨b6067, 0, none⟩)), (11, l_v), (12, vI (l.length : Int)), (13, vI ((k : Nat) : Int)), (30, undef)]) ∧ St w O wI B ∧ RdL Enc.int wI (B ++ O) vr0_b6060_3 ((apM c no l k).guardians) ∧ RdL Enc.recovery wI (B ++ O) vr0_b6060_4 ((apM c no l k).recs) ∧ RdL Enc.u8 wI (B ++ O) (l_v) (l) ∧ Box wI b6060 25 [vI ((apM c no l k).epoch), vI ((apM c no l k).threshold), vI ((apM c no l k).wait), vr0_b6060_3, vr0_b6060_4] ∧ b6060 ∈ B ∧ Box wI b6067 25 [vI (0 : Int), vI (0 : Int), vI (0 : Int), Value.slice none 0 0, Value.slice none 0 0] ∧ b6067 ∈ B) (l.length - (0)) ?_ ?_
 ·exact ⟨(0), d6056, d6058, (b6067 :: (b6060 :: [])), (by first | omega | (simp; done) | (simp; omega) | simp_all), rfl, ⟨_, upds_self _ ⟨rfl, rfl, rfl, rfl, rfl, (by first | rfl | exact congrArg (Value.int _) (by first | omega | (simp))), rfl, trivial⟩⟩, s6069, (by rw [show (apM c no l (0)).guardians = c.guardians from rfl]; exact hd6057), (by rw [show (apM c no l (0)).recs = c.recs from rfl]; exact hd6059), h_l, (by rw [show ([vI ((apM c no l (0)).epoch), vI ((apM c no l (0)).threshold), vI ((apM c no l (0)).wait), d6056, d6058] : List Value) = [vI c.epoch, vI c.threshold, vI c.wait, d6056, d6058] from rfl]; exact bx6065), (by first | assumption | (repeat (first | exact List.mem_cons_self | assumption | apply List.mem_cons_of_mem)) | (apply_assumption; assumption)), bx6072, (by first | assumption | (repeat (first | exact List.mem_cons_self | assumption | apply List.mem_cons_of_mem)) | (apply_assumption; assumption))⟩
 ·intro ml0 F wl0 hI
  clear h_l bx6072
  obtain ⟨k, vr0_b6060_3, vr0_b6060_4, Bl0, hr0_0, hm0, ⟨Fl0, rfl⟩, sl0, hrd0_b6060_3, hrd0_b6060_4, h_l, hbs_b6060, hin_b6060, bx6072, hin_b6067⟩ := hI
  have := hrd0_b6060_3.len_le
  have := hrd0_b6060_4.len_le
  refine cw_seq (?_)
  refine cw_region (by kernel_rfl) (wl_s (o_lss .i64 ((k : Nat) : Int) (l.length : Int) rfl rfl (wl_nil (thenQ_n (?_)))))
  refine cw_seq (?_)
  refine cw_cond (decide (((k : Nat) : Int) < (l.length : Int))) rfl rfl (fun hc6075 => ?_) (fun hc6075 => ?_)
  ·have hp6076 : ((k : Nat) : Int) < (l.length : Int) := by first | simpa using hc6075 | (have e := hc6075; simp at e; omega)
   refine cw_skip (thenQ_n (?_))
   refine cw_seq (?_)
   refine cw_block (?_)
   refine cw_seq (?_)
   refine cw_region (by kernel_rfl) (wl_s (o_idx Try.underlying50 s_5 .i64 ((k : Nat) : Int) k rfl rfl rfl h_l (by omega) fun a6077 hp6078 => (wl_s (o_loadB Try.underlying5 rfl rfl hp6078 (wl_s (o_assign (vB (l[k]!)) rfl (wl_nil (thenQ_n (?_)))))))))
   refine cw_seq (?_)
   refine cw_region (by kernel_rfl) (wl_s (o_loadBxA (vs := [vI ((apM c no l k).epoch), vI ((apM c no l k).threshold), vI ((apM c no l k).wait), vr0_b6060_3, vr0_b6060_4]) Try.underlying25 rfl s_25 rfl hbs_b6060 rfl (wl_s (o_move (vI no) rfl (wl_s (o_move (vB (l[k]!)) rfl (wl_s (o_conv .u8 .i64 Try.underlying5 Try.underlying3 ((l[k]!).toNat : Int) ((l[k]!).toNat : Int) rfl (by have := (l[k]!).toNat_lt; exact w64 (by omega) rfl) (wl_s (o_callK (vs := [Value.agg #[vI ((apM c no l k).epoch), vI ((apM c no l k).threshold), vI ((apM c no l k).wait), vr0_b6060_3, vr0_b6060_4], vI no, vI ((l[k]!).toNat : Int)]) enter_18 (c_approve (O := Bl0 ++ O) [vI ((apM c no l k).epoch), vI ((apM c no l k).threshold), vI ((apM c no l k).wait), vr0_b6060_3, vr0_b6060_4] (apM c no l k) no ((l[k]!).toNat : Int) wl0 ⟨_, _, rfl, hrd0_b6060_3, hrd0_b6060_4⟩ sl0.lt) rfl sl0 fun v6079 w6080 s6081 m6082 k6083 r6084 => (?_)))))))))))
   obtain ⟨cs6085, rfl, hs6086⟩ := r6084
   have h_l := h_l.mv m6082
   have hrd0_b6060_3 := hrd0_b6060_3.mv m6082
   have hrd0_b6060_4 := hrd0_b6060_4.mv m6082
   have hbs_b6060 := hbs_b6060.keep k6083 (by simp)
   have bx6072 := bx6072.keep k6083 (by simp)
   refine wl_s (o_move (Value.tuple #[Value.agg cs6085.toArray, vI ((gAct (apM c no l k) no (fApprove (apM c no l k) ((l[k]!).toNat : Int))).2)]) rfl (wl_s (o_extract (Value.agg cs6085.toArray) rfl rfl (wl_s (o_extract (vI ((gAct (apM c no l k) no (fApprove (apM c no l k) ((l[k]!).toNat : Int))).2)) rfl rfl (wl_s (o_alloc [vI (0 : Int), vI (0 : Int), vI (0 : Int), Value.slice none 0 0, Value.slice none 0 0] z_25 rfl s6081 fun b6087 w6088 e6093 s6089 m6090 k6091 bx6092 => (?_))))))))
   have ne6094 : b6060 ≠ b6087 := by have := hbs_b6060.lt; omega
   have ne6095 : b6067 ≠ b6087 := by have := bx6072.lt; omega
   clear e6093
   have h_l := h_l.mv m6090
   have hs6086 : Enc.circle.rd w6088 ((b6087 :: Bl0) ++ O) cs6085 ((gAct (apM c no l k) no (fApprove (apM c no l k) ((l[k]!).toNat : Int))).1) := Enc.mv Enc.circle (x := (gAct (apM c no l k) no (fApprove (apM c no l k) ((l[k]!).toNat : Int))).1) hs6086 m6090
   have hrd0_b6060_3 := hrd0_b6060_3.mv m6090
   have hrd0_b6060_4 := hrd0_b6060_4.mv m6090
   have hbs_b6060 := hbs_b6060.keep k6091 (by simp)
   have bx6072 := bx6072.keep k6091 (by simp)
   obtain ⟨d6101, d6103, rfl, hd6102, hd6104⟩ := hs6086
   have := hd6102.len_le
   have := hd6104.len_le
   refine wl_n (o_store (vs := [vI (((gAct (apM c no l k) no (fApprove (apM c no l k) ((l[k]!).toNat : Int))).1).epoch), vI (((gAct (apM c no l k) no (fApprove (apM c no l k) ((l[k]!).toNat : Int))).1).threshold), vI (((gAct (apM c no l k) no (fApprove (apM c no l k) ((l[k]!).toNat : Int))).1).wait), d6101, d6103]) (.agg #[vI (((gAct (apM c no l k) no (fApprove (apM c no l k) ((l[k]!).toNat : Int))).1).epoch), vI (((gAct (apM c no l k) no (fApprove (apM c no l k) ((l[k]!).toNat : Int))).1).threshold), vI (((gAct (apM c no l k) no (fApprove (apM c no l k) ((l[k]!).toNat : Int))).1).wait), d6101, d6103]) rfl rfl rfl s_25 (fun u hu => by simp only [List.mem_cons, List.not_mem_nil, or_false] at hu; rcases hu with rfl | rfl | rfl | rfl | rfl <;> first | rfl | exact hd6102.oneCell | exact hd6104.oneCell) (by repeat (first | assumption | constructor)) bx6092 (of_decide_eq_true rfl) s6089 fun w6096 s6097 m6098 k6099 bx6100 => (?_))
   have h_l := h_l.mv m6098
   have hrd0_b6060_3 := hrd0_b6060_3.mv m6098
   have hrd0_b6060_4 := hrd0_b6060_4.mv m6098
   have hd6102 := hd6102.mv m6098
   have hd6104 := hd6104.mv m6098
   have hbs_b6060 := hbs_b6060.keep k6099 (nin1 ne6094)
   have bx6072 := bx6072.keep k6099 (nin1 ne6095)
   refine wl_s (o_assign (vI ((gAct (apM c no l k) no (fApprove (apM c no l k) ((l[k]!).toNat : Int))).2)) rfl (wl_nil (thenQ_n (?_))))
   refine cw_seq (?_)
   refine cw_region (by kernel_rfl) (wl_s (o_move (vI ((gAct (apM c no l k) no (fApprove (apM c no l k) ((l[k]!).toNat : Int))).2)) rfl (wl_s (o_eql .i64 ((gAct (apM c no l k) no (fApprove (apM c no l k) ((l[k]!).toNat : Int))).2) (0 : Int) rfl rfl (wl_nil (thenQ_n (?_)))))))
   refine cw_cond (((gAct (apM c no l k) no (fApprove (apM c no l k) ((l[k]!).toNat : Int))).2) == (0 : Int)) rfl rfl (fun hc6105 => ?_) (fun hc6105 => ?_)
   ·have hp6106 : (gAct (apM c no l k) no (fApprove (apM c no l k) ((l[k]!).toNat : Int))).2 = (0 : Int) := by first | simpa using hc6105 | (have e := hc6105; simp at e; omega)
    refine cw_region (by kernel_rfl) (wl_s (o_loadBxA (vs := [vI (((gAct (apM c no l k) no (fApprove (apM c no l k) ((l[k]!).toNat : Int))).1).epoch), vI (((gAct (apM c no l k) no (fApprove (apM c no l k) ((l[k]!).toNat : Int))).1).threshold), vI (((gAct (apM c no l k) no (fApprove (apM c no l k) ((l[k]!).toNat : Int))).1).wait), d6101, d6103]) Try.underlying25 rfl s_25 rfl bx6100 rfl (wl_n (o_store (vs := [vI (((gAct (apM c no l k) no (fApprove (apM c no l k) ((l[k]!).toNat : Int))).1).epoch), vI (((gAct (apM c no l k) no (fApprove (apM c no l k) ((l[k]!).toNat : Int))).1).threshold), vI (((gAct (apM c no l k) no (fApprove (apM c no l k) ((l[k]!).toNat : Int))).1).wait), d6101, d6103]) (.agg #[vI (((gAct (apM c no l k) no (fApprove (apM c no l k) ((l[k]!).toNat : Int))).1).epoch), vI (((gAct (apM c no l k) no (fApprove (apM c no l k) ((l[k]!).toNat : Int))).1).threshold), vI (((gAct (apM c no l k) no (fApprove (apM c no l k) ((l[k]!).toNat : Int))).1).wait), d6101, d6103]) rfl rfl rfl s_25 (fun u hu => by simp only [List.mem_cons, List.not_mem_nil, or_false] at hu; rcases hu with rfl | rfl | rfl | rfl | rfl <;> first | rfl | exact hd6102.oneCell | exact hd6104.oneCell) (by repeat (first | assumption | constructor)) hbs_b6060 (of_decide_eq_true rfl) s6097 fun w6107 s6108 m6109 k6110 bx6111 => (?_)))))
    have h_l := h_l.mv m6109
    have hd6102 := hd6102.mv m6109
    have hd6104 := hd6104.mv m6109
    have bx6072 := bx6072.keep k6110 (nin1 (Ne.symm ne6074))
    refine wl_nil (blockQ_n (thenQ_n (?_)))
    refine cw_region (by kernel_rfl) (wl_s (o_add .i64 ((k : Nat) : Int) (1 : Int) (((k + 1 : Nat) : Int)) rfl rfl (w64 (by omega) (by omega)) (wl_s (o_move (vI ((k + 1 : Nat) : Int)) rfl (wl_nil (thenQ_n (?_)))))))
    exact ⟨_, (by omega), (k + 1), d6101, d6103, (b6087 :: Bl0), (by first | omega | (simp; done) | (simp; omega) | simp_all), rfl, ⟨_, upds_self _ ⟨rfl, rfl, rfl, rfl, rfl, (by first | rfl | exact congrArg (Value.int _) (by first | omega | (simp))), rfl, trivial⟩⟩, s6108, (by rw [show (apM c no l (k + 1)).guardians = ((gAct (apM c no l k) no (fApprove (apM c no l k) ((l[k]!).toNat : Int))).1).guardians from (by first | (rw [apM_ok (by omega) (by assumption)]; done) | (rw [apM_no (by omega) (by assumption)]; done))]; exact hd6102), (by rw [show (apM c no l (k + 1)).recs = ((gAct (apM c no l k) no (fApprove (apM c no l k) ((l[k]!).toNat : Int))).1).recs from (by first | (rw [apM_ok (by omega) (by assumption)]; done) | (rw [apM_no (by omega) (by assumption)]; done))]; exact hd6104), h_l, (by rw [show ([vI ((apM c no l (k + 1)).epoch), vI ((apM c no l (k + 1)).threshold), vI ((apM c no l (k + 1)).wait), d6101, d6103] : List Value) = [vI (((gAct (apM c no l k) no (fApprove (apM c no l k) ((l[k]!).toNat : Int))).1).epoch), vI (((gAct (apM c no l k) no (fApprove (apM c no l k) ((l[k]!).toNat : Int))).1).threshold), vI (((gAct (apM c no l k) no (fApprove (apM c no l k) ((l[k]!).toNat : Int))).1).wait), d6101, d6103] from (by first | (rw [apM_ok (by omega) (by assumption)]; done) | (rw [apM_no (by omega) (by assumption)]; done))]; exact bx6111), (by first | assumption | (repeat (first | exact List.mem_cons_self | assumption | apply List.mem_cons_of_mem)) | (apply_assumption; assumption)), bx6072, (by first | assumption | (repeat (first | exact List.mem_cons_self | assumption | apply List.mem_cons_of_mem)) | (apply_assumption; assumption))⟩
   ·have hp6112 : (gAct (apM c no l k) no (fApprove (apM c no l k) ((l[k]!).toNat : Int))).2 ≠ (0 : Int) := by first | simpa using hc6105 | (have e := hc6105; simp at e; omega)
    refine cw_skip (blockQ_n (thenQ_n (?_)))
    refine cw_region (by kernel_rfl) (wl_s (o_add .i64 ((k : Nat) : Int) (1 : Int) (((k + 1 : Nat) : Int)) rfl rfl (w64 (by omega) (by omega)) (wl_s (o_move (vI ((k + 1 : Nat) : Int)) rfl (wl_nil (thenQ_n (?_)))))))
    exact ⟨_, (by omega), (k + 1), vr0_b6060_3, vr0_b6060_4, (b6087 :: Bl0), (by first | omega | (simp; done) | (simp; omega) | simp_all), rfl, ⟨_, upds_self _ ⟨rfl, rfl, rfl, rfl, rfl, (by first | rfl | exact congrArg (Value.int _) (by first | omega | (simp))), rfl, trivial⟩⟩, s6097, (by rw [show (apM c no l (k + 1)).guardians = (apM c no l k).guardians from (by first | (rw [apM_ok (by omega) (by assumption)]; done) | (rw [apM_no (by omega) (by assumption)]; done))]; exact hrd0_b6060_3), (by rw [show (apM c no l (k + 1)).recs = (apM c no l k).recs from (by first | (rw [apM_ok (by omega) (by assumption)]; done) | (rw [apM_no (by omega) (by assumption)]; done))]; exact hrd0_b6060_4), h_l, (by rw [show ([vI ((apM c no l (k + 1)).epoch), vI ((apM c no l (k + 1)).threshold), vI ((apM c no l (k + 1)).wait), vr0_b6060_3, vr0_b6060_4] : List Value) = [vI ((apM c no l k).epoch), vI ((apM c no l k).threshold), vI ((apM c no l k).wait), vr0_b6060_3, vr0_b6060_4] from (by first | (rw [apM_ok (by omega) (by assumption)]; done) | (rw [apM_no (by omega) (by assumption)]; done))]; exact hbs_b6060), (by first | assumption | (repeat (first | exact List.mem_cons_self | assumption | apply List.mem_cons_of_mem)) | (apply_assumption; assumption)), bx6072, (by first | assumption | (repeat (first | exact List.mem_cons_self | assumption | apply List.mem_cons_of_mem)) | (apply_assumption; assumption))⟩
  ·have hp6113 : (l.length : Int) ≤ ((k : Nat) : Int) := by first | simpa using hc6075 | (have e := hc6075; simp at e; omega)
   obtain rfl : k = l.length := by omega
   refine cw_exit (thenQ_x (thenQ_x (blockQ_x (thenQ_n (?_)))))
   refine cw_seq (?_)
   refine cw_region (by kernel_rfl) (wl_s (o_loadBxA (vs := [vI ((apM c no l l.length).epoch), vI ((apM c no l l.length).threshold), vI ((apM c no l l.length).wait), vr0_b6060_3, vr0_b6060_4]) Try.underlying25 rfl s_25 rfl hbs_b6060 rfl (wl_n (o_store (vs := [vI ((apM c no l l.length).epoch), vI ((apM c no l l.length).threshold), vI ((apM c no l l.length).wait), vr0_b6060_3, vr0_b6060_4]) (.agg #[vI ((apM c no l l.length).epoch), vI ((apM c no l l.length).threshold), vI ((apM c no l l.length).wait), vr0_b6060_3, vr0_b6060_4]) rfl rfl rfl s_25 (fun u hu => by simp only [List.mem_cons, List.not_mem_nil, or_false] at hu; rcases hu with rfl | rfl | rfl | rfl | rfl <;> first | rfl | exact hrd0_b6060_3.oneCell | exact hrd0_b6060_4.oneCell) (by repeat (first | assumption | constructor)) bx6072 (of_decide_eq_true rfl) sl0 fun w6114 s6115 m6116 k6117 bx6118 => (?_)))))
   have hrd0_b6060_3 := hrd0_b6060_3.mv m6116
   have hrd0_b6060_4 := hrd0_b6060_4.mv m6116
   refine wl_nil (thenQ_n (?_))
   refine cw_ret (end_r rfl (rescA (vs := [vI ((apM c no l l.length).epoch), vI ((apM c no l l.length).threshold), vI ((apM c no l l.length).wait), vr0_b6060_3, vr0_b6060_4]) rfl rfl Try.underlying25 rfl s_25 rfl bx6118 rfl) (?_))
   exact ⟨_, rfl, s6115.keep, ⟨[vI ((apM c no l l.length).epoch), vI ((apM c no l l.length).threshold), vI ((apM c no l l.length).wait), vr0_b6060_3, vr0_b6060_4], rfl, Enc.out (B := Bl0) ⟨_, _, rfl, hrd0_b6060_3, hrd0_b6060_4⟩⟩⟩
set_option maxHeartbeats 4000000 in
set_option maxRecDepth 100000 in
theorem c_GuardiansOrder {O : List Nat} (c_cs : List Value) (c : Circle) (no : Int) (l_v : Value) (l : List UInt8) (turn : UInt8) (w : World) (h_c : Enc.circle.rd w O c_cs c) (h_l : RdL Enc.u8 w O l_v l) (hO : ∀ b ∈ O, b < w.heap.size) : CallsK Try.prog 6 [.agg c_cs.toArray, vI no, l_v, vB turn] w (fun v _ => v = .bool (true)) :=  by
 have h_c : Enc.circle.rd w ([] ++ O) c_cs c := h_c
 have lim_l := h_l.len_le
 have h_l : RdL Enc.u8 w ([] ++ O) l_v l := h_l
 have s0 : St w O w [] := St.start hO
 refine callsK_of 57 Try.func6 rfl rfl (of_decide_eq_true rfl) (fun F0 => ?_)
 refine cw_seq (?_)
 refine cw_region (by kernel_rfl) (wl_s (o_boxR (E := Enc.circle) (Value.agg c_cs.toArray) (c_cs) c rfl rfl h_c s0 fun a6119 w6120 s6121 m6122 k6123 hp6124 => (?_)))
 have h_l := h_l.mv m6122
 refine wl_s (o_assign (Value.bool false) rfl (wl_nil (thenQ_n (?_))))
 refine cw_seq (?_)
 refine cw_seq (?_)
 refine cw_region (by kernel_rfl) (wl_s (o_callK (vs := []) enter_9 (c_sane45 (O := [] ++ O) w6120 s6121.lt) rfl s6121 fun v6125 w6126 s6127 m6128 k6129 r6130 => (?_)))
 obtain rfl := r6130
 have h_l := h_l.mv m6128
 have hp6124 := hp6124.mv m6128
 refine wl_s (o_not true rfl (wl_nil (thenQ_n (?_))))
 refine cw_cond false rfl rfl (fun h => by cases h) (fun _ => ?_)
 refine cw_skip (thenQ_n (?_))
 refine cw_seq (?_)
 refine cw_seq (?_)
 refine cw_region (by kernel_rfl) (wl_s (o_loadS Try.underlying25 rfl s_25 rfl hp6124 fun cs6131 hs6132 => (wl_s (o_callK (vs := [Value.agg cs6131.toArray]) enter_10 (c_few (O := [] ++ O) cs6131 c w6126 hs6132 s6127.lt) rfl s6127 fun v6133 w6134 s6135 m6136 k6137 r6138 => (?_)))))
 obtain rfl := r6138
 have h_l := h_l.mv m6136
 have hp6124 := hp6124.mv m6136
 refine wl_s (o_not (fewC c) rfl (wl_s (o_move (Value.bool (!(fewC c))) rfl (?_))))
 cases hb6139 : (!(fewC c))
 ·have hp6140 : (fewC c) = true := by first | simpa using hb6139 | (have e := hb6139; simp at e; omega)
  refine wl_t rfl (o_move (l_v) rfl (wl_t rfl (o_lenR Try.underlying50 rfl h_l (wl_t rfl (o_gtr .i64 (l.length : Int) (20 : Int) rfl rfl (wl_s (o_pickF (Value.bool (decide ((20 : Int) < (l.length : Int)))) rfl rfl (wl_nil (thenQ_n (?_))))))))))
  refine cw_cond (decide ((20 : Int) < (l.length : Int))) rfl rfl (fun hc6141 => ?_) (fun hc6141 => ?_)
  ·have hp6142 : (20 : Int) < (l.length : Int) := by first | simpa using hc6141 | (have e := hc6141; simp at e; omega)
   refine cw_seq (?_)
   refine cw_region (by kernel_rfl) (wl_s (o_assign (Value.bool true) rfl (wl_nil (thenQ_n (?_)))))
   refine cw_ret (thenQ_r (end_r rfl (res1 rfl rfl rfl) (?_)))
   exact ⟨_, rfl, s6135.keep, rfl⟩
  ·have hp6143 : (l.length : Int) ≤ (20 : Int) := by first | simpa using hc6141 | (have e := hc6141; simp at e; omega)
   refine cw_skip (thenQ_n (?_))
   refine cw_seq (?_)
   refine cw_region (by kernel_rfl) (wl_s (o_assign (vI (0 : Int)) rfl (wl_nil (thenQ_n (?_)))))
   refine cw_seq (?_)
   refine cw_seq (?_)
   refine cw_region (by kernel_rfl) (wl_s (o_move (l_v) rfl (wl_s (o_lenR Try.underlying50 rfl h_l (wl_s (o_gtr .i64 (l.length : Int) (0 : Int) rfl rfl (wl_nil (thenQ_n (?_)))))))))
   refine cw_cond (decide ((0 : Int) < (l.length : Int))) rfl rfl (fun hc6144 => ?_) (fun hc6144 => ?_)
   ·have hp6145 : (0 : Int) < (l.length : Int) := by first | simpa using hc6144 | (have e := hc6144; simp at e; omega)
    have hmod := Nat.mod_lt turn.toNat (show 0 < l.length by omega)
    refine cw_region (by kernel_rfl) (wl_s (o_move (vB turn) rfl (wl_s (o_conv .u8 .i64 Try.underlying5 Try.underlying3 (turn.toNat : Int) (turn.toNat : Int) rfl (by have := (turn).toNat_lt; exact w64 (by omega) rfl) (wl_s (o_move (l_v) rfl (wl_s (o_lenR Try.underlying50 rfl h_l (wl_s (o_remN turn.toNat l.length (by omega) rfl rfl (wl_s (o_assign (vI ((turn.toNat % l.length : Nat) : Int)) rfl (wl_nil (thenQ_n (?_)))))))))))))))
    refine cw_seq (?_)
    refine cw_region (by kernel_rfl) (wl_s (o_loadS Try.underlying25 rfl s_25 rfl hp6124 fun cs6146 hs6147 => (wl_s (o_move (vI no) rfl (wl_s (o_move (l_v) rfl (wl_s (o_callK (vs := [Value.agg cs6146.toArray, vI no, l_v]) enter_27 (c_approveL (O := [] ++ O) cs6146 c no l_v l w6134 hs6147 h_l s6135.lt) rfl s6135 fun v6148 w6149 s6150 m6151 k6152 r6153 => (?_)))))))))
    obtain ⟨cs6154, rfl, hs6155⟩ := r6153
    have h_l := h_l.mv m6151
    have hp6124 := hp6124.mv m6151
    refine wl_s (o_alloc [vI (0 : Int), vI (0 : Int), vI (0 : Int), Value.slice none 0 0, Value.slice none 0 0] z_25 rfl s6150 fun b6156 w6157 e6162 s6158 m6159 k6160 bx6161 => (?_))
    clear e6162
    have h_l := h_l.mv m6159
    have hp6124 := hp6124.mv m6159
    have hs6155 : Enc.circle.rd w6157 ((b6156 :: []) ++ O) cs6154 (apM c no l l.length) := Enc.mv Enc.circle (x := apM c no l l.length) hs6155 m6159
    obtain ⟨d6168, d6170, rfl, hd6169, hd6171⟩ := hs6155
    have := hd6169.len_le
    have := hd6171.len_le
    refine wl_n (o_store (vs := [vI ((apM c no l l.length).epoch), vI ((apM c no l l.length).threshold), vI ((apM c no l l.length).wait), d6168, d6170]) (.agg #[vI ((apM c no l l.length).epoch), vI ((apM c no l l.length).threshold), vI ((apM c no l l.length).wait), d6168, d6170]) rfl rfl rfl s_25 (fun u hu => by simp only [List.mem_cons, List.not_mem_nil, or_false] at hu; rcases hu with rfl | rfl | rfl | rfl | rfl <;> first | rfl | exact hd6169.oneCell | exact hd6171.oneCell) (by repeat (first | assumption | constructor)) bx6161 (of_decide_eq_true rfl) s6158 fun w6163 s6164 m6165 k6166 bx6167 => (?_))
    have h_l := h_l.mv m6165
    have hp6124 := hp6124.mv m6165
    have hd6169 := hd6169.mv m6165
    have hd6171 := hd6171.mv m6165
    refine wl_nil (thenQ_n (?_))
    refine cw_seq (?_)
    refine cw_drawU 13 _ _ [fun _ => fun (vT : Value) (_ : World) => ∃ csT : List Value, vT = .agg csT.toArray ∧ Enc.circle.rd w6163 ((b6156 :: []) ++ O) csT (c), fun _ => isV (vI no), fun _ => fun (vT : Value) (_ : World) => ∃ aT : Addr, vT = .slice (some aT) 0 0, fun _ => fun (vT : Value) (_ : World) => RdL Enc.u8 w6163 ((b6156 :: []) ++ O) vT (l), fun _ => isV (vI ((turn.toNat % l.length : Nat) : Int)), fun _ => fun (vT : Value) (_ : World) => RdL Enc.u8 w6163 ((b6156 :: []) ++ O) vT ((l.drop (turn.toNat % l.length))), TOw w6163 w.heap.size O Enc.u8 5 ((l.drop (turn.toNat % l.length))), fun _ => fun (vT : Value) (_ : World) => RdL Enc.u8 w6163 ((b6156 :: []) ++ O) vT (l), fun _ => isV (vI ((turn.toNat % l.length : Nat) : Int)), fun _ => fun (vT : Value) (_ : World) => RdL Enc.u8 w6163 ((b6156 :: []) ++ O) vT ((l.take (turn.toNat % l.length))), TOw w6163 w.heap.size O Enc.u8 5 ((l.drop (turn.toNat % l.length)) ++ (l.take (turn.toNat % l.length))), fun (BT : List Nat) (vT : Value) (wT : World) => ∃ csT : List Value, vT = .agg csT.toArray ∧ Enc.circle.rd wT (BT ++ O) csT (apM c no ((l.drop (turn.toNat % l.length)) ++ (l.take (turn.toNat % l.length))) ((l.drop (turn.toNat % l.length)) ++ (l.take (turn.toNat % l.length))).length), TBx w6163 25 [vI (0 : Int), vI (0 : Int), vI (0 : Int), Value.slice none 0 0, Value.slice none 0 0]] [⟨0, [], [], [], false, []⟩, ⟨0, [], [], [], false, []⟩, ⟨0, [], [], [], false, []⟩, ⟨0, [], [], [], false, []⟩, ⟨0, [], [], [], false, []⟩, ⟨0, [], [], [], false, [3, 4]⟩, ⟨1, [], [], [], false, [2, 5]⟩, ⟨0, [], [], [], false, []⟩, ⟨0, [], [], [], false, []⟩, ⟨0, [], [], [], false, [7, 8]⟩, ⟨1, [1], [], [6], true, [6, 9]⟩, ⟨1, [1], [], [], false, [0, 1, 10]⟩, ⟨2, [], [], [], false, []⟩] (b6156 :: []) (by kernel_rfl) (by kernel_rfl) (by kernel_rfl) (by kernel_rfl) (by kernel_rfl) rfl rfl ⟨fun _ _ _ _ _ h => h, fun _ _ _ _ _ h => h, fun _ _ _ _ _ h => h, fun _ _ _ _ _ h => h, fun _ _ _ _ _ h => h, fun _ _ _ _ _ h => h, TOw.st, fun _ _ _ _ _ h => h, fun _ _ _ _ _ h => h, fun _ _ _ _ _ h => h, TOw.st, (show ∀ B B2 v w w2, (fun (BT : List Nat) (vT : Value) (wT : World) => ∃ csT : List Value, vT = .agg csT.toArray ∧ Enc.circle.rd wT (BT ++ O) csT (apM c no ((l.drop (turn.toNat % l.length)) ++ (l.take (turn.toNat % l.length))) ((l.drop (turn.toNat % l.length)) ++ (l.take (turn.toNat % l.length))).length)) B v w → Mv B w B2 w2 → (fun (BT : List Nat) (vT : Value) (wT : World) => ∃ csT : List Value, vT = .agg csT.toArray ∧ Enc.circle.rd wT (BT ++ O) csT (apM c no ((l.drop (turn.toNat % l.length)) ++ (l.take (turn.toNat % l.length))) ((l.drop (turn.toNat % l.length)) ++ (l.take (turn.toNat % l.length))).length)) B2 v w2 from fun _ _ _ _ _ ⟨a, e, h⟩ m => ⟨a, e, Enc.mv _ h m⟩), TBx.st, trivial⟩ ⟨?_, ?_, ?_, ?_, ?_, ?_, ?_, ?_, ?_, ?_, ?_, ?_, ?_, trivial⟩ ?_
    ·intro F1 w1 B1_ Bs_ k1 hs_ hl_ hr_ hsep_ hf hd
     have k0 := (Keep.drew [] w6163).trans k1
     obtain ⟨F2, rfl⟩ := lit_of (F := F1) [(4, Value.pointer (some a6119))] ⟨hf 4 (by kernel_rfl), trivial⟩
     exact sp_plain rfl ((o_loadSU Try.underlying25 rfl s_25 rfl hp6124 k0 fun cs6172 hs6173 => (⟨[], (Keep.refl _ _), noC, ⟨cs6172, rfl, hs6173⟩⟩)))
    ·intro F1 w1 B1_ Bs_ k1 hs_ hl_ hr_ hsep_ hf hd
     obtain ⟨F2, rfl⟩ := lit_of (F := F1) [(1, vI no)] ⟨hf 1 (by kernel_rfl), trivial⟩
     exact sp_plain rfl ((o_move (vI no) rfl (⟨[], (Keep.refl _ _), noC, rfl⟩)))
    ·intro F1 w1 B1_ Bs_ k1 hs_ hl_ hr_ hsep_ hf hd
     obtain ⟨F2, rfl⟩ := lit_of (F := F1) [] trivial
     refine sp_plain rfl ((o_emp Enc.u8 Try.underlying50 s_5 z_5 (by decide) rfl rfl fun a6180 w6174 k6177 => (?_)))
     exact ⟨[], k6177, noC, ⟨_, rfl⟩⟩
    ·intro F1 w1 B1_ Bs_ k1 hs_ hl_ hr_ hsep_ hf hd
     obtain ⟨F2, rfl⟩ := lit_of (F := F1) [(2, l_v)] ⟨hf 2 (by kernel_rfl), trivial⟩
     exact sp_plain rfl ((o_move (l_v) rfl (⟨[], (Keep.refl _ _), noC, h_l⟩)))
    ·intro F1 w1 B1_ Bs_ k1 hs_ hl_ hr_ hsep_ hf hd
     obtain ⟨F2, rfl⟩ := lit_of (F := F1) [(9, vI ((turn.toNat % l.length : Nat) : Int))] ⟨hf 9 (by kernel_rfl), trivial⟩
     exact sp_plain rfl ((o_move (vI ((turn.toNat % l.length : Nat) : Int)) rfl (⟨[], (Keep.refl _ _), noC, rfl⟩)))
    ·intro F1 w1 B1_ Bs_ k1 hs_ hl_ hr_ hsep_ hf hd
     obtain ⟨v6181, e6183, hl6182⟩ : ∃ v, F1 37 = v ∧ RdL Enc.u8 w6163 ((b6156 :: []) ++ O) v (l) := ⟨_, rfl, hd 3 37 (by kernel_rfl) (by kernel_rfl)⟩
     have := hl6182.len_le
     obtain ⟨F2, rfl⟩ := lit_of (F := F1) [(37, v6181), (38, vI ((turn.toNat % l.length : Nat) : Int))] ⟨e6183, hd 4 38 (by kernel_rfl) (by kernel_rfl), trivial⟩
     refine sp_plain rfl ((o_sliceRU Try.underlying50 s_5 (turn.toNat % l.length) l.length rfl (.inr ⟨.tmp 38, .i64, ((turn.toNat % l.length : Nat) : Int), rfl, rfl, rfl⟩) (.inl ⟨rfl, rfl⟩) (by omega) (by omega) hl6182 fun v6184 hl6185 => (?_)))
     rw [List.take_length] at hl6185
     exact ⟨[], (Keep.refl _ _), noC, hl6185⟩
    ·intro F1 w1 B1_ Bs_ k1 hs_ hl_ hr_ hsep_ hf hd
     have k0 := (Keep.drew [] w6163).trans k1
     have s1 := s6164.adoptL k0 hl_
     have m1 : Mv (b6156 :: []) w6163 B1_ w1 := Mv.adoptL k0 hl_
     obtain ⟨a6186, e6187⟩ : ∃ A : Addr, F1 36 = .slice (some A) 0 0 := hd 2 36 (by kernel_rfl) (by kernel_rfl)
     obtain ⟨v6188, e6190, hl6189⟩ : ∃ v, F1 39 = v ∧ RdL Enc.u8 w6163 ((b6156 :: []) ++ O) v ((l.drop (turn.toNat % l.length))) := ⟨_, rfl, hd 5 39 (by kernel_rfl) (by kernel_rfl)⟩
     have := hl6189.len_le
     have hl6189 := hl6189.mv m1
     obtain ⟨F2, rfl⟩ := lit_of (F := F1) [(36, Value.slice (some a6186) 0 0), (39, v6188)] ⟨e6187, e6190, trivial⟩
     refine sp_plain rfl ((o_appendEmpO (E := Enc.u8) (m := (l.drop (turn.toNat % l.length))) a6186 (by rw [List.length_drop]; have := Nat.mod_lt turn.toNat (show 0 < l.length by omega); omega) Try.underlying50 i_5 rfl (by decide) rfl rfl hl6189 (fun _ hb => .inl hb) (by simp; omega) (by simp [maxLen]; omega) s1 fun v6198 b6191 w6194 e6192 hb6193 s6195 m6196 k6197 ho6199 => (?_)))
     have lo6200 : w6163.heap.size ≤ b6191 := by have := k0.size; omega
     have hi6201 := (ho6199.lt b6191 hb6193).2
     exact ⟨[], k6197, noC, ⟨_, hb6193, lo6200, (by intro h; have := lt_of s1 _ h; omega), ho6199⟩⟩
    ·intro F1 w1 B1_ Bs_ k1 hs_ hl_ hr_ hsep_ hf hd
     obtain ⟨F2, rfl⟩ := lit_of (F := F1) [(2, l_v)] ⟨hf 2 (by kernel_rfl), trivial⟩
     exact sp_plain rfl ((o_move (l_v) rfl (⟨[], (Keep.refl _ _), noC, h_l⟩)))
    ·intro F1 w1 B1_ Bs_ k1 hs_ hl_ hr_ hsep_ hf hd
     obtain ⟨F2, rfl⟩ := lit_of (F := F1) [(9, vI ((turn.toNat % l.length : Nat) : Int))] ⟨hf 9 (by kernel_rfl), trivial⟩
     exact sp_plain rfl ((o_move (vI ((turn.toNat % l.length : Nat) : Int)) rfl (⟨[], (Keep.refl _ _), noC, rfl⟩)))
    ·intro F1 w1 B1_ Bs_ k1 hs_ hl_ hr_ hsep_ hf hd
     obtain ⟨v6202, e6204, hl6203⟩ : ∃ v, F1 41 = v ∧ RdL Enc.u8 w6163 ((b6156 :: []) ++ O) v (l) := ⟨_, rfl, hd 7 41 (by kernel_rfl) (by kernel_rfl)⟩
     have := hl6203.len_le
     obtain ⟨F2, rfl⟩ := lit_of (F := F1) [(41, v6202), (42, vI ((turn.toNat % l.length : Nat) : Int))] ⟨e6204, hd 8 42 (by kernel_rfl) (by kernel_rfl), trivial⟩
     refine sp_plain rfl ((o_sliceRU Try.underlying50 s_5 0 (turn.toNat % l.length) rfl (.inl ⟨rfl, rfl⟩) (.inr ⟨.tmp 42, .i64, ((turn.toNat % l.length : Nat) : Int), rfl, rfl, rfl⟩) (by omega) (by omega) hl6203 fun v6205 hl6206 => (?_)))
     rw [List.drop_zero] at hl6206
     exact ⟨[], (Keep.refl _ _), noC, hl6206⟩
    ·intro F1 w1 B1_ Bs_ k1 hs_ hl_ hr_ hsep_ hf hd
     have k0 := (Keep.drew [] w6163).trans k1
     obtain ⟨v6207, e6213, b6208, hb6209, lo6210, hn6211, ho6212⟩ : ∃ v, F1 40 = v ∧ (TOw w6163 w.heap.size O Enc.u8 5 ((l.drop (turn.toNat % l.length)))) (Bs_ 1) v w1 := ⟨_, rfl, hd 6 40 (by kernel_rfl) (by kernel_rfl)⟩
     have hi6214 := (ho6212.lt _ hb6209).2
     have hn6215 : b6208 ∉ B1_ := fun h => hn6211 (hr_ 1 (by kernel_rfl) _ h)
     have ho6216 := ho6212.mv ((Mv.at_ (hr_ 1 (by kernel_rfl))).cons b6208) (Keep.refl [] _) (by simp)
     have hB6217 : ∀ b2, v6207.ownBlock = some b2 → b2 ∈ (b6208 :: B1_) := fun _ h => by rw [hb6209] at h; cases h; simp
     have s0_ := s6164.adoptL k0 hl_
     have s1 := s0_.adopt (Nat.le_trans s6164.keep.size lo6210) hi6214
     have m1 : Mv (b6156 :: []) w6163 (b6208 :: B1_) w1 := Mv.adoptL k0 (fun x hx => by rcases List.mem_cons.1 hx with rfl | h; exact .inr ⟨lo6210, hi6214⟩; exact hl_ x h)
     obtain ⟨v6218, e6220, hl6219⟩ : ∃ v, F1 43 = v ∧ RdL Enc.u8 w6163 ((b6156 :: []) ++ O) v ((l.take (turn.toNat % l.length))) := ⟨_, rfl, hd 9 43 (by kernel_rfl) (by kernel_rfl)⟩
     have := hl6219.len_le
     have hl6219 := hl6219.mv m1
     obtain ⟨F2, rfl⟩ := lit_of (F := F1) [(40, v6207), (43, v6218)] ⟨e6213, e6220, trivial⟩
     refine sp_plain rfl ((o_append (E := Enc.u8) (l := (l.drop (turn.toNat % l.length))) (m := (l.take (turn.toNat % l.length))) Try.underlying50 i_5 rfl (by decide) rfl rfl ho6216 hl6219 (fun _ hb => .inl hb) hB6217 (by simp; omega) (by simp [maxLen]; omega) s1 fun v6225 w6221 B6227 hB6228 at6229 sub6230 s6222 m6223 k6224 ho6226 => (?_)))
     exact ⟨_, k6224, wrote hb6209 lo6210 hi6214 hn6215, TOw.grow hb6209 lo6210 hn6215 k0.size (lt_of s0_) at6229 ho6226 hB6228 sub6230⟩
    ·intro F1 w1 B1_ Bs_ k1 hs_ hl_ hr_ hsep_ hf hd
     have k0 := (Keep.drew [] w6163).trans k1
     have s1 := s6164.adoptL k0 hl_
     have m1 : Mv (b6156 :: []) w6163 B1_ w1 := Mv.adoptL k0 hl_
     obtain ⟨cs6231, e6233, hs6232⟩ : ∃ cs : List Value, F1 34 = .agg cs.toArray ∧ Enc.circle.rd w6163 ((b6156 :: []) ++ O) cs (c) := hd 0 34 (by kernel_rfl) (by kernel_rfl)
     have hs6232 : Enc.circle.rd w1 (B1_ ++ O) cs6231 (c) := Enc.mv Enc.circle (x := c) hs6232 m1
     obtain ⟨v6234, e6235, q6237⟩ : ∃ v, F1 44 = v ∧ (TOw w6163 w.heap.size O Enc.u8 5 ((l.drop (turn.toNat % l.length)) ++ (l.take (turn.toNat % l.length)))) (Bs_ 1) v w1 := ⟨_, rfl, hd 10 44 (by kernel_rfl) (by kernel_rfl)⟩
     have hl6236 := (TOw.rd q6237 (fun x hx => Nat.lt_of_lt_of_le (s6164.old x hx) s6164.keep.size)).mv (Mv.at_ (hr_ 1 (by kernel_rfl)))
     have := hl6236.len_le
     obtain ⟨F2, rfl⟩ := lit_of (F := F1) [(34, Value.agg cs6231.toArray), (35, vI no), (44, v6234)] ⟨e6233, hd 1 35 (by kernel_rfl) (by kernel_rfl), e6235, trivial⟩
     refine sp_plain rfl ((o_callK (vs := [Value.agg cs6231.toArray, vI no, v6234]) enter_27 (c_approveL (O := B1_ ++ O) cs6231 c no v6234 ((l.drop (turn.toNat % l.length)) ++ (l.take (turn.toNat % l.length))) w1 hs6232 hl6236 s1.lt) rfl s1 fun v6238 w6239 s6240 m6241 k6242 r6243 => (?_)))
     obtain ⟨cs6244, rfl, hs6245⟩ := r6243
     exact ⟨[], k6242, noC, ⟨cs6244, rfl, hs6245⟩⟩
    ·intro F1 w1 B1_ Bs_ k1 hs_ hl_ hr_ hsep_ hf hd
     have k0 := (Keep.drew [] w6163).trans k1
     have s1 := s6164.adoptL k0 hl_
     obtain ⟨F2, rfl⟩ := lit_of (F := F1) [] trivial
     refine sp_plain rfl ((o_alloc [vI (0 : Int), vI (0 : Int), vI (0 : Int), Value.slice none 0 0, Value.slice none 0 0] z_25 rfl s1 fun b6246 w6247 e6252 s6248 m6249 k6250 bx6251 => (?_)))
     have lo6253 : w6163.heap.size ≤ b6246 := by have := k0.size; omega
     exact ⟨[], k6250, noC, ⟨_, rfl, lo6253, (by intro h; have := lt_of s1 _ h; omega), bx6251⟩⟩
    intro F6255 w6256 Bs6261 k6254 hB6262 hl6263 sep6264 hT6257 hF6258
    obtain ⟨b6265, e6269, lo6266, hn6267, bx6270⟩ : (TBx w6163 25 [vI (0 : Int), vI (0 : Int), vI (0 : Int), Value.slice none 0 0, Value.slice none 0 0]) (Bs6261 2) (F6255 11) w6256 := hT6257 12 11 (by kernel_rfl) (by decide) (by kernel_rfl) (by kernel_rfl)
    have hi6268 := bx6270.lt
    have hl6271 : ∀ x ∈ (b6265 :: (b6156 :: [])), x ∈ (b6156 :: []) ∨ (w6163.heap.size ≤ x ∧ x < w6256.heap.size) := by
     intro x hx
     simp only [List.mem_cons] at hx
     rcases hx with rfl | hx
     ·exact .inr ⟨lo6266, hi6268⟩
     ·first | exact .inl hx | (exact .inl (by simp only [List.mem_cons]; exact hx))
    have hq6272 : ∀ x ∈ (b6265 :: (b6156 :: [])), x ∈ Bs6261 1 := by
     intro x hx
     simp only [List.mem_cons] at hx
     rcases hx with rfl | hx
     ·exact (sep6264 2 1 _ (by decide) lo6266 hi6268 hn6267)
     ·exact (hB6262 1 _ (by first | exact hx | (simp only [List.mem_cons]; exact hx)))
    have hq6273 : ∀ x ∈ (b6265 :: (b6156 :: [])), x = b6265 ∨ x ∈ Bs6261 2 := by
     intro x hx
     simp only [List.mem_cons] at hx
     rcases hx with rfl | hx
     ·exact .inl rfl
     ·exact .inr (hB6262 2 _ (by first | exact hx | (simp only [List.mem_cons]; exact hx)))
    have s6259 := s6164.adoptL k6254 hl6271
    have m6260 : Mv (b6156 :: []) w6163 (b6265 :: (b6156 :: [])) w6256 := Mv.adoptL k6254 hl6271
    have ne6274 : b6156 ≠ b6265 := by have := bx6167.lt; omega
    obtain ⟨cs6275, e6277, hs6276⟩ : ∃ cs : List Value, F6255 45 = .agg cs.toArray ∧ Enc.circle.rd w6256 ((Bs6261 1) ++ O) cs (apM c no ((l.drop (turn.toNat % l.length)) ++ (l.take (turn.toNat % l.length))) ((l.drop (turn.toNat % l.length)) ++ (l.take (turn.toNat % l.length))).length) := hT6257 11 45 (by kernel_rfl) (by decide) (by kernel_rfl) (by kernel_rfl)
    have hs6276 : Enc.circle.rd w6256 ((b6265 :: (b6156 :: [])) ++ O) cs6275 (apM c no ((l.drop (turn.toNat % l.length)) ++ (l.take (turn.toNat % l.length))) ((l.drop (turn.toNat % l.length)) ++ (l.take (turn.toNat % l.length))).length) := Enc.mv Enc.circle (x := apM c no ((l.drop (turn.toNat % l.length)) ++ (l.take (turn.toNat % l.length))) ((l.drop (turn.toNat % l.length)) ++ (l.take (turn.toNat % l.length))).length) hs6276 (Mv.at_ hq6272)
    have h_l := h_l.mv m6260
    have hd6169 := hd6169.mv m6260
    have hd6171 := hd6171.mv m6260
    have bx6167 := bx6167.keep k6254 (by simp)
    obtain ⟨F2, rfl⟩ := lit_of (F := F6255) [(1, vI no), (2, l_v), (10, Value.pointer (some ⟨b6156, 0, none⟩)), (57, undef), (11, Value.pointer (some ⟨b6265, 0, none⟩)), (45, Value.agg cs6275.toArray)] ⟨hF6258 1 (by kernel_rfl), hF6258 2 (by kernel_rfl), hF6258 10 (by kernel_rfl), hF6258 57 (by kernel_rfl), e6269, e6277, trivial⟩
    clear hT6257 hF6258 hB6262 hl6263 sep6264
    obtain ⟨d6283, d6285, rfl, hd6284, hd6286⟩ := hs6276
    have := hd6284.len_le
    have := hd6286.len_le
    refine wl_n (o_store (vs := [vI ((apM c no ((l.drop (turn.toNat % l.length)) ++ (l.take (turn.toNat % l.length))) ((l.drop (turn.toNat % l.length)) ++ (l.take (turn.toNat % l.length))).length).epoch), vI ((apM c no ((l.drop (turn.toNat % l.length)) ++ (l.take (turn.toNat % l.length))) ((l.drop (turn.toNat % l.length)) ++ (l.take (turn.toNat % l.length))).length).threshold), vI ((apM c no ((l.drop (turn.toNat % l.length)) ++ (l.take (turn.toNat % l.length))) ((l.drop (turn.toNat % l.length)) ++ (l.take (turn.toNat % l.length))).length).wait), d6283, d6285]) (.agg #[vI ((apM c no ((l.drop (turn.toNat % l.length)) ++ (l.take (turn.toNat % l.length))) ((l.drop (turn.toNat % l.length)) ++ (l.take (turn.toNat % l.length))).length).epoch), vI ((apM c no ((l.drop (turn.toNat % l.length)) ++ (l.take (turn.toNat % l.length))) ((l.drop (turn.toNat % l.length)) ++ (l.take (turn.toNat % l.length))).length).threshold), vI ((apM c no ((l.drop (turn.toNat % l.length)) ++ (l.take (turn.toNat % l.length))) ((l.drop (turn.toNat % l.length)) ++ (l.take (turn.toNat % l.length))).length).wait), d6283, d6285]) rfl rfl rfl s_25 (fun u hu => by simp only [List.mem_cons, List.not_mem_nil, or_false] at hu; rcases hu with rfl | rfl | rfl | rfl | rfl <;> first | rfl | exact hd6284.oneCell | exact hd6286.oneCell) (by repeat (first | assumption | constructor)) bx6270 (of_decide_eq_true rfl) s6259 fun w6278 s6279 m6280 k6281 bx6282 => (?_))
    have h_l := h_l.mv m6280
    have hd6284 := hd6284.mv m6280
    have hd6286 := hd6286.mv m6280
    have hd6169 := hd6169.mv m6280
    have hd6171 := hd6171.mv m6280
    have bx6167 := bx6167.keep k6281 (nin1 ne6274)
    refine wl_nil (thenQ_n (?_))
    refine cw_seq (?_)
    have hb6287 : (sameC (apM c no l l.length) (apM c no ((l.drop (turn.toNat % l.length)) ++ (l.take (turn.toNat % l.length))) ((l.drop (turn.toNat % l.length)) ++ (l.take (turn.toNat % l.length))).length)) = true := (by rw [ap_turn]; exact sameC_refl _)
    try rw [hb6287]
    refine cw_draw' 9 _ _ [isV (Value.agg #[vI ((apM c no l l.length).epoch), vI ((apM c no l l.length).threshold), vI ((apM c no l l.length).wait), d6168, d6170]), isV (Value.agg #[vI ((apM c no ((l.drop (turn.toNat % l.length)) ++ (l.take (turn.toNat % l.length))) ((l.drop (turn.toNat % l.length)) ++ (l.take (turn.toNat % l.length))).length).epoch), vI ((apM c no ((l.drop (turn.toNat % l.length)) ++ (l.take (turn.toNat % l.length))) ((l.drop (turn.toNat % l.length)) ++ (l.take (turn.toNat % l.length))).length).threshold), vI ((apM c no ((l.drop (turn.toNat % l.length)) ++ (l.take (turn.toNat % l.length))) ((l.drop (turn.toNat % l.length)) ++ (l.take (turn.toNat % l.length))).length).wait), d6283, d6285]), isV (Value.bool true), isV (Value.bool true), isV (Value.agg #[vI ((apM c no l l.length).epoch), vI ((apM c no l l.length).threshold), vI ((apM c no l l.length).wait), d6168, d6170]), isV (vI no), fun (vT : Value) (wT : World) => RdL Enc.u8 wT ((b6265 :: (b6156 :: [])) ++ O) vT (l), fun (vT : Value) (wT : World) => ∃ csT : List Value, vT = .agg csT.toArray ∧ Enc.circle.rd wT ((b6265 :: (b6156 :: [])) ++ O) csT (apM (apM c no l l.length) no l l.length), isV (Value.agg #[vI ((apM c no l l.length).epoch), vI ((apM c no l l.length).threshold), vI ((apM c no l l.length).wait), d6168, d6170])] (by kernel_rfl) (by kernel_rfl) (by kernel_rfl) (by kernel_rfl) rfl rfl ⟨kI, kI, kI, kI, kI, kI, fun _ _ _ h k => h.mv (Mv.of_keep k), fun _ _ _ ⟨a, e, h⟩ k => ⟨a, e, Enc.mv _ h (Mv.of_keep k)⟩, kI, trivial⟩ ⟨?_, ?_, ?_, ?_, ?_, ?_, ?_, ?_, ?_, trivial⟩ ?_
    ·intro F1 w1 k1 hf hd
     have k0 := (Keep.drew [] w6278).trans k1
     have bx6167 := bx6167.keep k0 (by simp)
     obtain ⟨F2, rfl⟩ := lit_of (F := F1) [(10, Value.pointer (some ⟨b6156, 0, none⟩))] ⟨hf 10 (by kernel_rfl), trivial⟩
     exact sp_plain rfl ((o_loadBxA (vs := [vI ((apM c no l l.length).epoch), vI ((apM c no l l.length).threshold), vI ((apM c no l l.length).wait), d6168, d6170]) Try.underlying25 rfl s_25 rfl bx6167 rfl (⟨(Keep.refl _ _), rfl⟩)))
    ·intro F1 w1 k1 hf hd
     have k0 := (Keep.drew [] w6278).trans k1
     have bx6282 := bx6282.keep k0 (by simp)
     obtain ⟨F2, rfl⟩ := lit_of (F := F1) [(11, Value.pointer (some ⟨b6265, 0, none⟩))] ⟨hf 11 (by kernel_rfl), trivial⟩
     exact sp_plain rfl ((o_loadBxA (vs := [vI ((apM c no ((l.drop (turn.toNat % l.length)) ++ (l.take (turn.toNat % l.length))) ((l.drop (turn.toNat % l.length)) ++ (l.take (turn.toNat % l.length))).length).epoch), vI ((apM c no ((l.drop (turn.toNat % l.length)) ++ (l.take (turn.toNat % l.length))) ((l.drop (turn.toNat % l.length)) ++ (l.take (turn.toNat % l.length))).length).threshold), vI ((apM c no ((l.drop (turn.toNat % l.length)) ++ (l.take (turn.toNat % l.length))) ((l.drop (turn.toNat % l.length)) ++ (l.take (turn.toNat % l.length))).length).wait), d6283, d6285]) Try.underlying25 rfl s_25 rfl bx6282 rfl (⟨(Keep.refl _ _), rfl⟩)))
    ·intro F1 w1 k1 hf hd
     have k0 := (Keep.drew [] w6278).trans k1
     have s1 := s6279.call k0
     have m1 : Mv (b6265 :: (b6156 :: [])) w6278 (b6265 :: (b6156 :: [])) w1 := Mv.of_keep k0
     have hd6169 := hd6169.mv m1
     have hd6171 := hd6171.mv m1
     have hd6284 := hd6284.mv m1
     have hd6286 := hd6286.mv m1
     obtain ⟨F2, rfl⟩ := lit_of (F := F1) [(46, Value.agg #[vI ((apM c no l l.length).epoch), vI ((apM c no l l.length).threshold), vI ((apM c no l l.length).wait), d6168, d6170]), (47, Value.agg #[vI ((apM c no ((l.drop (turn.toNat % l.length)) ++ (l.take (turn.toNat % l.length))) ((l.drop (turn.toNat % l.length)) ++ (l.take (turn.toNat % l.length))).length).epoch), vI ((apM c no ((l.drop (turn.toNat % l.length)) ++ (l.take (turn.toNat % l.length))) ((l.drop (turn.toNat % l.length)) ++ (l.take (turn.toNat % l.length))).length).threshold), vI ((apM c no ((l.drop (turn.toNat % l.length)) ++ (l.take (turn.toNat % l.length))) ((l.drop (turn.toNat % l.length)) ++ (l.take (turn.toNat % l.length))).length).wait), d6283, d6285])] ⟨hd 0 46 (by kernel_rfl), hd 1 47 (by kernel_rfl), trivial⟩
     refine sp_plain rfl ((o_callK (vs := [Value.agg #[vI ((apM c no l l.length).epoch), vI ((apM c no l l.length).threshold), vI ((apM c no l l.length).wait), d6168, d6170], Value.agg #[vI ((apM c no ((l.drop (turn.toNat % l.length)) ++ (l.take (turn.toNat % l.length))) ((l.drop (turn.toNat % l.length)) ++ (l.take (turn.toNat % l.length))).length).epoch), vI ((apM c no ((l.drop (turn.toNat % l.length)) ++ (l.take (turn.toNat % l.length))) ((l.drop (turn.toNat % l.length)) ++ (l.take (turn.toNat % l.length))).length).threshold), vI ((apM c no ((l.drop (turn.toNat % l.length)) ++ (l.take (turn.toNat % l.length))) ((l.drop (turn.toNat % l.length)) ++ (l.take (turn.toNat % l.length))).length).wait), d6283, d6285]]) enter_15 (c_sameC (O := (b6265 :: (b6156 :: [])) ++ O) [vI ((apM c no l l.length).epoch), vI ((apM c no l l.length).threshold), vI ((apM c no l l.length).wait), d6168, d6170] (apM c no l l.length) [vI ((apM c no ((l.drop (turn.toNat % l.length)) ++ (l.take (turn.toNat % l.length))) ((l.drop (turn.toNat % l.length)) ++ (l.take (turn.toNat % l.length))).length).epoch), vI ((apM c no ((l.drop (turn.toNat % l.length)) ++ (l.take (turn.toNat % l.length))) ((l.drop (turn.toNat % l.length)) ++ (l.take (turn.toNat % l.length))).length).threshold), vI ((apM c no ((l.drop (turn.toNat % l.length)) ++ (l.take (turn.toNat % l.length))) ((l.drop (turn.toNat % l.length)) ++ (l.take (turn.toNat % l.length))).length).wait), d6283, d6285] (apM c no ((l.drop (turn.toNat % l.length)) ++ (l.take (turn.toNat % l.length))) ((l.drop (turn.toNat % l.length)) ++ (l.take (turn.toNat % l.length))).length) w1 ⟨_, _, rfl, hd6169, hd6171⟩ ⟨_, _, rfl, hd6284, hd6286⟩ s1.lt) rfl s1 fun v6288 w6289 s6290 m6291 k6292 r6293 => (?_)))
     obtain rfl := r6293
     exact ⟨k6292, congrArg Value.bool (hb6287)⟩
    ·intro F1 w1 k1 hf hd
     obtain ⟨F2, rfl⟩ := lit_of (F := F1) [(48, Value.bool true)] ⟨hd 2 48 (by kernel_rfl), trivial⟩
     exact sp_plain rfl ((o_move (Value.bool true) rfl (⟨(Keep.refl _ _), rfl⟩)))
    ·intro F1 w1 k1 hf hd
     have k0 := (Keep.drew [] w6278).trans k1
     have bx6167 := bx6167.keep k0 (by simp)
     obtain ⟨F2, rfl⟩ := lit_of (F := F1) [(10, Value.pointer (some ⟨b6156, 0, none⟩)), (49, Value.bool true)] ⟨hf 10 (by kernel_rfl), hd 3 49 (by kernel_rfl), trivial⟩
     exact sp_take rfl rfl ((o_loadBxA (vs := [vI ((apM c no l l.length).epoch), vI ((apM c no l l.length).threshold), vI ((apM c no l l.length).wait), d6168, d6170]) Try.underlying25 rfl s_25 rfl bx6167 rfl (⟨(Keep.refl _ _), rfl⟩)))
    ·intro F1 w1 k1 hf hd
     obtain ⟨F2, rfl⟩ := lit_of (F := F1) [(1, vI no), (49, Value.bool true)] ⟨hf 1 (by kernel_rfl), hd 3 49 (by kernel_rfl), trivial⟩
     exact sp_take rfl rfl ((o_move (vI no) rfl (⟨(Keep.refl _ _), rfl⟩)))
    ·intro F1 w1 k1 hf hd
     have k0 := (Keep.drew [] w6278).trans k1
     have m1 : Mv (b6265 :: (b6156 :: [])) w6278 (b6265 :: (b6156 :: [])) w1 := Mv.of_keep k0
     have h_l := h_l.mv m1
     obtain ⟨F2, rfl⟩ := lit_of (F := F1) [(2, l_v), (49, Value.bool true)] ⟨hf 2 (by kernel_rfl), hd 3 49 (by kernel_rfl), trivial⟩
     exact sp_take rfl rfl ((o_move (l_v) rfl (⟨(Keep.refl _ _), h_l⟩)))
    ·intro F1 w1 k1 hf hd
     have k0 := (Keep.drew [] w6278).trans k1
     have s1 := s6279.call k0
     have m1 : Mv (b6265 :: (b6156 :: [])) w6278 (b6265 :: (b6156 :: [])) w1 := Mv.of_keep k0
     have hd6169 := hd6169.mv m1
     have hd6171 := hd6171.mv m1
     obtain ⟨v6294, e6296, hl6295⟩ : ∃ v, F1 52 = v ∧ RdL Enc.u8 w1 ((b6265 :: (b6156 :: [])) ++ O) v (l) := ⟨_, rfl, hd 6 52 (by kernel_rfl)⟩
     have := hl6295.len_le
     obtain ⟨F2, rfl⟩ := lit_of (F := F1) [(49, Value.bool true), (50, Value.agg #[vI ((apM c no l l.length).epoch), vI ((apM c no l l.length).threshold), vI ((apM c no l l.length).wait), d6168, d6170]), (51, vI no), (52, v6294)] ⟨hd 3 49 (by kernel_rfl), hd 4 50 (by kernel_rfl), hd 5 51 (by kernel_rfl), e6296, trivial⟩
     refine sp_take rfl rfl ((o_callK (vs := [Value.agg #[vI ((apM c no l l.length).epoch), vI ((apM c no l l.length).threshold), vI ((apM c no l l.length).wait), d6168, d6170], vI no, v6294]) enter_27 (c_approveL (O := (b6265 :: (b6156 :: [])) ++ O) [vI ((apM c no l l.length).epoch), vI ((apM c no l l.length).threshold), vI ((apM c no l l.length).wait), d6168, d6170] (apM c no l l.length) no v6294 l w1 ⟨_, _, rfl, hd6169, hd6171⟩ hl6295 s1.lt) rfl s1 fun v6297 w6298 s6299 m6300 k6301 r6302 => (?_)))
     obtain ⟨cs6303, rfl, hs6304⟩ := r6302
     exact ⟨k6301, ⟨cs6303, rfl, hs6304⟩⟩
    ·intro F1 w1 k1 hf hd
     have k0 := (Keep.drew [] w6278).trans k1
     have bx6167 := bx6167.keep k0 (by simp)
     obtain ⟨F2, rfl⟩ := lit_of (F := F1) [(10, Value.pointer (some ⟨b6156, 0, none⟩)), (49, Value.bool true)] ⟨hf 10 (by kernel_rfl), hd 3 49 (by kernel_rfl), trivial⟩
     exact sp_take rfl rfl ((o_loadBxA (vs := [vI ((apM c no l l.length).epoch), vI ((apM c no l l.length).threshold), vI ((apM c no l l.length).wait), d6168, d6170]) Try.underlying25 rfl s_25 rfl bx6167 rfl (⟨(Keep.refl _ _), rfl⟩)))
    intro F6306 w6307 k6305 hT6308 hF6309
    have s6310 := s6279.call k6305
    have m6311 : Mv (b6265 :: (b6156 :: [])) w6278 (b6265 :: (b6156 :: [])) w6307 := Mv.of_keep k6305
    have hd6169 := hd6169.mv m6311
    have hd6171 := hd6171.mv m6311
    obtain ⟨cs6314, e6316, hs6315⟩ : ∃ cs : List Value, F6306 53 = .agg cs.toArray ∧ Enc.circle.rd w6307 ((b6265 :: (b6156 :: [])) ++ O) cs (apM (apM c no l l.length) no l l.length) := hT6308 7 53 (by kernel_rfl) (by decide)
    obtain ⟨F2, rfl⟩ := lit_of (F := F6306) [(57, undef), (49, Value.bool true), (53, Value.agg cs6314.toArray), (54, Value.agg #[vI ((apM c no l l.length).epoch), vI ((apM c no l l.length).threshold), vI ((apM c no l l.length).wait), d6168, d6170])] ⟨hF6309 57 (by kernel_rfl), hT6308 3 49 (by kernel_rfl) (by decide), e6316, hT6308 8 54 (by kernel_rfl) (by decide), trivial⟩
    clear hT6308 hF6309
    refine wl_t rfl (o_callK (vs := [Value.agg cs6314.toArray, Value.agg #[vI ((apM c no l l.length).epoch), vI ((apM c no l l.length).threshold), vI ((apM c no l l.length).wait), d6168, d6170]]) enter_15 (c_sameC (O := (b6265 :: (b6156 :: [])) ++ O) cs6314 (apM (apM c no l l.length) no l l.length) [vI ((apM c no l l.length).epoch), vI ((apM c no l l.length).threshold), vI ((apM c no l l.length).wait), d6168, d6170] (apM c no l l.length) w6307 hs6315 ⟨_, _, rfl, hd6169, hd6171⟩ s6310.lt) rfl s6310 fun v6317 w6318 s6319 m6320 k6321 r6322 => (?_))
    obtain rfl := r6322
    refine wl_s (o_pickT (Value.bool (sameC (apM (apM c no l l.length) no l l.length) (apM c no l l.length))) rfl rfl (wl_s (o_assign (Value.bool (sameC (apM (apM c no l l.length) no l l.length) (apM c no l l.length))) rfl (wl_nil (thenQ_n (?_))))))
    refine cw_ret (end_r rfl (res1 rfl rfl rfl) (?_))
    have e : true = (sameC (apM (apM c no l l.length) no l l.length) (apM c no l l.length)) := by first | rfl | (rw [ap_again]; exact (sameC_refl _).symm)
    exact ⟨_, rfl, s6319.keep, by rw [e]; exact rfl⟩
   ·have hp6323 : (l.length : Int) ≤ (0 : Int) := by first | simpa using hc6144 | (have e := hc6144; simp at e; omega)
    refine cw_skip (thenQ_n (?_))
    refine cw_seq (?_)
    refine cw_region (by kernel_rfl) (wl_s (o_loadS Try.underlying25 rfl s_25 rfl hp6124 fun cs6324 hs6325 => (wl_s (o_move (vI no) rfl (wl_s (o_move (l_v) rfl (wl_s (o_callK (vs := [Value.agg cs6324.toArray, vI no, l_v]) enter_27 (c_approveL (O := [] ++ O) cs6324 c no l_v l w6134 hs6325 h_l s6135.lt) rfl s6135 fun v6326 w6327 s6328 m6329 k6330 r6331 => (?_)))))))))
    obtain ⟨cs6332, rfl, hs6333⟩ := r6331
    have h_l := h_l.mv m6329
    have hp6124 := hp6124.mv m6329
    refine wl_s (o_alloc [vI (0 : Int), vI (0 : Int), vI (0 : Int), Value.slice none 0 0, Value.slice none 0 0] z_25 rfl s6328 fun b6334 w6335 e6340 s6336 m6337 k6338 bx6339 => (?_))
    clear e6340
    have h_l := h_l.mv m6337
    have hp6124 := hp6124.mv m6337
    have hs6333 : Enc.circle.rd w6335 ((b6334 :: []) ++ O) cs6332 (apM c no l l.length) := Enc.mv Enc.circle (x := apM c no l l.length) hs6333 m6337
    obtain ⟨d6346, d6348, rfl, hd6347, hd6349⟩ := hs6333
    have := hd6347.len_le
    have := hd6349.len_le
    refine wl_n (o_store (vs := [vI ((apM c no l l.length).epoch), vI ((apM c no l l.length).threshold), vI ((apM c no l l.length).wait), d6346, d6348]) (.agg #[vI ((apM c no l l.length).epoch), vI ((apM c no l l.length).threshold), vI ((apM c no l l.length).wait), d6346, d6348]) rfl rfl rfl s_25 (fun u hu => by simp only [List.mem_cons, List.not_mem_nil, or_false] at hu; rcases hu with rfl | rfl | rfl | rfl | rfl <;> first | rfl | exact hd6347.oneCell | exact hd6349.oneCell) (by repeat (first | assumption | constructor)) bx6339 (of_decide_eq_true rfl) s6336 fun w6341 s6342 m6343 k6344 bx6345 => (?_))
    have h_l := h_l.mv m6343
    have hp6124 := hp6124.mv m6343
    have hd6347 := hd6347.mv m6343
    have hd6349 := hd6349.mv m6343
    refine wl_nil (thenQ_n (?_))
    refine cw_seq (?_)
    refine cw_drawU 13 _ _ [fun _ => fun (vT : Value) (_ : World) => ∃ csT : List Value, vT = .agg csT.toArray ∧ Enc.circle.rd w6341 ((b6334 :: []) ++ O) csT (c), fun _ => isV (vI no), fun _ => fun (vT : Value) (_ : World) => ∃ aT : Addr, vT = .slice (some aT) 0 0, fun _ => fun (vT : Value) (_ : World) => RdL Enc.u8 w6341 ((b6334 :: []) ++ O) vT (l), fun _ => isV (vI (0 : Int)), fun _ => fun (vT : Value) (_ : World) => RdL Enc.u8 w6341 ((b6334 :: []) ++ O) vT ((l.drop 0)), fun _ => fun (vT : Value) (_ : World) => ∃ aT : Addr, vT = .slice (some aT) 0 0, fun _ => fun (vT : Value) (_ : World) => RdL Enc.u8 w6341 ((b6334 :: []) ++ O) vT (l), fun _ => isV (vI (0 : Int)), fun _ => fun (vT : Value) (_ : World) => RdL Enc.u8 w6341 ((b6334 :: []) ++ O) vT ((l.take 0)), fun _ => fun (vT : Value) (_ : World) => ∃ aT : Addr, vT = .slice (some aT) 0 0, fun (BT : List Nat) (vT : Value) (wT : World) => ∃ csT : List Value, vT = .agg csT.toArray ∧ Enc.circle.rd wT (BT ++ O) csT (apM c no ([] : List UInt8) ([] : List UInt8).length), TBx w6341 25 [vI (0 : Int), vI (0 : Int), vI (0 : Int), Value.slice none 0 0, Value.slice none 0 0]] [⟨0, [], [], [], false, []⟩, ⟨0, [], [], [], false, []⟩, ⟨0, [], [], [], false, []⟩, ⟨0, [], [], [], false, []⟩, ⟨0, [], [], [], false, []⟩, ⟨0, [], [], [], false, [3, 4]⟩, ⟨0, [], [], [], false, [2, 5]⟩, ⟨0, [], [], [], false, []⟩, ⟨0, [], [], [], false, []⟩, ⟨0, [], [], [], false, [7, 8]⟩, ⟨0, [], [], [], false, [6, 9]⟩, ⟨1, [], [], [], false, [0, 1, 10]⟩, ⟨2, [], [], [], false, []⟩] (b6334 :: []) (by kernel_rfl) (by kernel_rfl) (by kernel_rfl) (by kernel_rfl) (by kernel_rfl) rfl rfl ⟨fun _ _ _ _ _ h => h, fun _ _ _ _ _ h => h, fun _ _ _ _ _ h => h, fun _ _ _ _ _ h => h, fun _ _ _ _ _ h => h, fun _ _ _ _ _ h => h, fun _ _ _ _ _ h => h, fun _ _ _ _ _ h => h, fun _ _ _ _ _ h => h, fun _ _ _ _ _ h => h, fun _ _ _ _ _ h => h, (show ∀ B B2 v w w2, (fun (BT : List Nat) (vT : Value) (wT : World) => ∃ csT : List Value, vT = .agg csT.toArray ∧ Enc.circle.rd wT (BT ++ O) csT (apM c no ([] : List UInt8) ([] : List UInt8).length)) B v w → Mv B w B2 w2 → (fun (BT : List Nat) (vT : Value) (wT : World) => ∃ csT : List Value, vT = .agg csT.toArray ∧ Enc.circle.rd wT (BT ++ O) csT (apM c no ([] : List UInt8) ([] : List UInt8).length)) B2 v w2 from fun _ _ _ _ _ ⟨a, e, h⟩ m => ⟨a, e, Enc.mv _ h m⟩), TBx.st, trivial⟩ ⟨?_, ?_, ?_, ?_, ?_, ?_, ?_, ?_, ?_, ?_, ?_, ?_, ?_, trivial⟩ ?_
    ·intro F1 w1 B1_ Bs_ k1 hs_ hl_ hr_ hsep_ hf hd
     have k0 := (Keep.drew [] w6341).trans k1
     obtain ⟨F2, rfl⟩ := lit_of (F := F1) [(4, Value.pointer (some a6119))] ⟨hf 4 (by kernel_rfl), trivial⟩
     exact sp_plain rfl ((o_loadSU Try.underlying25 rfl s_25 rfl hp6124 k0 fun cs6350 hs6351 => (⟨[], (Keep.refl _ _), noC, ⟨cs6350, rfl, hs6351⟩⟩)))
    ·intro F1 w1 B1_ Bs_ k1 hs_ hl_ hr_ hsep_ hf hd
     obtain ⟨F2, rfl⟩ := lit_of (F := F1) [(1, vI no)] ⟨hf 1 (by kernel_rfl), trivial⟩
     exact sp_plain rfl ((o_move (vI no) rfl (⟨[], (Keep.refl _ _), noC, rfl⟩)))
    ·intro F1 w1 B1_ Bs_ k1 hs_ hl_ hr_ hsep_ hf hd
     obtain ⟨F2, rfl⟩ := lit_of (F := F1) [] trivial
     refine sp_plain rfl ((o_emp Enc.u8 Try.underlying50 s_5 z_5 (by decide) rfl rfl fun a6358 w6352 k6355 => (?_)))
     exact ⟨[], k6355, noC, ⟨_, rfl⟩⟩
    ·intro F1 w1 B1_ Bs_ k1 hs_ hl_ hr_ hsep_ hf hd
     obtain ⟨F2, rfl⟩ := lit_of (F := F1) [(2, l_v)] ⟨hf 2 (by kernel_rfl), trivial⟩
     exact sp_plain rfl ((o_move (l_v) rfl (⟨[], (Keep.refl _ _), noC, h_l⟩)))
    ·intro F1 w1 B1_ Bs_ k1 hs_ hl_ hr_ hsep_ hf hd
     obtain ⟨F2, rfl⟩ := lit_of (F := F1) [(9, vI (0 : Int))] ⟨hf 9 (by kernel_rfl), trivial⟩
     exact sp_plain rfl ((o_move (vI (0 : Int)) rfl (⟨[], (Keep.refl _ _), noC, rfl⟩)))
    ·intro F1 w1 B1_ Bs_ k1 hs_ hl_ hr_ hsep_ hf hd
     obtain ⟨v6359, e6361, hl6360⟩ : ∃ v, F1 37 = v ∧ RdL Enc.u8 w6341 ((b6334 :: []) ++ O) v (l) := ⟨_, rfl, hd 3 37 (by kernel_rfl) (by kernel_rfl)⟩
     have := hl6360.len_le
     obtain ⟨F2, rfl⟩ := lit_of (F := F1) [(37, v6359), (38, vI (0 : Int))] ⟨e6361, hd 4 38 (by kernel_rfl) (by kernel_rfl), trivial⟩
     refine sp_plain rfl ((o_sliceRU Try.underlying50 s_5 0 l.length rfl (.inr ⟨.tmp 38, .i64, (0 : Int), rfl, rfl, rfl⟩) (.inl ⟨rfl, rfl⟩) (by omega) (by omega) hl6360 fun v6362 hl6363 => (?_)))
     rw [List.take_length] at hl6363
     exact ⟨[], (Keep.refl _ _), noC, hl6363⟩
    ·intro F1 w1 B1_ Bs_ k1 hs_ hl_ hr_ hsep_ hf hd
     have k0 := (Keep.drew [] w6341).trans k1
     have m1 : Mv (b6334 :: []) w6341 B1_ w1 := Mv.adoptL k0 hl_
     obtain ⟨a6364, e6365⟩ : ∃ A : Addr, F1 36 = .slice (some A) 0 0 := hd 2 36 (by kernel_rfl) (by kernel_rfl)
     obtain ⟨v6366, e6368, hl6367⟩ : ∃ v, F1 39 = v ∧ RdL Enc.u8 w6341 ((b6334 :: []) ++ O) v ((l.drop 0)) := ⟨_, rfl, hd 5 39 (by kernel_rfl) (by kernel_rfl)⟩
     have := hl6367.len_le
     have hl6367 := hl6367.mv m1
     obtain ⟨F2, rfl⟩ := lit_of (F := F1) [(36, Value.slice (some a6364) 0 0), (39, v6366)] ⟨e6365, e6368, trivial⟩
     refine sp_plain rfl (?_)
     have hl6369 : RdL Enc.u8 w1 (B1_ ++ O) v6366 [] := by have := hl6367; rwa [show (l.drop 0) = [] from (List.eq_nil_of_length_eq_zero (by first | (rw [List.length_drop]; omega) | (rw [List.length_take]; omega)))] at this
     exact (o_appendEmp0 (E := Enc.u8) a6364 Try.underlying50 s_5 rfl rfl hl6369 (⟨[], (Keep.refl _ _), noC, ⟨_, rfl⟩⟩))
    ·intro F1 w1 B1_ Bs_ k1 hs_ hl_ hr_ hsep_ hf hd
     obtain ⟨F2, rfl⟩ := lit_of (F := F1) [(2, l_v)] ⟨hf 2 (by kernel_rfl), trivial⟩
     exact sp_plain rfl ((o_move (l_v) rfl (⟨[], (Keep.refl _ _), noC, h_l⟩)))
    ·intro F1 w1 B1_ Bs_ k1 hs_ hl_ hr_ hsep_ hf hd
     obtain ⟨F2, rfl⟩ := lit_of (F := F1) [(9, vI (0 : Int))] ⟨hf 9 (by kernel_rfl), trivial⟩
     exact sp_plain rfl ((o_move (vI (0 : Int)) rfl (⟨[], (Keep.refl _ _), noC, rfl⟩)))
    ·intro F1 w1 B1_ Bs_ k1 hs_ hl_ hr_ hsep_ hf hd
     obtain ⟨v6370, e6372, hl6371⟩ : ∃ v, F1 41 = v ∧ RdL Enc.u8 w6341 ((b6334 :: []) ++ O) v (l) := ⟨_, rfl, hd 7 41 (by kernel_rfl) (by kernel_rfl)⟩
     have := hl6371.len_le
     obtain ⟨F2, rfl⟩ := lit_of (F := F1) [(41, v6370), (42, vI (0 : Int))] ⟨e6372, hd 8 42 (by kernel_rfl) (by kernel_rfl), trivial⟩
     refine sp_plain rfl ((o_sliceRU Try.underlying50 s_5 0 0 rfl (.inl ⟨rfl, rfl⟩) (.inr ⟨.tmp 42, .i64, (0 : Int), rfl, rfl, rfl⟩) (by omega) (by omega) hl6371 fun v6373 hl6374 => (?_)))
     rw [List.drop_zero] at hl6374
     exact ⟨[], (Keep.refl _ _), noC, hl6374⟩
    ·intro F1 w1 B1_ Bs_ k1 hs_ hl_ hr_ hsep_ hf hd
     have k0 := (Keep.drew [] w6341).trans k1
     have m1 : Mv (b6334 :: []) w6341 B1_ w1 := Mv.adoptL k0 hl_
     obtain ⟨a6375, e6376⟩ : ∃ A : Addr, F1 40 = .slice (some A) 0 0 := hd 6 40 (by kernel_rfl) (by kernel_rfl)
     obtain ⟨v6377, e6379, hl6378⟩ : ∃ v, F1 43 = v ∧ RdL Enc.u8 w6341 ((b6334 :: []) ++ O) v ((l.take 0)) := ⟨_, rfl, hd 9 43 (by kernel_rfl) (by kernel_rfl)⟩
     have := hl6378.len_le
     have hl6378 := hl6378.mv m1
     obtain ⟨F2, rfl⟩ := lit_of (F := F1) [(40, Value.slice (some a6375) 0 0), (43, v6377)] ⟨e6376, e6379, trivial⟩
     refine sp_plain rfl (?_)
     have hl6380 : RdL Enc.u8 w1 (B1_ ++ O) v6377 [] := by have := hl6378; rwa [show (l.take 0) = [] from (List.eq_nil_of_length_eq_zero (by first | (rw [List.length_drop]; omega) | (rw [List.length_take]; omega)))] at this
     exact (o_appendEmp0 (E := Enc.u8) a6375 Try.underlying50 s_5 rfl rfl hl6380 (⟨[], (Keep.refl _ _), noC, ⟨_, rfl⟩⟩))
    ·intro F1 w1 B1_ Bs_ k1 hs_ hl_ hr_ hsep_ hf hd
     have k0 := (Keep.drew [] w6341).trans k1
     have s1 := s6342.adoptL k0 hl_
     have m1 : Mv (b6334 :: []) w6341 B1_ w1 := Mv.adoptL k0 hl_
     obtain ⟨cs6381, e6383, hs6382⟩ : ∃ cs : List Value, F1 34 = .agg cs.toArray ∧ Enc.circle.rd w6341 ((b6334 :: []) ++ O) cs (c) := hd 0 34 (by kernel_rfl) (by kernel_rfl)
     have hs6382 : Enc.circle.rd w1 (B1_ ++ O) cs6381 (c) := Enc.mv Enc.circle (x := c) hs6382 m1
     obtain ⟨a6384, e6385⟩ : ∃ A : Addr, F1 44 = .slice (some A) 0 0 := hd 10 44 (by kernel_rfl) (by kernel_rfl)
     obtain ⟨F2, rfl⟩ := lit_of (F := F1) [(34, Value.agg cs6381.toArray), (35, vI no), (44, Value.slice (some a6384) 0 0)] ⟨e6383, hd 1 35 (by kernel_rfl) (by kernel_rfl), e6385, trivial⟩
     refine sp_plain rfl ((o_callK (vs := [Value.agg cs6381.toArray, vI no, (Value.slice (some a6384) 0 0)]) enter_27 (c_approveL (O := B1_ ++ O) cs6381 c no (Value.slice (some a6384) 0 0) ([] : List UInt8) w1 hs6382 (RdL.emp _ _ _ _) s1.lt) rfl s1 fun v6386 w6387 s6388 m6389 k6390 r6391 => (?_)))
     obtain ⟨cs6392, rfl, hs6393⟩ := r6391
     exact ⟨[], k6390, noC, ⟨cs6392, rfl, hs6393⟩⟩
    ·intro F1 w1 B1_ Bs_ k1 hs_ hl_ hr_ hsep_ hf hd
     have k0 := (Keep.drew [] w6341).trans k1
     have s1 := s6342.adoptL k0 hl_
     obtain ⟨F2, rfl⟩ := lit_of (F := F1) [] trivial
     refine sp_plain rfl ((o_alloc [vI (0 : Int), vI (0 : Int), vI (0 : Int), Value.slice none 0 0, Value.slice none 0 0] z_25 rfl s1 fun b6394 w6395 e6400 s6396 m6397 k6398 bx6399 => (?_)))
     have lo6401 : w6341.heap.size ≤ b6394 := by have := k0.size; omega
     exact ⟨[], k6398, noC, ⟨_, rfl, lo6401, (by intro h; have := lt_of s1 _ h; omega), bx6399⟩⟩
    intro F6403 w6404 Bs6409 k6402 hB6410 hl6411 sep6412 hT6405 hF6406
    obtain ⟨b6413, e6417, lo6414, hn6415, bx6418⟩ : (TBx w6341 25 [vI (0 : Int), vI (0 : Int), vI (0 : Int), Value.slice none 0 0, Value.slice none 0 0]) (Bs6409 2) (F6403 11) w6404 := hT6405 12 11 (by kernel_rfl) (by decide) (by kernel_rfl) (by kernel_rfl)
    have hi6416 := bx6418.lt
    have hl6419 : ∀ x ∈ (b6413 :: (b6334 :: [])), x ∈ (b6334 :: []) ∨ (w6341.heap.size ≤ x ∧ x < w6404.heap.size) := by
     intro x hx
     simp only [List.mem_cons] at hx
     rcases hx with rfl | hx
     ·exact .inr ⟨lo6414, hi6416⟩
     ·first | exact .inl hx | (exact .inl (by simp only [List.mem_cons]; exact hx))
    have hq6420 : ∀ x ∈ (b6413 :: (b6334 :: [])), x ∈ Bs6409 1 := by
     intro x hx
     simp only [List.mem_cons] at hx
     rcases hx with rfl | hx
     ·exact (sep6412 2 1 _ (by decide) lo6414 hi6416 hn6415)
     ·exact (hB6410 1 _ (by first | exact hx | (simp only [List.mem_cons]; exact hx)))
    have hq6421 : ∀ x ∈ (b6413 :: (b6334 :: [])), x = b6413 ∨ x ∈ Bs6409 2 := by
     intro x hx
     simp only [List.mem_cons] at hx
     rcases hx with rfl | hx
     ·exact .inl rfl
     ·exact .inr (hB6410 2 _ (by first | exact hx | (simp only [List.mem_cons]; exact hx)))
    have s6407 := s6342.adoptL k6402 hl6419
    have m6408 : Mv (b6334 :: []) w6341 (b6413 :: (b6334 :: [])) w6404 := Mv.adoptL k6402 hl6419
    have ne6422 : b6334 ≠ b6413 := by have := bx6345.lt; omega
    obtain ⟨cs6423, e6425, hs6424⟩ : ∃ cs : List Value, F6403 45 = .agg cs.toArray ∧ Enc.circle.rd w6404 ((Bs6409 1) ++ O) cs (apM c no ([] : List UInt8) ([] : List UInt8).length) := hT6405 11 45 (by kernel_rfl) (by decide) (by kernel_rfl) (by kernel_rfl)
    have hs6424 : Enc.circle.rd w6404 ((b6413 :: (b6334 :: [])) ++ O) cs6423 (apM c no ([] : List UInt8) ([] : List UInt8).length) := Enc.mv Enc.circle (x := apM c no ([] : List UInt8) ([] : List UInt8).length) hs6424 (Mv.at_ hq6420)
    have h_l := h_l.mv m6408
    have hd6347 := hd6347.mv m6408
    have hd6349 := hd6349.mv m6408
    have bx6345 := bx6345.keep k6402 (by simp)
    obtain ⟨F2, rfl⟩ := lit_of (F := F6403) [(1, vI no), (2, l_v), (10, Value.pointer (some ⟨b6334, 0, none⟩)), (57, undef), (11, Value.pointer (some ⟨b6413, 0, none⟩)), (45, Value.agg cs6423.toArray)] ⟨hF6406 1 (by kernel_rfl), hF6406 2 (by kernel_rfl), hF6406 10 (by kernel_rfl), hF6406 57 (by kernel_rfl), e6417, e6425, trivial⟩
    clear hT6405 hF6406 hB6410 hl6411 sep6412
    obtain ⟨d6431, d6433, rfl, hd6432, hd6434⟩ := hs6424
    have := hd6432.len_le
    have := hd6434.len_le
    refine wl_n (o_store (vs := [vI ((apM c no ([] : List UInt8) ([] : List UInt8).length).epoch), vI ((apM c no ([] : List UInt8) ([] : List UInt8).length).threshold), vI ((apM c no ([] : List UInt8) ([] : List UInt8).length).wait), d6431, d6433]) (.agg #[vI ((apM c no ([] : List UInt8) ([] : List UInt8).length).epoch), vI ((apM c no ([] : List UInt8) ([] : List UInt8).length).threshold), vI ((apM c no ([] : List UInt8) ([] : List UInt8).length).wait), d6431, d6433]) rfl rfl rfl s_25 (fun u hu => by simp only [List.mem_cons, List.not_mem_nil, or_false] at hu; rcases hu with rfl | rfl | rfl | rfl | rfl <;> first | rfl | exact hd6432.oneCell | exact hd6434.oneCell) (by repeat (first | assumption | constructor)) bx6418 (of_decide_eq_true rfl) s6407 fun w6426 s6427 m6428 k6429 bx6430 => (?_))
    have h_l := h_l.mv m6428
    have hd6432 := hd6432.mv m6428
    have hd6434 := hd6434.mv m6428
    have hd6347 := hd6347.mv m6428
    have hd6349 := hd6349.mv m6428
    have bx6345 := bx6345.keep k6429 (nin1 ne6422)
    refine wl_nil (thenQ_n (?_))
    refine cw_seq (?_)
    have hb6435 : (sameC (apM c no l l.length) (apM c no ([] : List UInt8) ([] : List UInt8).length)) = true := (by rw [show l = [] from (List.eq_nil_of_length_eq_zero (by omega))]; exact sameC_refl _)
    try rw [hb6435]
    refine cw_draw' 9 _ _ [isV (Value.agg #[vI ((apM c no l l.length).epoch), vI ((apM c no l l.length).threshold), vI ((apM c no l l.length).wait), d6346, d6348]), isV (Value.agg #[vI ((apM c no ([] : List UInt8) ([] : List UInt8).length).epoch), vI ((apM c no ([] : List UInt8) ([] : List UInt8).length).threshold), vI ((apM c no ([] : List UInt8) ([] : List UInt8).length).wait), d6431, d6433]), isV (Value.bool true), isV (Value.bool true), isV (Value.agg #[vI ((apM c no l l.length).epoch), vI ((apM c no l l.length).threshold), vI ((apM c no l l.length).wait), d6346, d6348]), isV (vI no), fun (vT : Value) (wT : World) => RdL Enc.u8 wT ((b6413 :: (b6334 :: [])) ++ O) vT (l), fun (vT : Value) (wT : World) => ∃ csT : List Value, vT = .agg csT.toArray ∧ Enc.circle.rd wT ((b6413 :: (b6334 :: [])) ++ O) csT (apM (apM c no l l.length) no l l.length), isV (Value.agg #[vI ((apM c no l l.length).epoch), vI ((apM c no l l.length).threshold), vI ((apM c no l l.length).wait), d6346, d6348])] (by kernel_rfl) (by kernel_rfl) (by kernel_rfl) (by kernel_rfl) rfl rfl ⟨kI, kI, kI, kI, kI, kI, fun _ _ _ h k => h.mv (Mv.of_keep k), fun _ _ _ ⟨a, e, h⟩ k => ⟨a, e, Enc.mv _ h (Mv.of_keep k)⟩, kI, trivial⟩ ⟨?_, ?_, ?_, ?_, ?_, ?_, ?_, ?_, ?_, trivial⟩ ?_
    ·intro F1 w1 k1 hf hd
     have k0 := (Keep.drew [] w6426).trans k1
     have bx6345 := bx6345.keep k0 (by simp)
     obtain ⟨F2, rfl⟩ := lit_of (F := F1) [(10, Value.pointer (some ⟨b6334, 0, none⟩))] ⟨hf 10 (by kernel_rfl), trivial⟩
     exact sp_plain rfl ((o_loadBxA (vs := [vI ((apM c no l l.length).epoch), vI ((apM c no l l.length).threshold), vI ((apM c no l l.length).wait), d6346, d6348]) Try.underlying25 rfl s_25 rfl bx6345 rfl (⟨(Keep.refl _ _), rfl⟩)))
    ·intro F1 w1 k1 hf hd
     have k0 := (Keep.drew [] w6426).trans k1
     have bx6430 := bx6430.keep k0 (by simp)
     obtain ⟨F2, rfl⟩ := lit_of (F := F1) [(11, Value.pointer (some ⟨b6413, 0, none⟩))] ⟨hf 11 (by kernel_rfl), trivial⟩
     exact sp_plain rfl ((o_loadBxA (vs := [vI ((apM c no ([] : List UInt8) ([] : List UInt8).length).epoch), vI ((apM c no ([] : List UInt8) ([] : List UInt8).length).threshold), vI ((apM c no ([] : List UInt8) ([] : List UInt8).length).wait), d6431, d6433]) Try.underlying25 rfl s_25 rfl bx6430 rfl (⟨(Keep.refl _ _), rfl⟩)))
    ·intro F1 w1 k1 hf hd
     have k0 := (Keep.drew [] w6426).trans k1
     have s1 := s6427.call k0
     have m1 : Mv (b6413 :: (b6334 :: [])) w6426 (b6413 :: (b6334 :: [])) w1 := Mv.of_keep k0
     have hd6347 := hd6347.mv m1
     have hd6349 := hd6349.mv m1
     have hd6432 := hd6432.mv m1
     have hd6434 := hd6434.mv m1
     obtain ⟨F2, rfl⟩ := lit_of (F := F1) [(46, Value.agg #[vI ((apM c no l l.length).epoch), vI ((apM c no l l.length).threshold), vI ((apM c no l l.length).wait), d6346, d6348]), (47, Value.agg #[vI ((apM c no ([] : List UInt8) ([] : List UInt8).length).epoch), vI ((apM c no ([] : List UInt8) ([] : List UInt8).length).threshold), vI ((apM c no ([] : List UInt8) ([] : List UInt8).length).wait), d6431, d6433])] ⟨hd 0 46 (by kernel_rfl), hd 1 47 (by kernel_rfl), trivial⟩
     refine sp_plain rfl ((o_callK (vs := [Value.agg #[vI ((apM c no l l.length).epoch), vI ((apM c no l l.length).threshold), vI ((apM c no l l.length).wait), d6346, d6348], Value.agg #[vI ((apM c no ([] : List UInt8) ([] : List UInt8).length).epoch), vI ((apM c no ([] : List UInt8) ([] : List UInt8).length).threshold), vI ((apM c no ([] : List UInt8) ([] : List UInt8).length).wait), d6431, d6433]]) enter_15 (c_sameC (O := (b6413 :: (b6334 :: [])) ++ O) [vI ((apM c no l l.length).epoch), vI ((apM c no l l.length).threshold), vI ((apM c no l l.length).wait), d6346, d6348] (apM c no l l.length) [vI ((apM c no ([] : List UInt8) ([] : List UInt8).length).epoch), vI ((apM c no ([] : List UInt8) ([] : List UInt8).length).threshold), vI ((apM c no ([] : List UInt8) ([] : List UInt8).length).wait), d6431, d6433] (apM c no ([] : List UInt8) ([] : List UInt8).length) w1 ⟨_, _, rfl, hd6347, hd6349⟩ ⟨_, _, rfl, hd6432, hd6434⟩ s1.lt) rfl s1 fun v6436 w6437 s6438 m6439 k6440 r6441 => (?_)))
     obtain rfl := r6441
     exact ⟨k6440, congrArg Value.bool (hb6435)⟩
    ·intro F1 w1 k1 hf hd
     obtain ⟨F2, rfl⟩ := lit_of (F := F1) [(48, Value.bool true)] ⟨hd 2 48 (by kernel_rfl), trivial⟩
     exact sp_plain rfl ((o_move (Value.bool true) rfl (⟨(Keep.refl _ _), rfl⟩)))
    ·intro F1 w1 k1 hf hd
     have k0 := (Keep.drew [] w6426).trans k1
     have bx6345 := bx6345.keep k0 (by simp)
     obtain ⟨F2, rfl⟩ := lit_of (F := F1) [(10, Value.pointer (some ⟨b6334, 0, none⟩)), (49, Value.bool true)] ⟨hf 10 (by kernel_rfl), hd 3 49 (by kernel_rfl), trivial⟩
     exact sp_take rfl rfl ((o_loadBxA (vs := [vI ((apM c no l l.length).epoch), vI ((apM c no l l.length).threshold), vI ((apM c no l l.length).wait), d6346, d6348]) Try.underlying25 rfl s_25 rfl bx6345 rfl (⟨(Keep.refl _ _), rfl⟩)))
    ·intro F1 w1 k1 hf hd
     obtain ⟨F2, rfl⟩ := lit_of (F := F1) [(1, vI no), (49, Value.bool true)] ⟨hf 1 (by kernel_rfl), hd 3 49 (by kernel_rfl), trivial⟩
     exact sp_take rfl rfl ((o_move (vI no) rfl (⟨(Keep.refl _ _), rfl⟩)))
    ·intro F1 w1 k1 hf hd
     have k0 := (Keep.drew [] w6426).trans k1
     have m1 : Mv (b6413 :: (b6334 :: [])) w6426 (b6413 :: (b6334 :: [])) w1 := Mv.of_keep k0
     have h_l := h_l.mv m1
     obtain ⟨F2, rfl⟩ := lit_of (F := F1) [(2, l_v), (49, Value.bool true)] ⟨hf 2 (by kernel_rfl), hd 3 49 (by kernel_rfl), trivial⟩
     exact sp_take rfl rfl ((o_move (l_v) rfl (⟨(Keep.refl _ _), h_l⟩)))
    ·intro F1 w1 k1 hf hd
     have k0 := (Keep.drew [] w6426).trans k1
     have s1 := s6427.call k0
     have m1 : Mv (b6413 :: (b6334 :: [])) w6426 (b6413 :: (b6334 :: [])) w1 := Mv.of_keep k0
     have hd6347 := hd6347.mv m1
     have hd6349 := hd6349.mv m1
     obtain ⟨v6442, e6444, hl6443⟩ : ∃ v, F1 52 = v ∧ RdL Enc.u8 w1 ((b6413 :: (b6334 :: [])) ++ O) v (l) := ⟨_, rfl, hd 6 52 (by kernel_rfl)⟩
     have := hl6443.len_le
     obtain ⟨F2, rfl⟩ := lit_of (F := F1) [(49, Value.bool true), (50, Value.agg #[vI ((apM c no l l.length).epoch), vI ((apM c no l l.length).threshold), vI ((apM c no l l.length).wait), d6346, d6348]), (51, vI no), (52, v6442)] ⟨hd 3 49 (by kernel_rfl), hd 4 50 (by kernel_rfl), hd 5 51 (by kernel_rfl), e6444, trivial⟩
     refine sp_take rfl rfl ((o_callK (vs := [Value.agg #[vI ((apM c no l l.length).epoch), vI ((apM c no l l.length).threshold), vI ((apM c no l l.length).wait), d6346, d6348], vI no, v6442]) enter_27 (c_approveL (O := (b6413 :: (b6334 :: [])) ++ O) [vI ((apM c no l l.length).epoch), vI ((apM c no l l.length).threshold), vI ((apM c no l l.length).wait), d6346, d6348] (apM c no l l.length) no v6442 l w1 ⟨_, _, rfl, hd6347, hd6349⟩ hl6443 s1.lt) rfl s1 fun v6445 w6446 s6447 m6448 k6449 r6450 => (?_)))
     obtain ⟨cs6451, rfl, hs6452⟩ := r6450
     exact ⟨k6449, ⟨cs6451, rfl, hs6452⟩⟩
    ·intro F1 w1 k1 hf hd
     have k0 := (Keep.drew [] w6426).trans k1
     have bx6345 := bx6345.keep k0 (by simp)
     obtain ⟨F2, rfl⟩ := lit_of (F := F1) [(10, Value.pointer (some ⟨b6334, 0, none⟩)), (49, Value.bool true)] ⟨hf 10 (by kernel_rfl), hd 3 49 (by kernel_rfl), trivial⟩
     exact sp_take rfl rfl ((o_loadBxA (vs := [vI ((apM c no l l.length).epoch), vI ((apM c no l l.length).threshold), vI ((apM c no l l.length).wait), d6346, d6348]) Try.underlying25 rfl s_25 rfl bx6345 rfl (⟨(Keep.refl _ _), rfl⟩)))
    intro F6454 w6455 k6453 hT6456 hF6457
    have s6458 := s6427.call k6453
    have m6459 : Mv (b6413 :: (b6334 :: [])) w6426 (b6413 :: (b6334 :: [])) w6455 := Mv.of_keep k6453
    have hd6347 := hd6347.mv m6459
    have hd6349 := hd6349.mv m6459
    obtain ⟨cs6462, e6464, hs6463⟩ : ∃ cs : List Value, F6454 53 = .agg cs.toArray ∧ Enc.circle.rd w6455 ((b6413 :: (b6334 :: [])) ++ O) cs (apM (apM c no l l.length) no l l.length) := hT6456 7 53 (by kernel_rfl) (by decide)
    obtain ⟨F2, rfl⟩ := lit_of (F := F6454) [(57, undef), (49, Value.bool true), (53, Value.agg cs6462.toArray), (54, Value.agg #[vI ((apM c no l l.length).epoch), vI ((apM c no l l.length).threshold), vI ((apM c no l l.length).wait), d6346, d6348])] ⟨hF6457 57 (by kernel_rfl), hT6456 3 49 (by kernel_rfl) (by decide), e6464, hT6456 8 54 (by kernel_rfl) (by decide), trivial⟩
    clear hT6456 hF6457
    refine wl_t rfl (o_callK (vs := [Value.agg cs6462.toArray, Value.agg #[vI ((apM c no l l.length).epoch), vI ((apM c no l l.length).threshold), vI ((apM c no l l.length).wait), d6346, d6348]]) enter_15 (c_sameC (O := (b6413 :: (b6334 :: [])) ++ O) cs6462 (apM (apM c no l l.length) no l l.length) [vI ((apM c no l l.length).epoch), vI ((apM c no l l.length).threshold), vI ((apM c no l l.length).wait), d6346, d6348] (apM c no l l.length) w6455 hs6463 ⟨_, _, rfl, hd6347, hd6349⟩ s6458.lt) rfl s6458 fun v6465 w6466 s6467 m6468 k6469 r6470 => (?_))
    obtain rfl := r6470
    refine wl_s (o_pickT (Value.bool (sameC (apM (apM c no l l.length) no l l.length) (apM c no l l.length))) rfl rfl (wl_s (o_assign (Value.bool (sameC (apM (apM c no l l.length) no l l.length) (apM c no l l.length))) rfl (wl_nil (thenQ_n (?_))))))
    refine cw_ret (end_r rfl (res1 rfl rfl rfl) (?_))
    have e : true = (sameC (apM (apM c no l l.length) no l l.length) (apM c no l l.length)) := by first | rfl | (rw [ap_again]; exact (sameC_refl _).symm)
    exact ⟨_, rfl, s6467.keep, by rw [e]; exact rfl⟩
 ·have hp6471 : (fewC c) = false := by first | simpa using hb6139 | (have e := hb6139; simp at e; omega)
  refine wl_k rfl (wl_k rfl (wl_k rfl (wl_s (o_pickT (Value.bool true) rfl rfl (wl_nil (thenQ_n (?_)))))))
  refine cw_cond true rfl rfl (fun _ => ?_) (fun h => by cases h)
  refine cw_seq (?_)
  refine cw_region (by kernel_rfl) (wl_s (o_assign (Value.bool true) rfl (wl_nil (thenQ_n (?_)))))
  refine cw_ret (thenQ_r (end_r rfl (res1 rfl rfl rfl) (?_)))
  exact ⟨_, rfl, s6135.keep, rfl⟩

end Go.Proofs.Ytpdekmknnpkmgaa
