/- Walks, printed by gen.py. -/
import Derived.Test.YtjpniibleelgiaaTy
import Derived.Test.YtjpniibleelgiaaMdA
set_option linter.unusedSimpArgs false
set_option linter.unusedVariables false
namespace Go.Proofs.Ytjpniibleelgiaa
open Go.Fw Go.RowKit

set_option maxHeartbeats 4000000 in
set_option maxRecDepth 100000 in
theorem c_isDevice {O : List Nat} (n : Int) (w : World) (hO : ∀ b ∈ O, b < w.heap.size) : CallsK Try.prog 63 [vI n] w (fun v _ => v = .bool (isDevM n)) :=  by
 have s0 : St w O w [] := St.start hO
 refine callsK_of 9 Try.func63 rfl rfl (of_decide_eq_true rfl) (fun F0 => ?_)
 refine cw_seq (?_)
 refine cw_region (by kernel_rfl) (wl_s (o_assign (Value.bool false) rfl (wl_nil (thenQ_n (?_)))))
 refine cw_seq (?_)
 refine cw_region (by kernel_rfl) (wl_s (o_move (vI n) rfl (wl_s (o_geq .i64 n (0 : Int) rfl rfl (wl_s (o_move (Value.bool (decide ((0 : Int) ≤ n))) rfl (?_)))))))
 cases hb1 : (decide ((0 : Int) ≤ n))
 ·have hp2 : n < (0 : Int) := by first | simpa using hb1 | (have e := hb1; simp at e; omega)
  refine wl_k rfl (wl_k rfl (wl_s (o_pickF (Value.bool false) rfl rfl (wl_s (o_assign (Value.bool false) rfl (wl_nil (thenQ_n (?_))))))))
  refine cw_ret (end_r rfl (res1 rfl rfl rfl) (?_))
  have e : (isDevM n) = false := by simp [isDevM, *]
  exact ⟨_, rfl, s0.keep, (by first | exact congrArg Value.bool e.symm | rfl)⟩
 ·have hp3 : (0 : Int) ≤ n := by first | simpa using hb1 | (have e := hb1; simp at e; omega)
  refine wl_t rfl (o_move (vI n) rfl (wl_t rfl (o_lss .i64 n (4 : Int) rfl rfl (wl_s (o_pickT (Value.bool (decide (n < (4 : Int)))) rfl rfl (wl_s (o_assign (Value.bool (decide (n < (4 : Int)))) rfl (wl_nil (thenQ_n (?_))))))))))
  refine cw_ret (end_r rfl (res1 rfl rfl rfl) (?_))
  have e : (isDevM n) = (decide (n < (4 : Int))) := by simp [isDevM, *]
  exact ⟨_, rfl, s0.keep, (by first | exact congrArg Value.bool e.symm | rfl)⟩
set_option maxHeartbeats 4000000 in
set_option maxRecDepth 100000 in
theorem c_valid {O : List Nat} (o_cs : List Value) (o : DeviceOp) (w : World) (h_o : Enc.devop.rd w O o_cs o) (hO : ∀ b ∈ O, b < w.heap.size) : CallsK Try.prog 54 [.agg o_cs.toArray] w (fun v _ => v = .bool (validM o)) :=  by
 obtain rfl := h_o
 have s0 : St w O w [] := St.start hO
 refine callsK_of 55 Try.func54 rfl rfl (of_decide_eq_true rfl) (fun F0 => ?_)
 refine cw_seq (?_)
 refine cw_region (by kernel_rfl) (wl_s (o_boxR (E := Enc.devop) (Value.agg #[vI o.device, vI o.no, vI o.kind, vI o.copy, vI o.to, vI o.token]) ([vI o.device, vI o.no, vI o.kind, vI o.copy, vI o.to, vI o.token]) o rfl rfl rfl s0 fun a4 w5 s6 m7 k8 hp9 => (?_)))
 refine wl_s (o_assign (Value.bool false) rfl (wl_nil (thenQ_n (?_))))
 refine cw_seq (?_)
 refine cw_seq (?_)
 refine cw_region (by kernel_rfl) (wl_s (o_fieldR 0 f_40_0 (o.device) rfl hp9 (fun _ _ _ h => Enc_devop_f0 h) fun a10 hp11 => (wl_s (o_loadI Try.underlying3 rfl rfl hp11 (wl_s (o_callK (vs := [vI o.device]) enter_63 (c_isDevice (O := [] ++ O) o.device w5 s6.lt) rfl s6 fun v12 w13 s14 m15 k16 r17 => (?_)))))))
 obtain rfl := r17
 have hp9 := hp9.mv m15
 refine wl_s (o_not (isDevM o.device) rfl (wl_s (o_move (Value.bool (!(isDevM o.device))) rfl (?_))))
 cases hb18 : (!(isDevM o.device))
 ·have hp19 : (isDevM o.device) = true := by first | simpa using hb18 | (have e := hb18; rw [Bool.not_eq_true'] at e; exact e) | (have e := hb18; rw [Bool.not_eq_false'] at e; exact e) | (have e := hb18; simp at e; omega)
  refine wl_t rfl (o_fieldR 1 f_40_1 (o.no) rfl hp9 (fun _ _ _ h => Enc_devop_f1 h) fun a20 hp21 => (wl_t rfl (o_loadI Try.underlying3 rfl rfl hp21 (wl_t rfl (o_lss .i64 o.no (1 : Int) rfl rfl (wl_s (o_pickF (Value.bool (decide (o.no < (1 : Int)))) rfl rfl (wl_s (o_move (Value.bool (decide (o.no < (1 : Int)))) rfl (?_))))))))))
  cases hb22 : (decide (o.no < (1 : Int)))
  ·have hp23 : (1 : Int) ≤ o.no := by first | simpa using hb22 | (have e := hb22; simp at e; omega)
   refine wl_t rfl (o_fieldR 1 f_40_1 (o.no) rfl hp9 (fun _ _ _ h => Enc_devop_f1 h) fun a24 hp25 => (wl_t rfl (o_loadI Try.underlying3 rfl rfl hp25 (wl_t rfl (o_gtr .i64 o.no (65536 : Int) rfl rfl (wl_s (o_pickF (Value.bool (decide ((65536 : Int) < o.no))) rfl rfl (wl_s (o_move (Value.bool (decide ((65536 : Int) < o.no))) rfl (?_))))))))))
   cases hb26 : (decide ((65536 : Int) < o.no))
   ·have hp27 : o.no ≤ (65536 : Int) := by first | simpa using hb26 | (have e := hb26; simp at e; omega)
    refine wl_t rfl (o_fieldR 3 f_40_3 (o.copy) rfl hp9 (fun _ _ _ h => Enc_devop_f3 h) fun a28 hp29 => (wl_t rfl (o_loadI Try.underlying3 rfl rfl hp29 (wl_t rfl (o_lss .i64 o.copy (0 : Int) rfl rfl (wl_s (o_pickF (Value.bool (decide (o.copy < (0 : Int)))) rfl rfl (wl_s (o_move (Value.bool (decide (o.copy < (0 : Int)))) rfl (?_))))))))))
    cases hb30 : (decide (o.copy < (0 : Int)))
    ·have hp31 : (0 : Int) ≤ o.copy := by first | simpa using hb30 | (have e := hb30; simp at e; omega)
     refine wl_t rfl (o_fieldR 3 f_40_3 (o.copy) rfl hp9 (fun _ _ _ h => Enc_devop_f3 h) fun a32 hp33 => (wl_t rfl (o_loadI Try.underlying3 rfl rfl hp33 (wl_t rfl (o_geq .i64 o.copy (1024 : Int) rfl rfl (wl_s (o_pickF (Value.bool (decide ((1024 : Int) ≤ o.copy))) rfl rfl (wl_s (o_move (Value.bool (decide ((1024 : Int) ≤ o.copy))) rfl (?_))))))))))
     cases hb34 : (decide ((1024 : Int) ≤ o.copy))
     ·have hp35 : o.copy < (1024 : Int) := by first | simpa using hb34 | (have e := hb34; simp at e; omega)
      refine wl_t rfl (o_fieldR 5 f_40_5 (o.token) rfl hp9 (fun _ _ _ h => Enc_devop_f5 h) fun a36 hp37 => (wl_t rfl (o_loadI Try.underlying3 rfl rfl hp37 (wl_t rfl (o_lss .i64 o.token (1 : Int) rfl rfl (wl_s (o_pickF (Value.bool (decide (o.token < (1 : Int)))) rfl rfl (wl_s (o_move (Value.bool (decide (o.token < (1 : Int)))) rfl (?_))))))))))
      cases hb38 : (decide (o.token < (1 : Int)))
      ·have hp39 : (1 : Int) ≤ o.token := by first | simpa using hb38 | (have e := hb38; simp at e; omega)
       refine wl_t rfl (o_fieldR 5 f_40_5 (o.token) rfl hp9 (fun _ _ _ h => Enc_devop_f5 h) fun a40 hp41 => (wl_t rfl (o_loadI Try.underlying3 rfl rfl hp41 (wl_t rfl (o_gtr .i64 o.token (65536 : Int) rfl rfl (wl_s (o_pickF (Value.bool (decide ((65536 : Int) < o.token))) rfl rfl (wl_nil (thenQ_n (?_))))))))))
       refine cw_cond (decide ((65536 : Int) < o.token)) rfl rfl (fun hc42 => ?_) (fun hc42 => ?_)
       ·have hp43 : (65536 : Int) < o.token := by first | simpa using hc42 | (have e := hc42; simp at e; omega)
        refine cw_seq (?_)
        refine cw_region (by kernel_rfl) (wl_s (o_assign (Value.bool false) rfl (wl_nil (thenQ_n (?_)))))
        refine cw_ret (thenQ_r (end_r rfl (res1 rfl rfl rfl) (?_)))
        have e : (validM o) = false := by first | (unfold validM; ((repeat (first | (refine (if_pos ?_).trans ?_; solve | omega | assumption | (simp only [dbs]; first | done | (repeat (first | omega | assumption | (right; first | omega | assumption | (constructor <;> first | omega | assumption)) | left))) | (rw [Bool.not_eq_true]; simp only [dbs]; first | done | omega | assumption | ((repeat' apply And.intro) <;> first | omega | assumption)) | (simp only [*, dbs]; done)) | (refine (if_neg ?_).trans ?_; solve | omega | assumption | (simp only [dbs]; first | done | (repeat (first | omega | assumption | (right; first | omega | assumption | (constructor <;> first | omega | assumption)) | left))) | (rw [Bool.not_eq_true]; simp only [dbs]; first | done | omega | assumption | ((repeat' apply And.intro) <;> first | omega | assumption)) | (simp only [*, dbs]; done)))); rfl)) | (simp_all [validM]; done) | (simp [validM, *]; omega)
        exact ⟨_, rfl, s14.keep, (by first | exact congrArg Value.bool e.symm | rfl)⟩
       ·have hp44 : o.token ≤ (65536 : Int) := by first | simpa using hc42 | (have e := hc42; simp at e; omega)
        refine cw_skip (thenQ_n (?_))
        refine cw_seq (?_)
        refine cw_region (by kernel_rfl) (wl_s (o_fieldR 2 f_40_2 (o.kind) rfl hp9 (fun _ _ _ h => Enc_devop_f2 h) fun a45 hp46 => (wl_s (o_loadI Try.underlying3 rfl rfl hp46 (wl_s (o_eql .i64 o.kind (1 : Int) rfl rfl (wl_s (o_move (Value.bool (o.kind == (1 : Int))) rfl (?_)))))))))
        cases hb47 : (o.kind == (1 : Int))
        ·have hp48 : o.kind ≠ (1 : Int) := by first | simpa using hb47 | (have e := hb47; simp at e; omega)
         refine wl_k rfl (wl_k rfl (wl_k rfl (wl_s (o_pickF (Value.bool false) rfl rfl (wl_s (o_move (Value.bool false) rfl (wl_t rfl (o_fieldR 2 f_40_2 (o.kind) rfl hp9 (fun _ _ _ h => Enc_devop_f2 h) fun a49 hp50 => (wl_t rfl (o_loadI Try.underlying3 rfl rfl hp50 (wl_t rfl (o_eql .i64 o.kind (2 : Int) rfl rfl (wl_t rfl (o_move (Value.bool (o.kind == (2 : Int))) rfl (?_)))))))))))))))
         cases hb51 : (o.kind == (2 : Int))
         ·have hp52 : o.kind ≠ (2 : Int) := by first | simpa using hb51 | (have e := hb51; simp at e; omega)
          refine wl_k rfl (wl_k rfl (wl_k rfl (wl_t rfl (o_pickF (Value.bool false) rfl rfl (wl_s (o_pickF (Value.bool false) rfl rfl (wl_s (o_assign (Value.bool false) rfl (wl_nil (thenQ_n (?_)))))))))))
          refine cw_ret (end_r rfl (res1 rfl rfl rfl) (?_))
          have e : (validM o) = false := by first | (unfold validM; ((repeat (first | (refine (if_pos ?_).trans ?_; solve | omega | assumption | (simp only [dbs]; first | done | (repeat (first | omega | assumption | (right; first | omega | assumption | (constructor <;> first | omega | assumption)) | left))) | (rw [Bool.not_eq_true]; simp only [dbs]; first | done | omega | assumption | ((repeat' apply And.intro) <;> first | omega | assumption)) | (simp only [*, dbs]; done)) | (refine (if_neg ?_).trans ?_; solve | omega | assumption | (simp only [dbs]; first | done | (repeat (first | omega | assumption | (right; first | omega | assumption | (constructor <;> first | omega | assumption)) | left))) | (rw [Bool.not_eq_true]; simp only [dbs]; first | done | omega | assumption | ((repeat' apply And.intro) <;> first | omega | assumption)) | (simp only [*, dbs]; done)))); rfl)) | (simp_all [validM]; done) | (simp [validM, *]; omega)
          exact ⟨_, rfl, s14.keep, (by first | exact congrArg Value.bool e.symm | rfl)⟩
         ·have hp53 : o.kind = (2 : Int) := by first | simpa using hb51 | (have e := hb51; simp at e; omega)
          refine wl_t rfl (o_fieldR 4 f_40_4 (o.to) rfl hp9 (fun _ _ _ h => Enc_devop_f4 h) fun a54 hp55 => (wl_t rfl (o_loadI Try.underlying3 rfl rfl hp55 (wl_t rfl (o_eql .i64 o.to (0 : Int) rfl rfl (wl_t rfl (o_pickT (Value.bool (o.to == (0 : Int))) rfl rfl (wl_s (o_pickF (Value.bool (o.to == (0 : Int))) rfl rfl (wl_s (o_assign (Value.bool (o.to == (0 : Int))) rfl (wl_nil (thenQ_n (?_))))))))))))))
          refine cw_ret (end_r rfl (res1 rfl rfl rfl) (?_))
          have e : (validM o) = (o.to == (0 : Int)) := by first | (unfold validM; ((repeat (first | (refine (if_pos ?_).trans ?_; solve | omega | assumption | (simp only [dbs]; first | done | (repeat (first | omega | assumption | (right; first | omega | assumption | (constructor <;> first | omega | assumption)) | left))) | (rw [Bool.not_eq_true]; simp only [dbs]; first | done | omega | assumption | ((repeat' apply And.intro) <;> first | omega | assumption)) | (simp only [*, dbs]; done)) | (refine (if_neg ?_).trans ?_; solve | omega | assumption | (simp only [dbs]; first | done | (repeat (first | omega | assumption | (right; first | omega | assumption | (constructor <;> first | omega | assumption)) | left))) | (rw [Bool.not_eq_true]; simp only [dbs]; first | done | omega | assumption | ((repeat' apply And.intro) <;> first | omega | assumption)) | (simp only [*, dbs]; done)))); rfl)) | (simp_all [validM]; done) | (simp [validM, *]; omega)
          exact ⟨_, rfl, s14.keep, (by first | exact congrArg Value.bool e.symm | rfl)⟩
        ·have hp56 : o.kind = (1 : Int) := by first | simpa using hb47 | (have e := hb47; simp at e; omega)
         refine wl_t rfl (o_fieldR 4 f_40_4 (o.to) rfl hp9 (fun _ _ _ h => Enc_devop_f4 h) fun a57 hp58 => (wl_t rfl (o_loadI Try.underlying3 rfl rfl hp58 (wl_t rfl (o_callK (vs := [vI o.to]) enter_63 (c_isDevice (O := [] ++ O) o.to w13 s14.lt) rfl s14 fun v59 w60 s61 m62 k63 r64 => (?_))))))
         obtain rfl := r64
         have hp9 := hp9.mv m62
         refine wl_s (o_pickT (Value.bool (isDevM o.to)) rfl rfl (wl_s (o_move (Value.bool (isDevM o.to)) rfl (?_))))
         cases hb65 : (isDevM o.to)
         ·have hp66 : (isDevM o.to) = false := by first | simpa using hb65 | (have e := hb65; simp at e; omega)
          refine wl_t rfl (o_fieldR 2 f_40_2 (o.kind) rfl hp9 (fun _ _ _ h => Enc_devop_f2 h) fun a67 hp68 => (wl_t rfl (o_loadI Try.underlying3 rfl rfl hp68 (wl_t rfl (o_eql .i64 o.kind (2 : Int) rfl rfl (wl_t rfl (o_move (Value.bool (o.kind == (2 : Int))) rfl (?_))))))))
          cases hb69 : (o.kind == (2 : Int))
          ·have hp70 : o.kind ≠ (2 : Int) := by first | simpa using hb69 | (have e := hb69; simp at e; omega)
           refine wl_k rfl (wl_k rfl (wl_k rfl (wl_t rfl (o_pickF (Value.bool false) rfl rfl (wl_s (o_pickF (Value.bool false) rfl rfl (wl_s (o_assign (Value.bool false) rfl (wl_nil (thenQ_n (?_)))))))))))
           refine cw_ret (end_r rfl (res1 rfl rfl rfl) (?_))
           have e : (validM o) = false := by first | (unfold validM; ((repeat (first | (refine (if_pos ?_).trans ?_; solve | omega | assumption | (simp only [dbs]; first | done | (repeat (first | omega | assumption | (right; first | omega | assumption | (constructor <;> first | omega | assumption)) | left))) | (rw [Bool.not_eq_true]; simp only [dbs]; first | done | omega | assumption | ((repeat' apply And.intro) <;> first | omega | assumption)) | (simp only [*, dbs]; done)) | (refine (if_neg ?_).trans ?_; solve | omega | assumption | (simp only [dbs]; first | done | (repeat (first | omega | assumption | (right; first | omega | assumption | (constructor <;> first | omega | assumption)) | left))) | (rw [Bool.not_eq_true]; simp only [dbs]; first | done | omega | assumption | ((repeat' apply And.intro) <;> first | omega | assumption)) | (simp only [*, dbs]; done)))); rfl)) | (simp_all [validM]; done) | (simp [validM, *]; omega)
           exact ⟨_, rfl, s61.keep, (by first | exact congrArg Value.bool e.symm | rfl)⟩
          ·have hp71 : o.kind = (2 : Int) := by first | simpa using hb69 | (have e := hb69; simp at e; omega)
           refine wl_t rfl (o_fieldR 4 f_40_4 (o.to) rfl hp9 (fun _ _ _ h => Enc_devop_f4 h) fun a72 hp73 => (wl_t rfl (o_loadI Try.underlying3 rfl rfl hp73 (wl_t rfl (o_eql .i64 o.to (0 : Int) rfl rfl (wl_t rfl (o_pickT (Value.bool (o.to == (0 : Int))) rfl rfl (wl_s (o_pickF (Value.bool (o.to == (0 : Int))) rfl rfl (wl_s (o_assign (Value.bool (o.to == (0 : Int))) rfl (wl_nil (thenQ_n (?_))))))))))))))
           refine cw_ret (end_r rfl (res1 rfl rfl rfl) (?_))
           have e : (validM o) = (o.to == (0 : Int)) := by first | (unfold validM; ((repeat (first | (refine (if_pos ?_).trans ?_; solve | omega | assumption | (simp only [dbs]; first | done | (repeat (first | omega | assumption | (right; first | omega | assumption | (constructor <;> first | omega | assumption)) | left))) | (rw [Bool.not_eq_true]; simp only [dbs]; first | done | omega | assumption | ((repeat' apply And.intro) <;> first | omega | assumption)) | (simp only [*, dbs]; done)) | (refine (if_neg ?_).trans ?_; solve | omega | assumption | (simp only [dbs]; first | done | (repeat (first | omega | assumption | (right; first | omega | assumption | (constructor <;> first | omega | assumption)) | left))) | (rw [Bool.not_eq_true]; simp only [dbs]; first | done | omega | assumption | ((repeat' apply And.intro) <;> first | omega | assumption)) | (simp only [*, dbs]; done)))); rfl)) | (simp_all [validM]; done) | (simp [validM, *]; omega)
           exact ⟨_, rfl, s61.keep, (by first | exact congrArg Value.bool e.symm | rfl)⟩
         ·have hp74 : (isDevM o.to) = true := by first | simpa using hb65 | (have e := hb65; simp at e; omega)
          refine wl_k rfl (wl_k rfl (wl_k rfl (wl_k rfl (wl_u rfl (wl_u rfl (wl_u rfl (wl_k rfl (wl_s (o_pickT (Value.bool true) rfl rfl (wl_s (o_assign (Value.bool true) rfl (wl_nil (thenQ_n (?_))))))))))))))
          refine cw_ret (end_r rfl (res1 rfl rfl rfl) (?_))
          have e : (validM o) = true := by first | (unfold validM; ((repeat (first | (refine (if_pos ?_).trans ?_; solve | omega | assumption | (simp only [dbs]; first | done | (repeat (first | omega | assumption | (right; first | omega | assumption | (constructor <;> first | omega | assumption)) | left))) | (rw [Bool.not_eq_true]; simp only [dbs]; first | done | omega | assumption | ((repeat' apply And.intro) <;> first | omega | assumption)) | (simp only [*, dbs]; done)) | (refine (if_neg ?_).trans ?_; solve | omega | assumption | (simp only [dbs]; first | done | (repeat (first | omega | assumption | (right; first | omega | assumption | (constructor <;> first | omega | assumption)) | left))) | (rw [Bool.not_eq_true]; simp only [dbs]; first | done | omega | assumption | ((repeat' apply And.intro) <;> first | omega | assumption)) | (simp only [*, dbs]; done)))); rfl)) | (simp_all [validM]; done) | (simp [validM, *]; omega)
          exact ⟨_, rfl, s61.keep, (by first | exact congrArg Value.bool e.symm | rfl)⟩
      ·have hp75 : o.token < (1 : Int) := by first | simpa using hb38 | (have e := hb38; simp at e; omega)
       refine wl_k rfl (wl_k rfl (wl_k rfl (wl_s (o_pickT (Value.bool true) rfl rfl (wl_nil (thenQ_n (?_)))))))
       refine cw_cond true rfl rfl (fun _ => ?_) (fun h => by cases h)
       refine cw_seq (?_)
       refine cw_region (by kernel_rfl) (wl_s (o_assign (Value.bool false) rfl (wl_nil (thenQ_n (?_)))))
       refine cw_ret (thenQ_r (end_r rfl (res1 rfl rfl rfl) (?_)))
       have e : (validM o) = false := by first | (unfold validM; ((repeat (first | (refine (if_pos ?_).trans ?_; solve | omega | assumption | (simp only [dbs]; first | done | (repeat (first | omega | assumption | (right; first | omega | assumption | (constructor <;> first | omega | assumption)) | left))) | (rw [Bool.not_eq_true]; simp only [dbs]; first | done | omega | assumption | ((repeat' apply And.intro) <;> first | omega | assumption)) | (simp only [*, dbs]; done)) | (refine (if_neg ?_).trans ?_; solve | omega | assumption | (simp only [dbs]; first | done | (repeat (first | omega | assumption | (right; first | omega | assumption | (constructor <;> first | omega | assumption)) | left))) | (rw [Bool.not_eq_true]; simp only [dbs]; first | done | omega | assumption | ((repeat' apply And.intro) <;> first | omega | assumption)) | (simp only [*, dbs]; done)))); rfl)) | (simp_all [validM]; done) | (simp [validM, *]; omega)
       exact ⟨_, rfl, s14.keep, (by first | exact congrArg Value.bool e.symm | rfl)⟩
     ·have hp76 : (1024 : Int) ≤ o.copy := by first | simpa using hb34 | (have e := hb34; simp at e; omega)
      refine wl_k rfl (wl_k rfl (wl_k rfl (wl_s (o_pickT (Value.bool true) rfl rfl (wl_s (o_move (Value.bool true) rfl (wl_k rfl (wl_k rfl (wl_k rfl (wl_s (o_pickT (Value.bool true) rfl rfl (wl_nil (thenQ_n (?_))))))))))))))
      refine cw_cond true rfl rfl (fun _ => ?_) (fun h => by cases h)
      refine cw_seq (?_)
      refine cw_region (by kernel_rfl) (wl_s (o_assign (Value.bool false) rfl (wl_nil (thenQ_n (?_)))))
      refine cw_ret (thenQ_r (end_r rfl (res1 rfl rfl rfl) (?_)))
      have e : (validM o) = false := by first | (unfold validM; ((repeat (first | (refine (if_pos ?_).trans ?_; solve | omega | assumption | (simp only [dbs]; first | done | (repeat (first | omega | assumption | (right; first | omega | assumption | (constructor <;> first | omega | assumption)) | left))) | (rw [Bool.not_eq_true]; simp only [dbs]; first | done | omega | assumption | ((repeat' apply And.intro) <;> first | omega | assumption)) | (simp only [*, dbs]; done)) | (refine (if_neg ?_).trans ?_; solve | omega | assumption | (simp only [dbs]; first | done | (repeat (first | omega | assumption | (right; first | omega | assumption | (constructor <;> first | omega | assumption)) | left))) | (rw [Bool.not_eq_true]; simp only [dbs]; first | done | omega | assumption | ((repeat' apply And.intro) <;> first | omega | assumption)) | (simp only [*, dbs]; done)))); rfl)) | (simp_all [validM]; done) | (simp [validM, *]; omega)
      exact ⟨_, rfl, s14.keep, (by first | exact congrArg Value.bool e.symm | rfl)⟩
    ·have hp77 : o.copy < (0 : Int) := by first | simpa using hb30 | (have e := hb30; simp at e; omega)
     refine wl_k rfl (wl_k rfl (wl_k rfl (wl_s (o_pickT (Value.bool true) rfl rfl (wl_s (o_move (Value.bool true) rfl (wl_k rfl (wl_k rfl (wl_k rfl (wl_s (o_pickT (Value.bool true) rfl rfl (wl_s (o_move (Value.bool true) rfl (wl_k rfl (wl_k rfl (wl_k rfl (wl_s (o_pickT (Value.bool true) rfl rfl (wl_nil (thenQ_n (?_)))))))))))))))))))))
     refine cw_cond true rfl rfl (fun _ => ?_) (fun h => by cases h)
     refine cw_seq (?_)
     refine cw_region (by kernel_rfl) (wl_s (o_assign (Value.bool false) rfl (wl_nil (thenQ_n (?_)))))
     refine cw_ret (thenQ_r (end_r rfl (res1 rfl rfl rfl) (?_)))
     have e : (validM o) = false := by first | (unfold validM; ((repeat (first | (refine (if_pos ?_).trans ?_; solve | omega | assumption | (simp only [dbs]; first | done | (repeat (first | omega | assumption | (right; first | omega | assumption | (constructor <;> first | omega | assumption)) | left))) | (rw [Bool.not_eq_true]; simp only [dbs]; first | done | omega | assumption | ((repeat' apply And.intro) <;> first | omega | assumption)) | (simp only [*, dbs]; done)) | (refine (if_neg ?_).trans ?_; solve | omega | assumption | (simp only [dbs]; first | done | (repeat (first | omega | assumption | (right; first | omega | assumption | (constructor <;> first | omega | assumption)) | left))) | (rw [Bool.not_eq_true]; simp only [dbs]; first | done | omega | assumption | ((repeat' apply And.intro) <;> first | omega | assumption)) | (simp only [*, dbs]; done)))); rfl)) | (simp_all [validM]; done) | (simp [validM, *]; omega)
     exact ⟨_, rfl, s14.keep, (by first | exact congrArg Value.bool e.symm | rfl)⟩
   ·have hp78 : (65536 : Int) < o.no := by first | simpa using hb26 | (have e := hb26; simp at e; omega)
    refine wl_k rfl (wl_k rfl (wl_k rfl (wl_s (o_pickT (Value.bool true) rfl rfl (wl_s (o_move (Value.bool true) rfl (wl_k rfl (wl_k rfl (wl_k rfl (wl_s (o_pickT (Value.bool true) rfl rfl (wl_s (o_move (Value.bool true) rfl (wl_k rfl (wl_k rfl (wl_k rfl (wl_s (o_pickT (Value.bool true) rfl rfl (wl_s (o_move (Value.bool true) rfl (wl_k rfl (wl_k rfl (wl_k rfl (wl_s (o_pickT (Value.bool true) rfl rfl (wl_nil (thenQ_n (?_))))))))))))))))))))))))))))
    refine cw_cond true rfl rfl (fun _ => ?_) (fun h => by cases h)
    refine cw_seq (?_)
    refine cw_region (by kernel_rfl) (wl_s (o_assign (Value.bool false) rfl (wl_nil (thenQ_n (?_)))))
    refine cw_ret (thenQ_r (end_r rfl (res1 rfl rfl rfl) (?_)))
    have e : (validM o) = false := by first | (unfold validM; ((repeat (first | (refine (if_pos ?_).trans ?_; solve | omega | assumption | (simp only [dbs]; first | done | (repeat (first | omega | assumption | (right; first | omega | assumption | (constructor <;> first | omega | assumption)) | left))) | (rw [Bool.not_eq_true]; simp only [dbs]; first | done | omega | assumption | ((repeat' apply And.intro) <;> first | omega | assumption)) | (simp only [*, dbs]; done)) | (refine (if_neg ?_).trans ?_; solve | omega | assumption | (simp only [dbs]; first | done | (repeat (first | omega | assumption | (right; first | omega | assumption | (constructor <;> first | omega | assumption)) | left))) | (rw [Bool.not_eq_true]; simp only [dbs]; first | done | omega | assumption | ((repeat' apply And.intro) <;> first | omega | assumption)) | (simp only [*, dbs]; done)))); rfl)) | (simp_all [validM]; done) | (simp [validM, *]; omega)
    exact ⟨_, rfl, s14.keep, (by first | exact congrArg Value.bool e.symm | rfl)⟩
  ·have hp79 : o.no < (1 : Int) := by first | simpa using hb22 | (have e := hb22; simp at e; omega)
   refine wl_k rfl (wl_k rfl (wl_k rfl (wl_s (o_pickT (Value.bool true) rfl rfl (wl_s (o_move (Value.bool true) rfl (wl_k rfl (wl_k rfl (wl_k rfl (wl_s (o_pickT (Value.bool true) rfl rfl (wl_s (o_move (Value.bool true) rfl (wl_k rfl (wl_k rfl (wl_k rfl (wl_s (o_pickT (Value.bool true) rfl rfl (wl_s (o_move (Value.bool true) rfl (wl_k rfl (wl_k rfl (wl_k rfl (wl_s (o_pickT (Value.bool true) rfl rfl (wl_s (o_move (Value.bool true) rfl (wl_k rfl (wl_k rfl (wl_k rfl (wl_s (o_pickT (Value.bool true) rfl rfl (wl_nil (thenQ_n (?_)))))))))))))))))))))))))))))))))))
   refine cw_cond true rfl rfl (fun _ => ?_) (fun h => by cases h)
   refine cw_seq (?_)
   refine cw_region (by kernel_rfl) (wl_s (o_assign (Value.bool false) rfl (wl_nil (thenQ_n (?_)))))
   refine cw_ret (thenQ_r (end_r rfl (res1 rfl rfl rfl) (?_)))
   have e : (validM o) = false := by first | (unfold validM; ((repeat (first | (refine (if_pos ?_).trans ?_; solve | omega | assumption | (simp only [dbs]; first | done | (repeat (first | omega | assumption | (right; first | omega | assumption | (constructor <;> first | omega | assumption)) | left))) | (rw [Bool.not_eq_true]; simp only [dbs]; first | done | omega | assumption | ((repeat' apply And.intro) <;> first | omega | assumption)) | (simp only [*, dbs]; done)) | (refine (if_neg ?_).trans ?_; solve | omega | assumption | (simp only [dbs]; first | done | (repeat (first | omega | assumption | (right; first | omega | assumption | (constructor <;> first | omega | assumption)) | left))) | (rw [Bool.not_eq_true]; simp only [dbs]; first | done | omega | assumption | ((repeat' apply And.intro) <;> first | omega | assumption)) | (simp only [*, dbs]; done)))); rfl)) | (simp_all [validM]; done) | (simp [validM, *]; omega)
   exact ⟨_, rfl, s14.keep, (by first | exact congrArg Value.bool e.symm | rfl)⟩
 ·have hp80 : (isDevM o.device) = false := by first | simpa using hb18 | (have e := hb18; rw [Bool.not_eq_true'] at e; exact e) | (have e := hb18; rw [Bool.not_eq_false'] at e; exact e) | (have e := hb18; simp at e; omega)
  refine wl_k rfl (wl_k rfl (wl_k rfl (wl_s (o_pickT (Value.bool true) rfl rfl (wl_s (o_move (Value.bool true) rfl (wl_k rfl (wl_k rfl (wl_k rfl (wl_s (o_pickT (Value.bool true) rfl rfl (wl_s (o_move (Value.bool true) rfl (wl_k rfl (wl_k rfl (wl_k rfl (wl_s (o_pickT (Value.bool true) rfl rfl (wl_s (o_move (Value.bool true) rfl (wl_k rfl (wl_k rfl (wl_k rfl (wl_s (o_pickT (Value.bool true) rfl rfl (wl_s (o_move (Value.bool true) rfl (wl_k rfl (wl_k rfl (wl_k rfl (wl_s (o_pickT (Value.bool true) rfl rfl (wl_s (o_move (Value.bool true) rfl (wl_k rfl (wl_k rfl (wl_k rfl (wl_s (o_pickT (Value.bool true) rfl rfl (wl_nil (thenQ_n (?_))))))))))))))))))))))))))))))))))))))))))
  refine cw_cond true rfl rfl (fun _ => ?_) (fun h => by cases h)
  refine cw_seq (?_)
  refine cw_region (by kernel_rfl) (wl_s (o_assign (Value.bool false) rfl (wl_nil (thenQ_n (?_)))))
  refine cw_ret (thenQ_r (end_r rfl (res1 rfl rfl rfl) (?_)))
  have e : (validM o) = false := by first | (unfold validM; ((repeat (first | (refine (if_pos ?_).trans ?_; solve | omega | assumption | (simp only [dbs]; first | done | (repeat (first | omega | assumption | (right; first | omega | assumption | (constructor <;> first | omega | assumption)) | left))) | (rw [Bool.not_eq_true]; simp only [dbs]; first | done | omega | assumption | ((repeat' apply And.intro) <;> first | omega | assumption)) | (simp only [*, dbs]; done)) | (refine (if_neg ?_).trans ?_; solve | omega | assumption | (simp only [dbs]; first | done | (repeat (first | omega | assumption | (right; first | omega | assumption | (constructor <;> first | omega | assumption)) | left))) | (rw [Bool.not_eq_true]; simp only [dbs]; first | done | omega | assumption | ((repeat' apply And.intro) <;> first | omega | assumption)) | (simp only [*, dbs]; done)))); rfl)) | (simp_all [validM]; done) | (simp [validM, *]; omega)
  exact ⟨_, rfl, s14.keep, (by first | exact congrArg Value.bool e.symm | rfl)⟩
set_option maxHeartbeats 4000000 in
set_option maxRecDepth 100000 in
theorem c_isNaN {O : List Nat} (x : Int) (w : World) (hO : ∀ b ∈ O, b < w.heap.size) : CallsK Try.prog 107 [vI x] w (fun v _ => v = .bool (false)) :=  by
 have s0 : St w O w [] := St.start hO
 refine callsK_of 6 Try.func107 rfl rfl (of_decide_eq_true rfl) (fun F0 => ?_)
 refine cw_seq (?_)
 refine cw_region (by kernel_rfl) (wl_s (o_assign (Value.bool false) rfl (wl_nil (thenQ_n (?_)))))
 refine cw_seq (?_)
 refine cw_region (by kernel_rfl) (wl_s (o_move (vI x) rfl (wl_s (o_move (vI x) rfl (wl_s (o_neq .i64 x x rfl rfl (wl_s (o_assign (Value.bool (x != x)) rfl (wl_nil (thenQ_n (?_)))))))))))
 refine cw_ret (end_r rfl (res1 rfl rfl rfl) (?_))
 have e : false = (x != x) := by simp
 exact ⟨_, rfl, s0.keep, (by first | exact congrArg Value.bool e.symm | rfl)⟩
set_option maxHeartbeats 4000000 in
set_option maxRecDepth 100000 in
theorem c_cmpI {O : List Nat} (a : Int) (b : Int) (w : World) (hO : ∀ b ∈ O, b < w.heap.size) : CallsK Try.prog 104 [vI a, vI b] w (fun v _ => v = vI (cmpI a b)) :=  by
 have s0 : St w O w [] := St.start hO
 refine callsK_of 20 Try.func104 rfl rfl (of_decide_eq_true rfl) (fun F0 => ?_)
 refine cw_seq (?_)
 refine cw_region (by kernel_rfl) (wl_s (o_assign (vI (0 : Int)) rfl (wl_nil (thenQ_n (?_)))))
 refine cw_seq (?_)
 refine cw_region (by kernel_rfl) (wl_s (o_move (vI a) rfl (wl_s (o_callK (vs := [vI a]) enter_107 (c_isNaN (O := [] ++ O) a w s0.lt) rfl s0 fun v81 w82 s83 m84 k85 r86 => (?_)))))
 obtain rfl := r86
 refine wl_s (o_assign (Value.bool false) rfl (wl_nil (thenQ_n (?_))))
 refine cw_seq (?_)
 refine cw_region (by kernel_rfl) (wl_s (o_move (vI b) rfl (wl_s (o_callK (vs := [vI b]) enter_107 (c_isNaN (O := [] ++ O) b w82 s83.lt) rfl s83 fun v87 w88 s89 m90 k91 r92 => (?_)))))
 obtain rfl := r92
 refine wl_s (o_assign (Value.bool false) rfl (wl_nil (thenQ_n (?_))))
 refine cw_seq (?_)
 refine cw_seq (?_)
 refine cw_region (by kernel_rfl) (wl_s (o_move (Value.bool false) rfl (wl_nil (thenQ_n (?_)))))
 refine cw_cond false rfl rfl (fun h => by cases h) (fun _ => ?_)
 refine cw_skip (thenQ_n (?_))
 refine cw_seq (?_)
 refine cw_seq (?_)
 refine cw_region (by kernel_rfl) (wl_s (o_move (Value.bool false) rfl (wl_nil (thenQ_n (?_)))))
 refine cw_cond false rfl rfl (fun h => by cases h) (fun _ => ?_)
 refine cw_skip (thenQ_n (?_))
 refine cw_seq (?_)
 refine cw_seq (?_)
 refine cw_region (by kernel_rfl) (wl_s (o_move (vI a) rfl (wl_s (o_move (vI b) rfl (wl_s (o_lss .i64 a b rfl rfl (wl_nil (thenQ_n (?_)))))))))
 refine cw_cond (decide (a < b)) rfl rfl (fun hc93 => ?_) (fun hc93 => ?_)
 ·have hp94 : a < b := by first | simpa using hc93 | (have e := hc93; simp at e; omega)
  refine cw_seq (?_)
  refine cw_region (by kernel_rfl) (wl_s (o_assign (vI (-1 : Int)) rfl (wl_nil (thenQ_n (?_)))))
  refine cw_ret (thenQ_r (end_r rfl (res1 rfl rfl rfl) (?_)))
  have e : (cmpI a b) = (-1 : Int) := by first | (unfold cmpI; ((repeat (first | (refine (if_pos ?_).trans ?_; solve | omega | assumption | (simp only [dbs]; first | done | (repeat (first | omega | assumption | (right; first | omega | assumption | (constructor <;> first | omega | assumption)) | left))) | (rw [Bool.not_eq_true]; simp only [dbs]; first | done | omega | assumption | ((repeat' apply And.intro) <;> first | omega | assumption)) | (simp only [*, dbs]; done)) | (refine (if_neg ?_).trans ?_; solve | omega | assumption | (simp only [dbs]; first | done | (repeat (first | omega | assumption | (right; first | omega | assumption | (constructor <;> first | omega | assumption)) | left))) | (rw [Bool.not_eq_true]; simp only [dbs]; first | done | omega | assumption | ((repeat' apply And.intro) <;> first | omega | assumption)) | (simp only [*, dbs]; done)))); rfl)) | (unfold cmpI; split <;> first | omega | (split <;> omega))
  exact ⟨_, rfl, s89.keep, by rw [e]; first | done | exact rfl⟩
 ·have hp95 : b ≤ a := by first | simpa using hc93 | (have e := hc93; simp at e; omega)
  refine cw_skip (thenQ_n (?_))
  refine cw_seq (?_)
  refine cw_seq (?_)
  refine cw_region (by kernel_rfl) (wl_s (o_move (vI a) rfl (wl_s (o_move (vI b) rfl (wl_s (o_gtr .i64 a b rfl rfl (wl_nil (thenQ_n (?_)))))))))
  refine cw_cond (decide (b < a)) rfl rfl (fun hc96 => ?_) (fun hc96 => ?_)
  ·have hp97 : b < a := by first | simpa using hc96 | (have e := hc96; simp at e; omega)
   refine cw_seq (?_)
   refine cw_region (by kernel_rfl) (wl_s (o_assign (vI (1 : Int)) rfl (wl_nil (thenQ_n (?_)))))
   refine cw_ret (thenQ_r (end_r rfl (res1 rfl rfl rfl) (?_)))
   have e : (cmpI a b) = (1 : Int) := by first | (unfold cmpI; ((repeat (first | (refine (if_pos ?_).trans ?_; solve | omega | assumption | (simp only [dbs]; first | done | (repeat (first | omega | assumption | (right; first | omega | assumption | (constructor <;> first | omega | assumption)) | left))) | (rw [Bool.not_eq_true]; simp only [dbs]; first | done | omega | assumption | ((repeat' apply And.intro) <;> first | omega | assumption)) | (simp only [*, dbs]; done)) | (refine (if_neg ?_).trans ?_; solve | omega | assumption | (simp only [dbs]; first | done | (repeat (first | omega | assumption | (right; first | omega | assumption | (constructor <;> first | omega | assumption)) | left))) | (rw [Bool.not_eq_true]; simp only [dbs]; first | done | omega | assumption | ((repeat' apply And.intro) <;> first | omega | assumption)) | (simp only [*, dbs]; done)))); rfl)) | (unfold cmpI; split <;> first | omega | (split <;> omega))
   exact ⟨_, rfl, s89.keep, by rw [e]; first | done | exact rfl⟩
  ·have hp98 : a ≤ b := by first | simpa using hc96 | (have e := hc96; simp at e; omega)
   refine cw_skip (thenQ_n (?_))
   refine cw_seq (?_)
   refine cw_region (by kernel_rfl) (wl_s (o_assign (vI (0 : Int)) rfl (wl_nil (thenQ_n (?_)))))
   refine cw_ret (end_r rfl (res1 rfl rfl rfl) (?_))
   have e : (cmpI a b) = (0 : Int) := by first | (unfold cmpI; ((repeat (first | (refine (if_pos ?_).trans ?_; solve | omega | assumption | (simp only [dbs]; first | done | (repeat (first | omega | assumption | (right; first | omega | assumption | (constructor <;> first | omega | assumption)) | left))) | (rw [Bool.not_eq_true]; simp only [dbs]; first | done | omega | assumption | ((repeat' apply And.intro) <;> first | omega | assumption)) | (simp only [*, dbs]; done)) | (refine (if_neg ?_).trans ?_; solve | omega | assumption | (simp only [dbs]; first | done | (repeat (first | omega | assumption | (right; first | omega | assumption | (constructor <;> first | omega | assumption)) | left))) | (rw [Bool.not_eq_true]; simp only [dbs]; first | done | omega | assumption | ((repeat' apply And.intro) <;> first | omega | assumption)) | (simp only [*, dbs]; done)))); rfl)) | (unfold cmpI; split <;> first | omega | (split <;> omega))
   exact ⟨_, rfl, s89.keep, by rw [e]; first | done | exact rfl⟩
set_option maxHeartbeats 4000000 in
set_option maxRecDepth 100000 in
theorem c_key0 {O : List Nat} (o_cs : List Value) (o : DeviceOp) (w : World) (h_o : Enc.devop.rd w O o_cs o) (hO : ∀ b ∈ O, b < w.heap.size) : CallsK Try.prog 91 [.agg o_cs.toArray] w (fun v _ => v = vI (keyM 0 o)) :=  by
 obtain rfl := h_o
 have s0 : St w O w [] := St.start hO
 refine callsK_of 5 Try.func91 rfl rfl (of_decide_eq_true rfl) (fun F0 => ?_)
 refine cw_seq (?_)
 refine cw_region (by kernel_rfl) (wl_s (o_boxR (E := Enc.devop) (Value.agg #[vI o.device, vI o.no, vI o.kind, vI o.copy, vI o.to, vI o.token]) ([vI o.device, vI o.no, vI o.kind, vI o.copy, vI o.to, vI o.token]) o rfl rfl rfl s0 fun a99 w100 s101 m102 k103 hp104 => (?_)))
 refine wl_s (o_assign (vI (0 : Int)) rfl (wl_nil (thenQ_n (?_))))
 refine cw_seq (?_)
 refine cw_region (by kernel_rfl) (wl_s (o_fieldR 3 f_40_3 (o.copy) rfl hp104 (fun _ _ _ h => Enc_devop_f3 h) fun a105 hp106 => (wl_s (o_loadI Try.underlying3 rfl rfl hp106 (wl_s (o_assign (vI o.copy) rfl (wl_nil (thenQ_n (?_)))))))))
 refine cw_ret (end_r rfl (res1 rfl rfl rfl) (?_))
 have e : (keyM 0 o) = o.copy := rfl
 exact ⟨_, rfl, s101.keep, by rw [e]; first | done | exact rfl⟩
set_option maxHeartbeats 4000000 in
set_option maxRecDepth 100000 in
theorem c_key1 {O : List Nat} (o_cs : List Value) (o : DeviceOp) (w : World) (h_o : Enc.devop.rd w O o_cs o) (hO : ∀ b ∈ O, b < w.heap.size) : CallsK Try.prog 92 [.agg o_cs.toArray] w (fun v _ => v = vI (keyM 1 o)) :=  by
 obtain rfl := h_o
 have s0 : St w O w [] := St.start hO
 refine callsK_of 5 Try.func92 rfl rfl (of_decide_eq_true rfl) (fun F0 => ?_)
 refine cw_seq (?_)
 refine cw_region (by kernel_rfl) (wl_s (o_boxR (E := Enc.devop) (Value.agg #[vI o.device, vI o.no, vI o.kind, vI o.copy, vI o.to, vI o.token]) ([vI o.device, vI o.no, vI o.kind, vI o.copy, vI o.to, vI o.token]) o rfl rfl rfl s0 fun a107 w108 s109 m110 k111 hp112 => (?_)))
 refine wl_s (o_assign (vI (0 : Int)) rfl (wl_nil (thenQ_n (?_))))
 refine cw_seq (?_)
 refine cw_region (by kernel_rfl) (wl_s (o_fieldR 5 f_40_5 (o.token) rfl hp112 (fun _ _ _ h => Enc_devop_f5 h) fun a113 hp114 => (wl_s (o_loadI Try.underlying3 rfl rfl hp114 (wl_s (o_assign (vI o.token) rfl (wl_nil (thenQ_n (?_)))))))))
 refine cw_ret (end_r rfl (res1 rfl rfl rfl) (?_))
 have e : (keyM 1 o) = o.token := rfl
 exact ⟨_, rfl, s109.keep, by rw [e]; first | done | exact rfl⟩
set_option maxHeartbeats 4000000 in
set_option maxRecDepth 100000 in
theorem c_key2 {O : List Nat} (o_cs : List Value) (o : DeviceOp) (w : World) (h_o : Enc.devop.rd w O o_cs o) (hO : ∀ b ∈ O, b < w.heap.size) : CallsK Try.prog 93 [.agg o_cs.toArray] w (fun v _ => v = vI (keyM 2 o)) :=  by
 obtain rfl := h_o
 have s0 : St w O w [] := St.start hO
 refine callsK_of 5 Try.func93 rfl rfl (of_decide_eq_true rfl) (fun F0 => ?_)
 refine cw_seq (?_)
 refine cw_region (by kernel_rfl) (wl_s (o_boxR (E := Enc.devop) (Value.agg #[vI o.device, vI o.no, vI o.kind, vI o.copy, vI o.to, vI o.token]) ([vI o.device, vI o.no, vI o.kind, vI o.copy, vI o.to, vI o.token]) o rfl rfl rfl s0 fun a115 w116 s117 m118 k119 hp120 => (?_)))
 refine wl_s (o_assign (vI (0 : Int)) rfl (wl_nil (thenQ_n (?_))))
 refine cw_seq (?_)
 refine cw_region (by kernel_rfl) (wl_s (o_fieldR 0 f_40_0 (o.device) rfl hp120 (fun _ _ _ h => Enc_devop_f0 h) fun a121 hp122 => (wl_s (o_loadI Try.underlying3 rfl rfl hp122 (wl_s (o_assign (vI o.device) rfl (wl_nil (thenQ_n (?_)))))))))
 refine cw_ret (end_r rfl (res1 rfl rfl rfl) (?_))
 have e : (keyM 2 o) = o.device := rfl
 exact ⟨_, rfl, s117.keep, by rw [e]; first | done | exact rfl⟩
set_option maxHeartbeats 4000000 in
set_option maxRecDepth 100000 in
theorem c_key3 {O : List Nat} (o_cs : List Value) (o : DeviceOp) (w : World) (h_o : Enc.devop.rd w O o_cs o) (hO : ∀ b ∈ O, b < w.heap.size) : CallsK Try.prog 94 [.agg o_cs.toArray] w (fun v _ => v = vI (keyM 3 o)) :=  by
 obtain rfl := h_o
 have s0 : St w O w [] := St.start hO
 refine callsK_of 5 Try.func94 rfl rfl (of_decide_eq_true rfl) (fun F0 => ?_)
 refine cw_seq (?_)
 refine cw_region (by kernel_rfl) (wl_s (o_boxR (E := Enc.devop) (Value.agg #[vI o.device, vI o.no, vI o.kind, vI o.copy, vI o.to, vI o.token]) ([vI o.device, vI o.no, vI o.kind, vI o.copy, vI o.to, vI o.token]) o rfl rfl rfl s0 fun a123 w124 s125 m126 k127 hp128 => (?_)))
 refine wl_s (o_assign (vI (0 : Int)) rfl (wl_nil (thenQ_n (?_))))
 refine cw_seq (?_)
 refine cw_region (by kernel_rfl) (wl_s (o_fieldR 1 f_40_1 (o.no) rfl hp128 (fun _ _ _ h => Enc_devop_f1 h) fun a129 hp130 => (wl_s (o_loadI Try.underlying3 rfl rfl hp130 (wl_s (o_assign (vI o.no) rfl (wl_nil (thenQ_n (?_)))))))))
 refine cw_ret (end_r rfl (res1 rfl rfl rfl) (?_))
 have e : (keyM 3 o) = o.no := rfl
 exact ⟨_, rfl, s125.keep, by rw [e]; first | done | exact rfl⟩
set_option maxHeartbeats 4000000 in
set_option maxRecDepth 100000 in
theorem c_key4 {O : List Nat} (o_cs : List Value) (o : DeviceOp) (w : World) (h_o : Enc.devop.rd w O o_cs o) (hO : ∀ b ∈ O, b < w.heap.size) : CallsK Try.prog 95 [.agg o_cs.toArray] w (fun v _ => v = vI (keyM 4 o)) :=  by
 obtain rfl := h_o
 have s0 : St w O w [] := St.start hO
 refine callsK_of 5 Try.func95 rfl rfl (of_decide_eq_true rfl) (fun F0 => ?_)
 refine cw_seq (?_)
 refine cw_region (by kernel_rfl) (wl_s (o_boxR (E := Enc.devop) (Value.agg #[vI o.device, vI o.no, vI o.kind, vI o.copy, vI o.to, vI o.token]) ([vI o.device, vI o.no, vI o.kind, vI o.copy, vI o.to, vI o.token]) o rfl rfl rfl s0 fun a131 w132 s133 m134 k135 hp136 => (?_)))
 refine wl_s (o_assign (vI (0 : Int)) rfl (wl_nil (thenQ_n (?_))))
 refine cw_seq (?_)
 refine cw_region (by kernel_rfl) (wl_s (o_fieldR 2 f_40_2 (o.kind) rfl hp136 (fun _ _ _ h => Enc_devop_f2 h) fun a137 hp138 => (wl_s (o_loadI Try.underlying3 rfl rfl hp138 (wl_s (o_assign (vI o.kind) rfl (wl_nil (thenQ_n (?_)))))))))
 refine cw_ret (end_r rfl (res1 rfl rfl rfl) (?_))
 have e : (keyM 4 o) = o.kind := rfl
 exact ⟨_, rfl, s133.keep, by rw [e]; first | done | exact rfl⟩
set_option maxHeartbeats 4000000 in
set_option maxRecDepth 100000 in
theorem c_key5 {O : List Nat} (o_cs : List Value) (o : DeviceOp) (w : World) (h_o : Enc.devop.rd w O o_cs o) (hO : ∀ b ∈ O, b < w.heap.size) : CallsK Try.prog 96 [.agg o_cs.toArray] w (fun v _ => v = vI (keyM 5 o)) :=  by
 obtain rfl := h_o
 have s0 : St w O w [] := St.start hO
 refine callsK_of 5 Try.func96 rfl rfl (of_decide_eq_true rfl) (fun F0 => ?_)
 refine cw_seq (?_)
 refine cw_region (by kernel_rfl) (wl_s (o_boxR (E := Enc.devop) (Value.agg #[vI o.device, vI o.no, vI o.kind, vI o.copy, vI o.to, vI o.token]) ([vI o.device, vI o.no, vI o.kind, vI o.copy, vI o.to, vI o.token]) o rfl rfl rfl s0 fun a139 w140 s141 m142 k143 hp144 => (?_)))
 refine wl_s (o_assign (vI (0 : Int)) rfl (wl_nil (thenQ_n (?_))))
 refine cw_seq (?_)
 refine cw_region (by kernel_rfl) (wl_s (o_fieldR 4 f_40_4 (o.to) rfl hp144 (fun _ _ _ h => Enc_devop_f4 h) fun a145 hp146 => (wl_s (o_loadI Try.underlying3 rfl rfl hp146 (wl_s (o_assign (vI o.to) rfl (wl_nil (thenQ_n (?_)))))))))
 refine cw_ret (end_r rfl (res1 rfl rfl rfl) (?_))
 have e : (keyM 5 o) = o.to := rfl
 exact ⟨_, rfl, s141.keep, by rw [e]; first | done | exact rfl⟩
def Enc.key : Enc Nat where
  size := 1
  rd := fun w O cs x => cs = [.func (.func (91 + x)) #[] #[]]
  len := fun h => by subst h; rfl
  one := fun h u hu => by subst h; simp at hu; subst hu; rfl
  mv := fun h _ => h
  sub := fun h _ => h
theorem enter_key {x : Nat} (hx : x < 6) (xs : Array Value) (w : World) : (callFunc (91 + x) xs).run Try.prog w = .ok (.enter (91 + x) xs) w := by
  match x, hx with
  | 0, _ => exact enter_91 xs w
  | 1, _ => exact enter_92 xs w
  | 2, _ => exact enter_93 xs w
  | 3, _ => exact enter_94 xs w
  | 4, _ => exact enter_95 xs w
  | 5, _ => exact enter_96 xs w
theorem c_key {O : List Nat} (x : Nat) (hx : x < 6) (cs : List Value) (o : DeviceOp) (w : World) (h : Enc.devop.rd w O cs o) (hO : ∀ b ∈ O, b < w.heap.size) : CallsK Try.prog (91 + x) [.agg cs.toArray] w (fun v _ => v = vI (keyM x o)) := by
  match x, hx with
  | 0, _ => exact c_key0 cs o w h hO
  | 1, _ => exact c_key1 cs o w h hO
  | 2, _ => exact c_key2 cs o w h hO
  | 3, _ => exact c_key3 cs o w h hO
  | 4, _ => exact c_key4 cs o w h hO
  | 5, _ => exact c_key5 cs o w h hO
set_option maxHeartbeats 4000000 in
set_option maxRecDepth 100000 in
theorem c_chain {O : List Nat} (a_cs : List Value) (a : DeviceOp) (b_cs : List Value) (b : DeviceOp) (ns_v : Value) (ns : List Nat) (w : World) (h_a : Enc.devop.rd w O a_cs a) (h_b : Enc.devop.rd w O b_cs b) (h_ns : RdL Enc.key w O ns_v ns) (hpre0 : ∀ k, k < ns.length → ns[k]! < 6) (hO : ∀ b ∈ O, b < w.heap.size) : CallsK Try.prog 90 [.agg a_cs.toArray, .agg b_cs.toArray, ns_v] w (fun v _ => v = vI (chainM a b ns)) :=  by
 obtain rfl := h_a
 obtain rfl := h_b
 have lim_ns := h_ns.len_le
 have h_ns : RdL Enc.key w ([] ++ O) ns_v ns := h_ns
 have s0 : St w O w [] := St.start hO
 refine callsK_of 27 Try.func90 rfl rfl (of_decide_eq_true rfl) (fun F0 => ?_)
 refine cw_seq (?_)
 refine cw_region (by kernel_rfl) (wl_s (o_boxR (E := Enc.devop) (Value.agg #[vI a.device, vI a.no, vI a.kind, vI a.copy, vI a.to, vI a.token]) ([vI a.device, vI a.no, vI a.kind, vI a.copy, vI a.to, vI a.token]) a rfl rfl rfl s0 fun a147 w148 s149 m150 k151 hp152 => (?_)))
 have h_ns := h_ns.mv m150
 refine wl_s (o_boxR (E := Enc.devop) (Value.agg #[vI b.device, vI b.no, vI b.kind, vI b.copy, vI b.to, vI b.token]) ([vI b.device, vI b.no, vI b.kind, vI b.copy, vI b.to, vI b.token]) b rfl rfl rfl s149 fun a153 w154 s155 m156 k157 hp158 => (?_))
 have h_ns := h_ns.mv m156
 have hp152 := hp152.mv m156
 refine wl_s (o_assign (vI (0 : Int)) rfl (wl_nil (thenQ_n (?_))))
 refine cw_seq (?_)
 refine cw_seq (?_)
 refine cw_region (by kernel_rfl) (wl_s (o_move (ns_v) rfl (wl_s (o_lenR Try.underlying128 rfl h_ns (wl_s (o_move (vI (0 : Int)) rfl (wl_nil (thenQ_n (?_)))))))))
 refine cw_block (?_)
 refine cw_loop (fun mI FI wI => ∃ (k : Nat) (B : List Nat), k ≤ ns.length ∧ chainM a b ns = scan (fun k => if cmpI (keyM ns[k]! a) (keyM ns[k]! b) != 0 then some (cmpI (keyM ns[k]! a) (keyM ns[k]! b)) else none) 0 k (ns.length - k) ∧ mI = ns.length - k ∧ (∃ F1, FI = upds F1 [(3, Value.pointer (some a147)), (4, Value.pointer (some a153)), (10, ns_v), (11, vI (ns.length : Int)), (12, vI ((k : Nat) : Int)), (27, undef)]) ∧ St w O wI B ∧ PT Enc.devop wI (B ++ O) (.pointer (some a147)) (a) ∧ PT Enc.devop wI (B ++ O) (.pointer (some a153)) (b) ∧ RdL Enc.key wI (B ++ O) (ns_v) (ns)) (ns.length - (0)) ?_ ?_
 ·exact ⟨(0), [], (by first | omega | (simp; done) | (simp; omega) | simp_all), rfl, rfl, ⟨_, upds_self _ ⟨rfl, rfl, rfl, rfl, (by first | rfl | exact congrArg (Value.int _) (by first | omega | (simp))), rfl, trivial⟩⟩, s155, hp152, hp158, h_ns⟩
 ·intro ml0 F wl0 hI
  clear hp152 hp158 h_ns
  obtain ⟨k, Bl0, hr0_0, hr0_1, hm0, ⟨Fl0, rfl⟩, sl0, hp152, hp158, h_ns⟩ := hI
  refine cw_seq (?_)
  refine cw_region (by kernel_rfl) (wl_s (o_lss .i64 ((k : Nat) : Int) (ns.length : Int) rfl rfl (wl_nil (thenQ_n (?_)))))
  refine cw_seq (?_)
  refine cw_cond (decide (((k : Nat) : Int) < (ns.length : Int))) rfl rfl (fun hc159 => ?_) (fun hc159 => ?_)
  ·have hp160 : ((k : Nat) : Int) < (ns.length : Int) := by first | simpa using hc159 | (have e := hc159; simp at e; omega)
   refine cw_skip (thenQ_n (?_))
   refine cw_seq (?_)
   refine cw_block (?_)
   refine cw_seq (?_)
   refine cw_region (by kernel_rfl) (wl_s (o_idx Try.underlying128 s_121 .i64 ((k : Nat) : Int) k rfl rfl rfl h_ns (by omega) fun a161 hp162 => (wl_s (o_loadR Try.underlying121 rfl rfl rfl hp162 fun v_ hv_ => (?_)))))
   have hv_ : [v_] = [_] := hv_
   cases hv_
   refine wl_s (o_assign (Value.func (.func (91 + (ns[k]!))) #[] #[]) rfl (wl_nil (thenQ_n (?_))))
   refine cw_seq (?_)
   refine cw_draw' 5 _ _ [isV (Value.func (.func (91 + (ns[k]!))) #[] #[]), isV (Value.agg #[vI a.device, vI a.no, vI a.kind, vI a.copy, vI a.to, vI a.token]), isV (vI (keyM (ns[k]!) a)), isV (Value.func (.func (91 + (ns[k]!))) #[] #[]), isV (Value.agg #[vI b.device, vI b.no, vI b.kind, vI b.copy, vI b.to, vI b.token])] (by kernel_rfl) (by kernel_rfl) (by kernel_rfl) (by kernel_rfl) rfl rfl ⟨kI, kI, kI, kI, kI, trivial⟩ ⟨?_, ?_, ?_, ?_, ?_, trivial⟩ ?_
   ·intro F1 w1 k1 hf hd
    obtain ⟨F2, rfl⟩ := lit_of (F := F1) [(8, Value.func (.func (91 + (ns[k]!))) #[] #[])] ⟨hf 8 (by kernel_rfl), trivial⟩
    exact sp_plain rfl ((o_move (Value.func (.func (91 + (ns[k]!))) #[] #[]) rfl (⟨(Keep.refl _ _), rfl⟩)))
   ·intro F1 w1 k1 hf hd
    have k0 := (Keep.drew [] wl0).trans k1
    have m1 : Mv Bl0 wl0 Bl0 w1 := Mv.of_keep k0
    have hp152 := hp152.mv m1
    obtain ⟨F2, rfl⟩ := lit_of (F := F1) [(3, Value.pointer (some a147))] ⟨hf 3 (by kernel_rfl), trivial⟩
    refine sp_plain rfl ((o_loadS Try.underlying40 rfl s_40 rfl hp152 fun cs163 hs164 => (?_)))
    obtain rfl := hs164
    exact ⟨(Keep.refl _ _), rfl⟩
   ·intro F1 w1 k1 hf hd
    have k0 := (Keep.drew [] wl0).trans k1
    have s1 := sl0.call k0
    obtain ⟨F2, rfl⟩ := lit_of (F := F1) [(16, Value.func (.func (91 + (ns[k]!))) #[] #[]), (17, Value.agg #[vI a.device, vI a.no, vI a.kind, vI a.copy, vI a.to, vI a.token])] ⟨hd 0 16 (by kernel_rfl), hd 1 17 (by kernel_rfl), trivial⟩
    refine sp_plain rfl ((o_callvK (vs := [Value.agg #[vI a.device, vI a.no, vI a.kind, vI a.copy, vI a.to, vI a.token]]) [] [] [Value.agg #[vI a.device, vI a.no, vI a.kind, vI a.copy, vI a.to, vI a.token]] (enter_key (hpre0 _ (by omega))) rfl (c_key (O := Bl0 ++ O) (ns[k]!) (hpre0 _ (by omega)) [vI a.device, vI a.no, vI a.kind, vI a.copy, vI a.to, vI a.token] a w1 rfl s1.lt) rfl rfl s1 fun v165 w166 s167 m168 k169 r170 => (?_)))
    obtain rfl := r170
    exact ⟨k169, rfl⟩
   ·intro F1 w1 k1 hf hd
    obtain ⟨F2, rfl⟩ := lit_of (F := F1) [(8, Value.func (.func (91 + (ns[k]!))) #[] #[])] ⟨hf 8 (by kernel_rfl), trivial⟩
    exact sp_plain rfl ((o_move (Value.func (.func (91 + (ns[k]!))) #[] #[]) rfl (⟨(Keep.refl _ _), rfl⟩)))
   ·intro F1 w1 k1 hf hd
    have k0 := (Keep.drew [] wl0).trans k1
    have m1 : Mv Bl0 wl0 Bl0 w1 := Mv.of_keep k0
    have hp158 := hp158.mv m1
    obtain ⟨F2, rfl⟩ := lit_of (F := F1) [(4, Value.pointer (some a153))] ⟨hf 4 (by kernel_rfl), trivial⟩
    refine sp_plain rfl ((o_loadS Try.underlying40 rfl s_40 rfl hp158 fun cs171 hs172 => (?_)))
    obtain rfl := hs172
    exact ⟨(Keep.refl _ _), rfl⟩
   intro F174 w175 k173 hT176 hF177
   have s178 := sl0.call k173
   have m179 : Mv Bl0 wl0 Bl0 w175 := Mv.of_keep k173
   have hp152 := hp152.mv m179
   have hp158 := hp158.mv m179
   have h_ns := h_ns.mv m179
   obtain ⟨F2, rfl⟩ := lit_of (F := F174) [(3, Value.pointer (some a147)), (4, Value.pointer (some a153)), (10, ns_v), (11, vI (ns.length : Int)), (12, vI ((k : Nat) : Int)), (27, undef), (18, vI (keyM (ns[k]!) a)), (19, Value.func (.func (91 + (ns[k]!))) #[] #[]), (20, Value.agg #[vI b.device, vI b.no, vI b.kind, vI b.copy, vI b.to, vI b.token])] ⟨hF177 3 (by kernel_rfl), hF177 4 (by kernel_rfl), hF177 10 (by kernel_rfl), hF177 11 (by kernel_rfl), hF177 12 (by kernel_rfl), hF177 27 (by kernel_rfl), hT176 2 18 (by kernel_rfl) (by decide), hT176 3 19 (by kernel_rfl) (by decide), hT176 4 20 (by kernel_rfl) (by decide), trivial⟩
   clear hT176 hF177
   refine wl_s (o_callvK (vs := [Value.agg #[vI b.device, vI b.no, vI b.kind, vI b.copy, vI b.to, vI b.token]]) [] [] [Value.agg #[vI b.device, vI b.no, vI b.kind, vI b.copy, vI b.to, vI b.token]] (enter_key (hpre0 _ (by omega))) rfl (c_key (O := Bl0 ++ O) (ns[k]!) (hpre0 _ (by omega)) [vI b.device, vI b.no, vI b.kind, vI b.copy, vI b.to, vI b.token] b w175 rfl s178.lt) rfl rfl s178 fun v182 w183 s184 m185 k186 r187 => (?_))
   obtain rfl := r187
   have hp152 := hp152.mv m185
   have hp158 := hp158.mv m185
   have h_ns := h_ns.mv m185
   refine wl_s (o_callK (vs := [vI (keyM (ns[k]!) a), vI (keyM (ns[k]!) b)]) enter_104 (c_cmpI (O := Bl0 ++ O) (keyM (ns[k]!) a) (keyM (ns[k]!) b) w183 s184.lt) rfl s184 fun v188 w189 s190 m191 k192 r193 => (?_))
   obtain rfl := r193
   have hp152 := hp152.mv m191
   have hp158 := hp158.mv m191
   have h_ns := h_ns.mv m191
   refine wl_s (o_assign (vI (cmpI (keyM (ns[k]!) a) (keyM (ns[k]!) b))) rfl (wl_nil (thenQ_n (?_))))
   refine cw_seq (?_)
   refine cw_region (by kernel_rfl) (wl_s (o_move (vI (cmpI (keyM (ns[k]!) a) (keyM (ns[k]!) b))) rfl (wl_s (o_neq .i64 (cmpI (keyM (ns[k]!) a) (keyM (ns[k]!) b)) (0 : Int) rfl rfl (wl_nil (thenQ_n (?_)))))))
   refine cw_cond ((cmpI (keyM (ns[k]!) a) (keyM (ns[k]!) b)) != (0 : Int)) rfl rfl (fun hc194 => ?_) (fun hc194 => ?_)
   ·have hp195 : cmpI (keyM (ns[k]!) a) (keyM (ns[k]!) b) ≠ (0 : Int) := by first | simpa using hc194 | (have e := hc194; simp at e; omega)
    refine cw_seq (?_)
    refine cw_region (by kernel_rfl) (wl_s (o_move (vI (cmpI (keyM (ns[k]!) a) (keyM (ns[k]!) b))) rfl (wl_s (o_assign (vI (cmpI (keyM (ns[k]!) a) (keyM (ns[k]!) b))) rfl (wl_nil (thenQ_n (?_)))))))
    refine cw_ret (blockQ_r (thenQ_r (thenQ_r (blockQ_r (thenQ_r (end_r rfl (res1 rfl rfl rfl) (?_)))))))
    have e : (chainM a b ns) = (cmpI (keyM (ns[k]!) a) (keyM (ns[k]!) b)) := by first | (rw [hr0_1]; exact scan_some (by omega) (by ((repeat (first | (refine (if_pos ?_).trans ?_; solve | omega | assumption | (simp only [dbs]; first | done | (repeat (first | omega | assumption | (right; first | omega | assumption | (constructor <;> first | omega | assumption)) | left))) | (rw [Bool.not_eq_true]; simp only [dbs]; first | done | omega | assumption | ((repeat' apply And.intro) <;> first | omega | assumption)) | (simp only [*, dbs]; done)) | (refine (if_neg ?_).trans ?_; solve | omega | assumption | (simp only [dbs]; first | done | (repeat (first | omega | assumption | (right; first | omega | assumption | (constructor <;> first | omega | assumption)) | left))) | (rw [Bool.not_eq_true]; simp only [dbs]; first | done | omega | assumption | ((repeat' apply And.intro) <;> first | omega | assumption)) | (simp only [*, dbs]; done)))); rfl))) | (rw [hr0_1]; exact scan_end (by omega)) | (unfold chainM; ((repeat (first | (refine (if_pos ?_).trans ?_; solve | omega | assumption | (simp only [dbs]; first | done | (repeat (first | omega | assumption | (right; first | omega | assumption | (constructor <;> first | omega | assumption)) | left))) | (rw [Bool.not_eq_true]; simp only [dbs]; first | done | omega | assumption | ((repeat' apply And.intro) <;> first | omega | assumption)) | (simp only [*, dbs]; done)) | (refine (if_neg ?_).trans ?_; solve | omega | assumption | (simp only [dbs]; first | done | (repeat (first | omega | assumption | (right; first | omega | assumption | (constructor <;> first | omega | assumption)) | left))) | (rw [Bool.not_eq_true]; simp only [dbs]; first | done | omega | assumption | ((repeat' apply And.intro) <;> first | omega | assumption)) | (simp only [*, dbs]; done)))); rfl))
    exact ⟨_, rfl, s190.keep, by rw [e]; first | done | exact rfl⟩
   ·have hp196 : cmpI (keyM (ns[k]!) a) (keyM (ns[k]!) b) = (0 : Int) := by first | simpa using hc194 | (have e := hc194; simp at e; omega)
    refine cw_skip (blockQ_n (thenQ_n (?_)))
    refine cw_region (by kernel_rfl) (wl_s (o_add .i64 ((k : Nat) : Int) (1 : Int) (((k + 1 : Nat) : Int)) rfl rfl (w64 (by omega) (by omega)) (wl_s (o_move (vI ((k + 1 : Nat) : Int)) rfl (wl_nil (thenQ_n (?_)))))))
    exact ⟨_, (by omega), (k + 1), Bl0, (by first | omega | (simp; done) | (simp; omega) | simp_all), (hr0_1.trans (scan_none (by omega) (by ((repeat (first | (refine (if_pos ?_).trans ?_; solve | omega | assumption | (simp only [dbs]; first | done | (repeat (first | omega | assumption | (right; first | omega | assumption | (constructor <;> first | omega | assumption)) | left))) | (rw [Bool.not_eq_true]; simp only [dbs]; first | done | omega | assumption | ((repeat' apply And.intro) <;> first | omega | assumption)) | (simp only [*, dbs]; done)) | (refine (if_neg ?_).trans ?_; solve | omega | assumption | (simp only [dbs]; first | done | (repeat (first | omega | assumption | (right; first | omega | assumption | (constructor <;> first | omega | assumption)) | left))) | (rw [Bool.not_eq_true]; simp only [dbs]; first | done | omega | assumption | ((repeat' apply And.intro) <;> first | omega | assumption)) | (simp only [*, dbs]; done)))); rfl)))), rfl, ⟨_, upds_self _ ⟨rfl, rfl, rfl, rfl, (by first | rfl | exact congrArg (Value.int _) (by first | omega | (simp))), rfl, trivial⟩⟩, s190, hp152, hp158, h_ns⟩
  ·have hp197 : (ns.length : Int) ≤ ((k : Nat) : Int) := by first | simpa using hc159 | (have e := hc159; simp at e; omega)
   refine cw_exit (thenQ_x (thenQ_x (blockQ_x (thenQ_n (?_)))))
   refine cw_seq (?_)
   refine cw_region (by kernel_rfl) (wl_s (o_assign (vI (0 : Int)) rfl (wl_nil (thenQ_n (?_)))))
   refine cw_ret (end_r rfl (res1 rfl rfl rfl) (?_))
   have e : (chainM a b ns) = (0 : Int) := by first | (rw [hr0_1]; exact scan_some (by omega) (by ((repeat (first | (refine (if_pos ?_).trans ?_; solve | omega | assumption | (simp only [dbs]; first | done | (repeat (first | omega | assumption | (right; first | omega | assumption | (constructor <;> first | omega | assumption)) | left))) | (rw [Bool.not_eq_true]; simp only [dbs]; first | done | omega | assumption | ((repeat' apply And.intro) <;> first | omega | assumption)) | (simp only [*, dbs]; done)) | (refine (if_neg ?_).trans ?_; solve | omega | assumption | (simp only [dbs]; first | done | (repeat (first | omega | assumption | (right; first | omega | assumption | (constructor <;> first | omega | assumption)) | left))) | (rw [Bool.not_eq_true]; simp only [dbs]; first | done | omega | assumption | ((repeat' apply And.intro) <;> first | omega | assumption)) | (simp only [*, dbs]; done)))); rfl))) | (rw [hr0_1]; exact scan_end (by omega)) | (unfold chainM; ((repeat (first | (refine (if_pos ?_).trans ?_; solve | omega | assumption | (simp only [dbs]; first | done | (repeat (first | omega | assumption | (right; first | omega | assumption | (constructor <;> first | omega | assumption)) | left))) | (rw [Bool.not_eq_true]; simp only [dbs]; first | done | omega | assumption | ((repeat' apply And.intro) <;> first | omega | assumption)) | (simp only [*, dbs]; done)) | (refine (if_neg ?_).trans ?_; solve | omega | assumption | (simp only [dbs]; first | done | (repeat (first | omega | assumption | (right; first | omega | assumption | (constructor <;> first | omega | assumption)) | left))) | (rw [Bool.not_eq_true]; simp only [dbs]; first | done | omega | assumption | ((repeat' apply And.intro) <;> first | omega | assumption)) | (simp only [*, dbs]; done)))); rfl))
   exact ⟨_, rfl, sl0.keep, by rw [e]; first | done | exact rfl⟩
set_option maxHeartbeats 4000000 in
set_option maxRecDepth 100000 in
theorem c_compare {O : List Nat} (a_cs : List Value) (a : DeviceOp) (b_cs : List Value) (b : DeviceOp) (w : World) (h_a : Enc.devop.rd w O a_cs a) (h_b : Enc.devop.rd w O b_cs b) (hO : ∀ b ∈ O, b < w.heap.size) : CallsK Try.prog 61 [.agg a_cs.toArray, .agg b_cs.toArray] w (fun v _ => v = vI (cmpM a b)) :=  by
 obtain rfl := h_a
 obtain rfl := h_b
 have s0 : St w O w [] := St.start hO
 refine callsK_of 9 Try.func61 rfl rfl (of_decide_eq_true rfl) (fun F0 => ?_)
 refine cw_seq (?_)
 refine cw_region (by kernel_rfl) (wl_s (o_boxR (E := Enc.devop) (Value.agg #[vI a.device, vI a.no, vI a.kind, vI a.copy, vI a.to, vI a.token]) ([vI a.device, vI a.no, vI a.kind, vI a.copy, vI a.to, vI a.token]) a rfl rfl rfl s0 fun a198 w199 s200 m201 k202 hp203 => (?_)))
 refine wl_s (o_boxR (E := Enc.devop) (Value.agg #[vI b.device, vI b.no, vI b.kind, vI b.copy, vI b.to, vI b.token]) ([vI b.device, vI b.no, vI b.kind, vI b.copy, vI b.to, vI b.token]) b rfl rfl rfl s200 fun a204 w205 s206 m207 k208 hp209 => (?_))
 have hp203 := hp203.mv m207
 refine wl_s (o_assign (vI (0 : Int)) rfl (wl_nil (thenQ_n (?_))))
 refine cw_seq (?_)
 refine cw_region (by kernel_rfl) (wl_s (o_loadS Try.underlying40 rfl s_40 rfl hp203 fun cs210 hs211 => (?_)))
 obtain rfl := hs211
 refine wl_s (o_loadS Try.underlying40 rfl s_40 rfl hp209 fun cs212 hs213 => (?_))
 obtain rfl := hs213
 refine wl_s (o_lit (E := Enc.key) (xs := [.func 91, .func 92, .func 93, .func 94, .func 95, .func 96]) Try.underlying128 s_121 z_121 (by decide) [Value.func (.func 91) #[] #[], Value.func (.func 92) #[] #[], Value.func (.func 93) #[] #[], Value.func (.func 94) #[] #[], Value.func (.func 95) #[] #[], Value.func (.func 96) #[] #[]] [[Value.func (.func 91) #[] #[]], [Value.func (.func 92) #[] #[]], [Value.func (.func 93) #[] #[]], [Value.func (.func 94) #[] #[]], [Value.func (.func 95) #[] #[]], [Value.func (.func 96) #[] #[]]] [0, 1, 2, 3, 4, 5] rfl rfl rfl (Parts.cons rfl rfl (Parts.cons rfl rfl (Parts.cons rfl rfl (Parts.cons rfl rfl (Parts.cons rfl rfl (Parts.cons rfl rfl (Parts.nil _ _ _))))))) (of_decide_eq_true rfl) s206 fun v218 w214 s215 m216 k217 hl219 => (?_))
 have := hl219.len_le
 refine wl_s (o_callK (vs := [Value.agg #[vI a.device, vI a.no, vI a.kind, vI a.copy, vI a.to, vI a.token], Value.agg #[vI b.device, vI b.no, vI b.kind, vI b.copy, vI b.to, vI b.token], v218]) enter_90 (c_chain (O := [] ++ O) [vI a.device, vI a.no, vI a.kind, vI a.copy, vI a.to, vI a.token] a [vI b.device, vI b.no, vI b.kind, vI b.copy, vI b.to, vI b.token] b v218 ([0, 1, 2, 3, 4, 5]) w214 rfl rfl hl219 (by decide) s215.lt) rfl s215 fun v220 w221 s222 m223 k224 r225 => (?_))
 obtain rfl := r225
 refine wl_s (o_assign (vI (chainM a b ([0, 1, 2, 3, 4, 5]))) rfl (wl_nil (thenQ_n (?_))))
 refine cw_ret (end_r rfl (res1 rfl rfl rfl) (?_))
 have e : (cmpM a b) = (chainM a b ([0, 1, 2, 3, 4, 5])) := rfl
 exact ⟨_, rfl, s222.keep, by rw [e]; first | done | exact rfl⟩
set_option maxHeartbeats 4000000 in
set_option maxRecDepth 100000 in
theorem c_numberOf {O : List Nat} (o_cs : List Value) (o : DeviceOp) (w : World) (h_o : Enc.devop.rd w O o_cs o) (hO : ∀ b ∈ O, b < w.heap.size) : CallsK Try.prog 59 [.agg o_cs.toArray] w (fun v w' => ∃ (x0 : List Value), v = .agg x0.toArray ∧ Enc.devno.rd w' (O) x0 (numM o)) :=  by
 obtain rfl := h_o
 have s0 : St w O w [] := St.start hO
 refine callsK_of 8 Try.func59 rfl rfl (of_decide_eq_true rfl) (fun F0 => ?_)
 refine cw_seq (?_)
 refine cw_region (by kernel_rfl) (wl_s (o_boxR (E := Enc.devop) (Value.agg #[vI o.device, vI o.no, vI o.kind, vI o.copy, vI o.to, vI o.token]) ([vI o.device, vI o.no, vI o.kind, vI o.copy, vI o.to, vI o.token]) o rfl rfl rfl s0 fun a226 w227 s228 m229 k230 hp231 => (?_)))
 refine wl_s (o_alloc [vI (0 : Int), vI (0 : Int)] z_90 rfl s228 fun b232 w233 e238 s234 m235 k236 bx237 => (?_))
 clear e238
 have hp231 := hp231.mv m235
 refine wl_nil (thenQ_n (?_))
 refine cw_seq (?_)
 refine cw_region (by kernel_rfl) (wl_s (o_fieldR 0 f_40_0 (o.device) rfl hp231 (fun _ _ _ h => Enc_devop_f0 h) fun a239 hp240 => (wl_s (o_loadI Try.underlying3 rfl rfl hp240 (wl_s (o_fieldR 1 f_40_1 (o.no) rfl hp231 (fun _ _ _ h => Enc_devop_f1 h) fun a241 hp242 => (wl_s (o_loadI Try.underlying3 rfl rfl hp242 (wl_s (o_build (l := [(0, .tmp 4), (1, .tmp 6)]) pl_90 z_90 rfl [(0, vI o.device, [vI o.device]), (1, vI o.no, [vI o.no])] [vI o.device, vI o.no] rfl ⟨_, rfl, rfl, (of_decide_eq_true rfl), ⟨_, rfl, rfl, (of_decide_eq_true rfl), rfl⟩⟩ (wl_n (o_store (vs := [vI o.device, vI o.no]) (.agg #[vI o.device, vI o.no]) rfl rfl rfl s_90 (fun u hu => by simp only [List.mem_cons, List.not_mem_nil, or_false] at hu; rcases hu with rfl | rfl <;> first | rfl) (by repeat (first | assumption | constructor)) bx237 (of_decide_eq_true rfl) s234 fun w243 s244 m245 k246 bx247 => (?_)))))))))))))
 refine wl_nil (thenQ_n (?_))
 refine cw_ret (end_r rfl (rescA (vs := [vI o.device, vI o.no]) rfl rfl Try.underlying90 rfl s_90 rfl bx247 rfl) (?_))
 have e : (numM o) = (⟨o.device, o.no⟩ : DevNo) := rfl
 exact ⟨_, rfl, s244.keep, by rw [e]; first | done | exact ⟨[vI o.device, vI o.no], rfl, Enc.out (B := (b232 :: [])) rfl⟩⟩
set_option maxHeartbeats 4000000 in
set_option maxRecDepth 100000 in
theorem c_numbered {O : List Nat} (l_v : Value) (l : List DeviceOp) (w : World) (h_l : RdL Enc.devop w O l_v l) (hO : ∀ b ∈ O, b < w.heap.size) : CallsK Try.prog 70 [l_v] w (fun v _ => v = .bool (numberedM l)) :=  by
 have lim_l := h_l.len_le
 have h_l : RdL Enc.devop w ([] ++ O) l_v l := h_l
 have s0 : St w O w [] := St.start hO
 refine callsK_of 21 Try.func70 rfl rfl (of_decide_eq_true rfl) (fun F0 => ?_)
 refine cw_seq (?_)
 refine cw_region (by kernel_rfl) (wl_s (o_assign (Value.bool false) rfl (wl_nil (thenQ_n (?_)))))
 refine cw_seq (?_)
 refine cw_region (by kernel_rfl) (wl_s (o_makeMapV encv_devno Value.bool s0 fun b248 w249 e254 s250 m251 k252 bx253 => (?_)))
 clear e254
 have h_l := h_l.mv m251
 refine wl_s (o_assign (Value.map (some b248)) rfl (wl_nil (thenQ_n (?_))))
 refine cw_seq (?_)
 refine cw_seq (?_)
 refine cw_region (by kernel_rfl) (wl_s (o_move (l_v) rfl (wl_s (o_lenR Try.underlying26 rfl h_l (wl_s (o_move (vI (0 : Int)) rfl (wl_nil (thenQ_n (?_)))))))))
 refine cw_block (?_)
 refine cw_loop (fun mI FI wI => ∃ (k : Nat) (B : List Nat), k ≤ l.length ∧ numberedM l = scan (fun k => if (seenM l k (numM l[k]!)).getD false then some false else none) true k (l.length - k) ∧ mI = l.length - k ∧ (∃ F1, FI = upds F1 [(3, Value.map (some b248)), (7, l_v), (8, vI (l.length : Int)), (9, vI ((k : Nat) : Int)), (21, undef)]) ∧ St w O wI B ∧ RdL Enc.devop wI (B ++ O) (l_v) (l) ∧ MapV encv_devno Value.bool wI b248 (seenM l k) ∧ b248 ∈ B) (l.length - (0)) ?_ ?_
 ·exact ⟨(0), (b248 :: []), (by first | omega | (simp; done) | (simp; omega) | simp_all), rfl, rfl, ⟨_, upds_self _ ⟨rfl, rfl, rfl, (by first | rfl | exact congrArg (Value.int _) (by first | omega | (simp))), rfl, trivial⟩⟩, s250, h_l, (by rw [show seenM l (0) = noM from rfl]; exact bx253), (by first | assumption | (repeat (first | exact List.mem_cons_self | assumption | apply List.mem_cons_of_mem)) | (apply_assumption; assumption))⟩
 ·intro ml0 F wl0 hI
  clear h_l
  obtain ⟨k, Bl0, hr0_0, hr0_1, hm0, ⟨Fl0, rfl⟩, sl0, h_l, hbx_0_b248, hin_b248⟩ := hI
  refine cw_seq (?_)
  refine cw_region (by kernel_rfl) (wl_s (o_lss .i64 ((k : Nat) : Int) (l.length : Int) rfl rfl (wl_nil (thenQ_n (?_)))))
  refine cw_seq (?_)
  refine cw_cond (decide (((k : Nat) : Int) < (l.length : Int))) rfl rfl (fun hc255 => ?_) (fun hc255 => ?_)
  ·have hp256 : ((k : Nat) : Int) < (l.length : Int) := by first | simpa using hc255 | (have e := hc255; simp at e; omega)
   refine cw_skip (thenQ_n (?_))
   refine cw_seq (?_)
   refine cw_block (?_)
   refine cw_seq (?_)
   refine cw_region (by kernel_rfl) (wl_s (o_idx Try.underlying26 s_40 .i64 ((k : Nat) : Int) k rfl rfl rfl h_l (by omega) fun a257 hp258 => (wl_s (o_loadS Try.underlying40 rfl s_40 rfl hp258 fun cs259 hs260 => (?_)))))
   obtain rfl := hs260
   refine wl_s (o_alloc [vI (0 : Int), vI (0 : Int), vI (0 : Int), vI (0 : Int), vI (0 : Int), vI (0 : Int)] z_40 rfl sl0 fun b261 w262 e267 s263 m264 k265 bx266 => (?_))
   have ne268 : NeB b248 b261 := by show b248 ≠ b261; have := hbx_0_b248.lt; omega
   clear e267
   have h_l := h_l.mv m264
   have hbx_0_b248 := hbx_0_b248.keep k265 (by simp)
   refine wl_n (o_store (vs := [vI ((l[k]!).device), vI ((l[k]!).no), vI ((l[k]!).kind), vI ((l[k]!).copy), vI ((l[k]!).to), vI ((l[k]!).token)]) (.agg #[vI ((l[k]!).device), vI ((l[k]!).no), vI ((l[k]!).kind), vI ((l[k]!).copy), vI ((l[k]!).to), vI ((l[k]!).token)]) rfl rfl rfl s_40 (fun u hu => by simp only [List.mem_cons, List.not_mem_nil, or_false] at hu; rcases hu with rfl | rfl | rfl | rfl | rfl | rfl <;> first | rfl) (by repeat (first | assumption | constructor)) bx266 (of_decide_eq_true rfl) s263 fun w269 s270 m271 k272 bx273 => (?_))
   have h_l := h_l.mv m271
   have hbx_0_b248 := hbx_0_b248.keep k272 (nin1 ne268)
   refine wl_nil (thenQ_n (?_))
   refine cw_seq (?_)
   refine cw_seq (?_)
   refine cw_region (by kernel_rfl) (wl_s (o_move (Value.map (some b248)) rfl (wl_s (o_loadBxA (vs := [vI ((l[k]!).device), vI ((l[k]!).no), vI ((l[k]!).kind), vI ((l[k]!).copy), vI ((l[k]!).to), vI ((l[k]!).token)]) Try.underlying40 rfl s_40 rfl bx273 rfl (wl_s (o_callK (vs := [Value.agg #[vI ((l[k]!).device), vI ((l[k]!).no), vI ((l[k]!).kind), vI ((l[k]!).copy), vI ((l[k]!).to), vI ((l[k]!).token)]]) enter_59 (c_numberOf (O := (b261 :: Bl0) ++ O) [vI ((l[k]!).device), vI ((l[k]!).no), vI ((l[k]!).kind), vI ((l[k]!).copy), vI ((l[k]!).to), vI ((l[k]!).token)] (l[k]!) w269 rfl s270.lt) rfl s270 fun v274 w275 s276 m277 k278 r279 => (?_)))))))
   obtain ⟨cs280, rfl, hs281⟩ := r279
   obtain rfl := hs281
   have h_l := h_l.mv m277
   have hbx_0_b248 := hbx_0_b248.keep k278 (by simp)
   have bx273 := bx273.keep k278 (by simp)
   refine wl_s (o_lookV1 (enc := encv_devno) (venc := Value.bool) (k := (numM (l[k]!))) (z0 := false) Try.underlying123 key_devno (by kernel_rfl) rfl rfl hbx_0_b248 (wl_nil (thenQ_n (?_))))
   refine cw_cond (((seenM l k) (numM (l[k]!))).getD false) rfl rfl (fun hc282 => ?_) (fun hc282 => ?_)
   ·have hp283 : (((seenM l k) (numM (l[k]!))).getD false) = true := by first | simpa using hc282 | (have e := hc282; simp at e; omega)
    refine cw_seq (?_)
    refine cw_region (by kernel_rfl) (wl_s (o_assign (Value.bool false) rfl (wl_nil (thenQ_n (?_)))))
    refine cw_ret (thenQ_r (blockQ_r (thenQ_r (thenQ_r (blockQ_r (thenQ_r (end_r rfl (res1 rfl rfl rfl) (?_))))))))
    have e : (numberedM l) = false := by first | (rw [hr0_1]; exact scan_some (by omega) (by ((repeat (first | (refine (if_pos ?_).trans ?_; solve | omega | assumption | (simp only [dbs]; first | done | (repeat (first | omega | assumption | (right; first | omega | assumption | (constructor <;> first | omega | assumption)) | left))) | (rw [Bool.not_eq_true]; simp only [dbs]; first | done | omega | assumption | ((repeat' apply And.intro) <;> first | omega | assumption)) | (simp only [*, dbs]; done)) | (refine (if_neg ?_).trans ?_; solve | omega | assumption | (simp only [dbs]; first | done | (repeat (first | omega | assumption | (right; first | omega | assumption | (constructor <;> first | omega | assumption)) | left))) | (rw [Bool.not_eq_true]; simp only [dbs]; first | done | omega | assumption | ((repeat' apply And.intro) <;> first | omega | assumption)) | (simp only [*, dbs]; done)))); rfl))) | (rw [hr0_1]; exact scan_end (by omega)) | (unfold numberedM; ((repeat (first | (refine (if_pos ?_).trans ?_; solve | omega | assumption | (simp only [dbs]; first | done | (repeat (first | omega | assumption | (right; first | omega | assumption | (constructor <;> first | omega | assumption)) | left))) | (rw [Bool.not_eq_true]; simp only [dbs]; first | done | omega | assumption | ((repeat' apply And.intro) <;> first | omega | assumption)) | (simp only [*, dbs]; done)) | (refine (if_neg ?_).trans ?_; solve | omega | assumption | (simp only [dbs]; first | done | (repeat (first | omega | assumption | (right; first | omega | assumption | (constructor <;> first | omega | assumption)) | left))) | (rw [Bool.not_eq_true]; simp only [dbs]; first | done | omega | assumption | ((repeat' apply And.intro) <;> first | omega | assumption)) | (simp only [*, dbs]; done)))); rfl))
    exact ⟨_, rfl, s276.keep, (by first | exact congrArg Value.bool e.symm | rfl)⟩
   ·have hp284 : (((seenM l k) (numM (l[k]!))).getD false) = false := by first | simpa using hc282 | (have e := hc282; simp at e; omega)
    refine cw_skip (thenQ_n (?_))
    refine cw_region (by kernel_rfl) (wl_s (o_move (Value.map (some b248)) rfl (wl_s (o_loadBxA (vs := [vI ((l[k]!).device), vI ((l[k]!).no), vI ((l[k]!).kind), vI ((l[k]!).copy), vI ((l[k]!).to), vI ((l[k]!).token)]) Try.underlying40 rfl s_40 rfl bx273 rfl (wl_s (o_callK (vs := [Value.agg #[vI ((l[k]!).device), vI ((l[k]!).no), vI ((l[k]!).kind), vI ((l[k]!).copy), vI ((l[k]!).to), vI ((l[k]!).token)]]) enter_59 (c_numberOf (O := (b261 :: Bl0) ++ O) [vI ((l[k]!).device), vI ((l[k]!).no), vI ((l[k]!).kind), vI ((l[k]!).copy), vI ((l[k]!).to), vI ((l[k]!).token)] (l[k]!) w275 rfl s276.lt) rfl s276 fun v285 w286 s287 m288 k289 r290 => (?_)))))))
    obtain ⟨cs291, rfl, hs292⟩ := r290
    obtain rfl := hs292
    have h_l := h_l.mv m288
    have hbx_0_b248 := hbx_0_b248.keep k289 (by simp)
    refine wl_n (o_updV (enc := encv_devno) (venc := Value.bool) (k := (numM (l[k]!))) (a := true) Try.underlying123 key_devno rfl rfl rfl hbx_0_b248 (by repeat (first | assumption | constructor)) s287 fun w293 s294 m295 k296 bx297 => (?_))
    have h_l := h_l.mv m295
    refine wl_nil (blockQ_n (thenQ_n (?_)))
    refine cw_region (by kernel_rfl) (wl_s (o_add .i64 ((k : Nat) : Int) (1 : Int) (((k + 1 : Nat) : Int)) rfl rfl (w64 (by omega) (by omega)) (wl_s (o_move (vI ((k + 1 : Nat) : Int)) rfl (wl_nil (thenQ_n (?_)))))))
    exact ⟨_, (by omega), (k + 1), (b261 :: Bl0), (by first | omega | (simp; done) | (simp; omega) | simp_all), (hr0_1.trans (scan_none (by omega) (by ((repeat (first | (refine (if_pos ?_).trans ?_; solve | omega | assumption | (simp only [dbs]; first | done | (repeat (first | omega | assumption | (right; first | omega | assumption | (constructor <;> first | omega | assumption)) | left))) | (rw [Bool.not_eq_true]; simp only [dbs]; first | done | omega | assumption | ((repeat' apply And.intro) <;> first | omega | assumption)) | (simp only [*, dbs]; done)) | (refine (if_neg ?_).trans ?_; solve | omega | assumption | (simp only [dbs]; first | done | (repeat (first | omega | assumption | (right; first | omega | assumption | (constructor <;> first | omega | assumption)) | left))) | (rw [Bool.not_eq_true]; simp only [dbs]; first | done | omega | assumption | ((repeat' apply And.intro) <;> first | omega | assumption)) | (simp only [*, dbs]; done)))); rfl)))), rfl, ⟨_, upds_self _ ⟨rfl, rfl, rfl, (by first | rfl | exact congrArg (Value.int _) (by first | omega | (simp))), rfl, trivial⟩⟩, s294, h_l, (by rw [show seenM l (k + 1) = upM (seenM l k) (numM (l[k]!)) true from rfl]; exact bx297), (by first | assumption | (repeat (first | exact List.mem_cons_self | assumption | apply List.mem_cons_of_mem)) | (apply_assumption; assumption))⟩
  ·have hp298 : (l.length : Int) ≤ ((k : Nat) : Int) := by first | simpa using hc255 | (have e := hc255; simp at e; omega)
   refine cw_exit (thenQ_x (thenQ_x (blockQ_x (thenQ_n (?_)))))
   refine cw_seq (?_)
   refine cw_region (by kernel_rfl) (wl_s (o_assign (Value.bool true) rfl (wl_nil (thenQ_n (?_)))))
   refine cw_ret (end_r rfl (res1 rfl rfl rfl) (?_))
   have e : (numberedM l) = true := by first | (rw [hr0_1]; exact scan_some (by omega) (by ((repeat (first | (refine (if_pos ?_).trans ?_; solve | omega | assumption | (simp only [dbs]; first | done | (repeat (first | omega | assumption | (right; first | omega | assumption | (constructor <;> first | omega | assumption)) | left))) | (rw [Bool.not_eq_true]; simp only [dbs]; first | done | omega | assumption | ((repeat' apply And.intro) <;> first | omega | assumption)) | (simp only [*, dbs]; done)) | (refine (if_neg ?_).trans ?_; solve | omega | assumption | (simp only [dbs]; first | done | (repeat (first | omega | assumption | (right; first | omega | assumption | (constructor <;> first | omega | assumption)) | left))) | (rw [Bool.not_eq_true]; simp only [dbs]; first | done | omega | assumption | ((repeat' apply And.intro) <;> first | omega | assumption)) | (simp only [*, dbs]; done)))); rfl))) | (rw [hr0_1]; exact scan_end (by omega)) | (unfold numberedM; ((repeat (first | (refine (if_pos ?_).trans ?_; solve | omega | assumption | (simp only [dbs]; first | done | (repeat (first | omega | assumption | (right; first | omega | assumption | (constructor <;> first | omega | assumption)) | left))) | (rw [Bool.not_eq_true]; simp only [dbs]; first | done | omega | assumption | ((repeat' apply And.intro) <;> first | omega | assumption)) | (simp only [*, dbs]; done)) | (refine (if_neg ?_).trans ?_; solve | omega | assumption | (simp only [dbs]; first | done | (repeat (first | omega | assumption | (right; first | omega | assumption | (constructor <;> first | omega | assumption)) | left))) | (rw [Bool.not_eq_true]; simp only [dbs]; first | done | omega | assumption | ((repeat' apply And.intro) <;> first | omega | assumption)) | (simp only [*, dbs]; done)))); rfl))
   exact ⟨_, rfl, sl0.keep, (by first | exact congrArg Value.bool e.symm | rfl)⟩

end Go.Proofs.Ytjpniibleelgiaa
