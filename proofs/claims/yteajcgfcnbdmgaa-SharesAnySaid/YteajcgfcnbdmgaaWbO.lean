/- Walks, printed by gen.py. -/
import Derived.Test.YteajcgfcnbdmgaaWbJ
import Derived.Test.YteajcgfcnbdmgaaMaY
import Derived.Test.YteajcgfcnbdmgaaWbL
import Derived.Test.YteajcgfcnbdmgaaFwW
set_option linter.unusedSimpArgs false
set_option linter.unusedVariables false
namespace Go.Proofs.Yteajcgfcnbdmgaa
open Go.Fw Go.RowKit

set_option maxHeartbeats 4000000 in
set_option maxRecDepth 100000 in
theorem c_SharesAny {O : List Nat} (secret_v : Value) (secret : List UInt8) (threshold : Int) (many : Int) (coins_v : Value) (coins : List UInt8) (ma : UInt8) (mb : UInt8) (w : World) (h_secret : RdL Enc.u8 w O secret_v secret) (h_coins : RdL Enc.u8 w O coins_v coins) (hO : ∀ b ∈ O, b < w.heap.size) : CallsK Try.prog 15 [secret_v, vI threshold, vI many, coins_v, vB ma, vB mb] w (fun v _ => v = .bool (true)) :=  by
 have lim_secret := h_secret.len_le
 have h_secret : RdL Enc.u8 w ([] ++ O) secret_v secret := h_secret
 have lim_coins := h_coins.len_le
 have h_coins : RdL Enc.u8 w ([] ++ O) coins_v coins := h_coins
 have s0 : St w O w [] := St.start hO
 refine callsK_of 119 Try.func15 rfl rfl (of_decide_eq_true rfl) (fun F0 => ?_)
 refine cw_seq (?_)
 refine cw_region (by kernel_rfl) (wl_s (o_assign (Value.bool false) rfl (wl_nil (thenQ_n (?_)))))
 refine cw_seq (?_)
 refine cw_seq (?_)
 refine cw_region (by kernel_rfl) (wl_s (o_callK (vs := []) enter_28 (c_sane8 (O := [] ++ O) w s0.lt) rfl s0 fun v5158 w5159 s5160 m5161 k5162 r5163 => (?_)))
 obtain rfl := r5163
 have h_secret := h_secret.mv m5161
 have h_coins := h_coins.mv m5161
 refine wl_s (o_not true rfl (wl_nil (thenQ_n (?_))))
 refine cw_cond false rfl rfl (fun h => by cases h) (fun _ => ?_)
 refine cw_skip (thenQ_n (?_))
 refine cw_seq (?_)
 refine cw_seq (?_)
 refine cw_region (by kernel_rfl) (wl_s (o_move (secret_v) rfl (wl_s (o_lenR Try.underlying28 rfl h_secret (wl_s (o_gtr .i64 (secret.length : Int) (20 : Int) rfl rfl (wl_s (o_move (Value.bool (decide ((20 : Int) < (secret.length : Int)))) rfl (?_)))))))))
 cases hb5164 : (decide ((20 : Int) < (secret.length : Int)))
 ·have hp5165 : (secret.length : Int) ≤ (20 : Int) := by first | simpa using hb5164 | (have e := hb5164; simp at e; omega)
  refine wl_t rfl (o_move (coins_v) rfl (wl_t rfl (o_lenR Try.underlying28 rfl h_coins (wl_t rfl (o_gtr .i64 (coins.length : Int) (200 : Int) rfl rfl (wl_s (o_pickF (Value.bool (decide ((200 : Int) < (coins.length : Int)))) rfl rfl (wl_nil (thenQ_n (?_))))))))))
  refine cw_cond (decide ((200 : Int) < (coins.length : Int))) rfl rfl (fun hc5166 => ?_) (fun hc5166 => ?_)
  ·have hp5167 : (200 : Int) < (coins.length : Int) := by first | simpa using hc5166 | (have e := hc5166; simp at e; omega)
   refine cw_seq (?_)
   refine cw_region (by kernel_rfl) (wl_s (o_assign (Value.bool true) rfl (wl_nil (thenQ_n (?_)))))
   refine cw_ret (thenQ_r (end_r rfl (res1 rfl rfl rfl) (?_)))
   exact ⟨_, rfl, s5160.keep, rfl⟩
  ·have hp5168 : (coins.length : Int) ≤ (200 : Int) := by first | simpa using hc5166 | (have e := hc5166; simp at e; omega)
   refine cw_skip (thenQ_n (?_))
   refine cw_seq (?_)
   refine cw_region (by kernel_rfl) (wl_s (o_move (secret_v) rfl (wl_s (o_move (vI threshold) rfl (wl_s (o_move (vI many) rfl (wl_s (o_move (coins_v) rfl (wl_s (o_callK (vs := [secret_v, vI (0 : Int), vI threshold, vI many, coins_v]) enter_30 (c_split (O := [] ++ O) secret_v secret (0 : Int) threshold many coins_v coins w5159 h_secret h_coins s5160.lt) rfl s5160 fun v5169 w5170 s5171 m5172 k5173 r5174 => (?_)))))))))))
   obtain ⟨x5175, rfl, hl5176⟩ := r5174
   have := hl5176.len_le
   refine wl_s (o_move (Value.tuple #[x5175, vI ((splitM secret (0 : Int) threshold many coins).2)]) rfl (wl_s (o_extract (x5175) rfl rfl (wl_s (o_extract (vI ((splitM secret (0 : Int) threshold many coins).2)) rfl rfl (wl_s (o_assign (x5175) rfl (wl_s (o_assign (vI ((splitM secret (0 : Int) threshold many coins).2)) rfl (wl_nil (thenQ_n (?_))))))))))))
   refine cw_seq (?_)
   refine cw_seq (?_)
   refine cw_region (by kernel_rfl) (wl_s (o_move (vI ((splitM secret (0 : Int) threshold many coins).2)) rfl (wl_s (o_neq .i64 ((splitM secret (0 : Int) threshold many coins).2) (0 : Int) rfl rfl (wl_nil (thenQ_n (?_)))))))
   refine cw_cond (((splitM secret (0 : Int) threshold many coins).2) != (0 : Int)) rfl rfl (fun hc5177 => ?_) (fun hc5177 => ?_)
   ·have hp5178 : (splitM secret (0 : Int) threshold many coins).2 ≠ (0 : Int) := by first | simpa using hc5177 | (have e := hc5177; simp at e; omega)
    refine cw_seq (?_)
    refine cw_region (by kernel_rfl) (wl_s (o_assign (Value.bool true) rfl (wl_nil (thenQ_n (?_)))))
    refine cw_ret (thenQ_r (end_r rfl (res1 rfl rfl rfl) (?_)))
    exact ⟨_, rfl, s5171.keep, rfl⟩
   ·have hp5179 : (splitM secret (0 : Int) threshold many coins).2 = (0 : Int) := by first | simpa using hc5177 | (have e := hc5177; simp at e; omega)
    have hS := spl_split hp5179
    have hS1 := hS.num.t1
    have hS8 := hS.num.m8
    have hSl := hS.len
    have hxl := someM_le (splitM secret (0 : Int) threshold many coins).1 ma (splitM secret (0 : Int) threshold many coins).1.length
    refine cw_skip (thenQ_n (?_))
    refine cw_seq (?_)
    refine cw_region (by kernel_rfl) (wl_s (o_move (x5175) rfl (wl_s (o_move (vB ma) rfl (wl_s (o_callK (vs := [x5175, vB ma]) enter_41 (c_some (O := [] ++ O) x5175 ((splitM secret (0 : Int) threshold many coins).1) ma w5170 hl5176 s5171.lt) rfl s5171 fun v5180 w5181 s5182 m5183 k5184 r5185 => (?_)))))))
    obtain ⟨_, rfl, hl5186⟩ := r5185
    have := hl5186.len_le
    have hl5176 := hl5176.mv m5183
    refine wl_s (o_move (x5175) rfl (wl_s (o_move (vB mb) rfl (wl_s (o_callK (vs := [x5175, vB mb]) enter_41 (c_some (O := [] ++ O) x5175 ((splitM secret (0 : Int) threshold many coins).1) mb w5181 hl5176 s5182.lt) rfl s5182 fun v5187 w5188 s5189 m5190 k5191 r5192 => (?_))))))
    obtain ⟨_, rfl, hl5193⟩ := r5192
    have := hl5193.len_le
    have hl5186 := hl5186.mv m5190
    refine wl_s (o_assign (v5180) rfl (wl_s (o_assign (v5187) rfl (wl_nil (thenQ_n (?_))))))
    refine cw_seq (?_)
    refine cw_seq (?_)
    refine cw_region (by kernel_rfl) (wl_s (o_move (v5180) rfl (wl_s (o_lenR Try.underlying38 rfl hl5186 (wl_s (o_move (vI threshold) rfl (wl_s (o_lss .i64 ((someM ((splitM secret (0 : Int) threshold many coins).1) ma ((splitM secret (0 : Int) threshold many coins).1).length).length : Int) threshold rfl rfl (wl_s (o_move (Value.bool (decide (((someM ((splitM secret (0 : Int) threshold many coins).1) ma ((splitM secret (0 : Int) threshold many coins).1).length).length : Int) < threshold))) rfl (?_)))))))))))
    cases hb5194 : (decide (((someM ((splitM secret (0 : Int) threshold many coins).1) ma ((splitM secret (0 : Int) threshold many coins).1).length).length : Int) < threshold))
    ·have hp5195 : threshold ≤ ((someM ((splitM secret (0 : Int) threshold many coins).1) ma ((splitM secret (0 : Int) threshold many coins).1).length).length : Int) := by first | simpa using hb5194 | (have e := hb5194; simp at e; omega)
     refine wl_t rfl (o_move (v5187) rfl (wl_t rfl (o_lenR Try.underlying38 rfl hl5193 (wl_t rfl (o_move (vI threshold) rfl (wl_t rfl (o_lss .i64 ((someM ((splitM secret (0 : Int) threshold many coins).1) mb ((splitM secret (0 : Int) threshold many coins).1).length).length : Int) threshold rfl rfl (wl_s (o_pickF (Value.bool (decide (((someM ((splitM secret (0 : Int) threshold many coins).1) mb ((splitM secret (0 : Int) threshold many coins).1).length).length : Int) < threshold))) rfl rfl (wl_nil (thenQ_n (?_))))))))))))
     refine cw_cond (decide (((someM ((splitM secret (0 : Int) threshold many coins).1) mb ((splitM secret (0 : Int) threshold many coins).1).length).length : Int) < threshold)) rfl rfl (fun hc5196 => ?_) (fun hc5196 => ?_)
     ·have hp5197 : ((someM ((splitM secret (0 : Int) threshold many coins).1) mb ((splitM secret (0 : Int) threshold many coins).1).length).length : Int) < threshold := by first | simpa using hc5196 | (have e := hc5196; simp at e; omega)
      refine cw_seq (?_)
      refine cw_region (by kernel_rfl) (wl_s (o_assign (Value.bool true) rfl (wl_nil (thenQ_n (?_)))))
      refine cw_ret (thenQ_r (end_r rfl (res1 rfl rfl rfl) (?_)))
      exact ⟨_, rfl, s5189.keep, rfl⟩
     ·have hp5198 : threshold ≤ ((someM ((splitM secret (0 : Int) threshold many coins).1) mb ((splitM secret (0 : Int) threshold many coins).1).length).length : Int) := by first | simpa using hc5196 | (have e := hc5196; simp at e; omega)
      refine cw_skip (thenQ_n (?_))
      refine cw_seq (?_)
      refine cw_region (by kernel_rfl) (wl_s (o_move (v5180) rfl (wl_s (o_callK (vs := [v5180]) enter_35 (c_join (O := [] ++ O) v5180 (someM ((splitM secret (0 : Int) threshold many coins).1) ma ((splitM secret (0 : Int) threshold many coins).1).length) w5188 hl5186 s5189.lt) rfl s5189 fun v5199 w5200 s5201 m5202 k5203 r5204 => (?_)))))
      obtain ⟨x5205, rfl, hl5206⟩ := r5204
      have := hl5206.len_le
      have hl5186 := hl5186.mv m5202
      have hl5193 := hl5193.mv m5202
      refine wl_s (o_move (Value.tuple #[x5205, vI ((joinM (someM ((splitM secret (0 : Int) threshold many coins).1) ma ((splitM secret (0 : Int) threshold many coins).1).length)).2)]) rfl (wl_s (o_extract (x5205) rfl rfl (wl_s (o_extract (vI ((joinM (someM ((splitM secret (0 : Int) threshold many coins).1) ma ((splitM secret (0 : Int) threshold many coins).1).length)).2)) rfl rfl (wl_s (o_assign (x5205) rfl (wl_s (o_assign (vI ((joinM (someM ((splitM secret (0 : Int) threshold many coins).1) ma ((splitM secret (0 : Int) threshold many coins).1).length)).2)) rfl (wl_nil (thenQ_n (?_))))))))))))
      refine cw_seq (?_)
      refine cw_region (by kernel_rfl) (wl_s (o_move (v5187) rfl (wl_s (o_callK (vs := [v5187]) enter_35 (c_join (O := [] ++ O) v5187 (someM ((splitM secret (0 : Int) threshold many coins).1) mb ((splitM secret (0 : Int) threshold many coins).1).length) w5200 hl5193 s5201.lt) rfl s5201 fun v5207 w5208 s5209 m5210 k5211 r5212 => (?_)))))
      obtain ⟨x5213, rfl, hl5214⟩ := r5212
      have := hl5214.len_le
      have hl5186 := hl5186.mv m5210
      have hl5206 := hl5206.mv m5210
      refine wl_s (o_move (Value.tuple #[x5213, vI ((joinM (someM ((splitM secret (0 : Int) threshold many coins).1) mb ((splitM secret (0 : Int) threshold many coins).1).length)).2)]) rfl (wl_s (o_extract (x5213) rfl rfl (wl_s (o_extract (vI ((joinM (someM ((splitM secret (0 : Int) threshold many coins).1) mb ((splitM secret (0 : Int) threshold many coins).1).length)).2)) rfl rfl (wl_s (o_assign (x5213) rfl (wl_s (o_assign (vI ((joinM (someM ((splitM secret (0 : Int) threshold many coins).1) mb ((splitM secret (0 : Int) threshold many coins).1).length)).2)) rfl (wl_nil (thenQ_n (?_))))))))))))
      refine cw_seq (?_)
      refine cw_drawC 10 _ _ [fun (vT : Value) (_ : World) => ∃ aT : Addr, vT = .slice (some aT) 0 0, fun (vT : Value) (_ : World) => RdL Enc.share w5208 ([] ++ O) vT (someM ((splitM secret (0 : Int) threshold many coins).1) ma ((splitM secret (0 : Int) threshold many coins).1).length), fun (vT : Value) (wT : World) => ∃ bT : Nat, vT.ownBlock = some bT ∧ w5208.heap.size ≤ bT ∧ bT < wT.heap.size ∧ Own Enc.share 53 w.heap.size ((bT :: ([])) ++ O) wT vT (someM ((splitM secret (0 : Int) threshold many coins).1) ma ((splitM secret (0 : Int) threshold many coins).1).length), fun (vT : Value) (_ : World) => RdL Enc.share w5208 ([] ++ O) vT (someM ((splitM secret (0 : Int) threshold many coins).1) ma ((splitM secret (0 : Int) threshold many coins).1).length), fun (vT : Value) (_ : World) => RdL Enc.share w5208 ([] ++ O) vT (someM ((splitM secret (0 : Int) threshold many coins).1) ma ((splitM secret (0 : Int) threshold many coins).1).length), isV (vI ((someM ((splitM secret (0 : Int) threshold many coins).1) ma ((splitM secret (0 : Int) threshold many coins).1).length).length : Int)), isV (vI (((someM (splitM secret (0 : Int) threshold many coins).1 ma (splitM secret (0 : Int) threshold many coins).1.length).length - 1 : Nat) : Int)), fun (vT : Value) (_ : World) => ∃ aT, vT = .pointer (some aT) ∧ PT Enc.share w5208 ([] ++ O) (.pointer (some aT)) ((someM ((splitM secret (0 : Int) threshold many coins).1) ma ((splitM secret (0 : Int) threshold many coins).1).length)[(someM (splitM secret (0 : Int) threshold many coins).1 ma (splitM secret (0 : Int) threshold many coins).1.length).length - 1]!), fun (vT : Value) (_ : World) => ∃ csT : List Value, vT = .agg csT.toArray ∧ Enc.share.rd w5208 ([] ++ O) csT ((someM ((splitM secret (0 : Int) threshold many coins).1) ma ((splitM secret (0 : Int) threshold many coins).1).length)[(someM (splitM secret (0 : Int) threshold many coins).1 ma (splitM secret (0 : Int) threshold many coins).1.length).length - 1]!), fun (vT : Value) (wT : World) => RdN Enc.share w5208 ([] ++ O) wT vT ([(someM ((splitM secret (0 : Int) threshold many coins).1) ma ((splitM secret (0 : Int) threshold many coins).1).length)[(someM (splitM secret (0 : Int) threshold many coins).1 ma (splitM secret (0 : Int) threshold many coins).1.length).length - 1]!])] (by kernel_rfl) (by kernel_rfl) (by kernel_rfl) (by kernel_rfl) rfl rfl ⟨fun _ _ _ h _ => h, fun _ _ _ h _ => h, fun _ _ _ ⟨b, e, h1, h2, h⟩ k => ⟨b, e, h1, Nat.lt_of_lt_of_le h2 k.size, h.mv (Mv.of_keep k) k (by simp)⟩, fun _ _ _ h _ => h, fun _ _ _ h _ => h, kI, kI, fun _ _ _ h _ => h, fun _ _ _ h _ => h, fun _ _ _ h k => h.keep k, trivial⟩ ⟨?_, ?_, ?_, ?_, ?_, ?_, ?_, ?_, ?_, ?_, trivial⟩ ?_
      ·intro F1 w1 k1 hf hd
       obtain ⟨F2, rfl⟩ := lit_of (F := F1) [] trivial
       refine sp_plain rfl ((o_emp Enc.share Try.underlying38 s_53 z_53 (by decide) rfl rfl fun a5221 w5215 k5218 => (?_)))
       exact ⟨k5218, ⟨_, rfl⟩⟩
      ·intro F1 w1 k1 hf hd
       obtain ⟨F2, rfl⟩ := lit_of (F := F1) [(15, v5180)] ⟨hf 15 (by kernel_rfl), trivial⟩
       exact sp_plain rfl ((o_move (v5180) rfl (⟨(Keep.refl _ _), hl5186⟩)))
      ·intro F1 w1 k1 hf hd
       have k0 := (Keep.drew [] w5208).trans k1
       have s1 := s5209.call k0
       obtain ⟨a5222, e5223⟩ : ∃ A : Addr, F1 72 = .slice (some A) 0 0 := hd 0 72 (by kernel_rfl)
       obtain ⟨v5224, e5226, hl5225⟩ : ∃ v, F1 73 = v ∧ RdL Enc.share w5208 ([] ++ O) v (someM ((splitM secret (0 : Int) threshold many coins).1) ma ((splitM secret (0 : Int) threshold many coins).1).length) := ⟨_, rfl, hd 1 73 (by kernel_rfl)⟩
       have := hl5225.len_le
       obtain ⟨F2, rfl⟩ := lit_of (F := F1) [(72, Value.slice (some a5222) 0 0), (73, v5224)] ⟨e5223, e5226, trivial⟩
       refine sp_plain rfl (?_)
       have hn5227 := hl5225.step k0
       refine (o_appendEmpO (E := Enc.share) (m := someM ((splitM secret (0 : Int) threshold many coins).1) ma ((splitM secret (0 : Int) threshold many coins).1).length) a5222 (by omega) Try.underlying38 i_53 rfl (by decide) rfl rfl hn5227 (fun _ hb => .inl hb) (by omega) (by simp only [maxLen]; omega) s1 fun v5235 b5228 w5231 e5229 hb5230 s5232 m5233 k5234 ho5236 => (?_))
       have lo5237 : w5208.heap.size ≤ b5228 := by have := k0.size; omega
       have hi5238 := (ho5236.lt b5228 hb5230).2
       exact ⟨k5234, ⟨_, hb5230, lo5237, hi5238, ho5236⟩⟩
      ·intro F1 w1 k1 hf hd
       obtain ⟨F2, rfl⟩ := lit_of (F := F1) [(15, v5180)] ⟨hf 15 (by kernel_rfl), trivial⟩
       exact sp_plain rfl ((o_move (v5180) rfl (⟨(Keep.refl _ _), hl5186⟩)))
      ·intro F1 w1 k1 hf hd
       obtain ⟨F2, rfl⟩ := lit_of (F := F1) [(15, v5180)] ⟨hf 15 (by kernel_rfl), trivial⟩
       exact sp_plain rfl ((o_move (v5180) rfl (⟨(Keep.refl _ _), hl5186⟩)))
      ·intro F1 w1 k1 hf hd
       obtain ⟨v5239, e5241, hl5240⟩ : ∃ v, F1 76 = v ∧ RdL Enc.share w5208 ([] ++ O) v (someM ((splitM secret (0 : Int) threshold many coins).1) ma ((splitM secret (0 : Int) threshold many coins).1).length) := ⟨_, rfl, hd 4 76 (by kernel_rfl)⟩
       have := hl5240.len_le
       obtain ⟨F2, rfl⟩ := lit_of (F := F1) [(76, v5239)] ⟨e5241, trivial⟩
       exact sp_plain rfl ((o_lenRU Try.underlying38 rfl hl5240 (⟨(Keep.refl _ _), rfl⟩)))
      ·intro F1 w1 k1 hf hd
       obtain ⟨F2, rfl⟩ := lit_of (F := F1) [(77, vI ((someM ((splitM secret (0 : Int) threshold many coins).1) ma ((splitM secret (0 : Int) threshold many coins).1).length).length : Int))] ⟨hd 5 77 (by kernel_rfl), trivial⟩
       exact sp_plain rfl ((o_sub .i64 ((someM ((splitM secret (0 : Int) threshold many coins).1) ma ((splitM secret (0 : Int) threshold many coins).1).length).length : Int) (1 : Int) ((((someM (splitM secret (0 : Int) threshold many coins).1 ma (splitM secret (0 : Int) threshold many coins).1.length).length - 1 : Nat) : Int)) rfl rfl (w64 (by omega) (by omega)) (⟨(Keep.refl _ _), rfl⟩)))
      ·intro F1 w1 k1 hf hd
       obtain ⟨v5242, e5244, hl5243⟩ : ∃ v, F1 75 = v ∧ RdL Enc.share w5208 ([] ++ O) v (someM ((splitM secret (0 : Int) threshold many coins).1) ma ((splitM secret (0 : Int) threshold many coins).1).length) := ⟨_, rfl, hd 3 75 (by kernel_rfl)⟩
       have := hl5243.len_le
       obtain ⟨F2, rfl⟩ := lit_of (F := F1) [(75, v5242), (78, vI (((someM (splitM secret (0 : Int) threshold many coins).1 ma (splitM secret (0 : Int) threshold many coins).1.length).length - 1 : Nat) : Int))] ⟨e5244, hd 6 78 (by kernel_rfl), trivial⟩
       exact sp_plain rfl ((o_idxU Try.underlying38 s_53 .i64 (((someM (splitM secret (0 : Int) threshold many coins).1 ma (splitM secret (0 : Int) threshold many coins).1.length).length - 1 : Nat) : Int) ((someM (splitM secret (0 : Int) threshold many coins).1 ma (splitM secret (0 : Int) threshold many coins).1.length).length - 1) rfl rfl rfl hl5243 (by omega) fun a5245 hp5246 => (⟨(Keep.refl _ _), ⟨a5245, rfl, hp5246⟩⟩)))
      ·intro F1 w1 k1 hf hd
       have k0 := (Keep.drew [] w5208).trans k1
       obtain ⟨a5247, e5249, hp5248⟩ : ∃ a, F1 79 = .pointer (some a) ∧ PT Enc.share w5208 ([] ++ O) (.pointer (some a)) ((someM ((splitM secret (0 : Int) threshold many coins).1) ma ((splitM secret (0 : Int) threshold many coins).1).length)[(someM (splitM secret (0 : Int) threshold many coins).1 ma (splitM secret (0 : Int) threshold many coins).1.length).length - 1]!) := hd 7 79 (by kernel_rfl)
       obtain ⟨F2, rfl⟩ := lit_of (F := F1) [(79, Value.pointer (some a5247))] ⟨e5249, trivial⟩
       exact sp_plain rfl ((o_loadSU Try.underlying53 rfl s_53 rfl hp5248 k0 fun cs5250 hs5251 => (⟨(Keep.refl _ _), ⟨cs5250, rfl, hs5251⟩⟩)))
      ·intro F1 w1 k1 hf hd
       obtain ⟨cs5252, e5254, hs5253⟩ : ∃ cs : List Value, F1 80 = .agg cs.toArray ∧ Enc.share.rd w5208 ([] ++ O) cs ((someM ((splitM secret (0 : Int) threshold many coins).1) ma ((splitM secret (0 : Int) threshold many coins).1).length)[(someM (splitM secret (0 : Int) threshold many coins).1 ma (splitM secret (0 : Int) threshold many coins).1.length).length - 1]!) := hd 8 80 (by kernel_rfl)
       obtain ⟨F2, rfl⟩ := lit_of (F := F1) [(80, Value.agg cs5252.toArray)] ⟨e5254, trivial⟩
       refine sp_plain rfl ((o_litN (E := Enc.share) (u := w5208) (O := [] ++ O) (xs := [.tmp 80]) Try.underlying38 s_53 z_53 (by decide) [Value.agg cs5252.toArray] [cs5252] [(someM ((splitM secret (0 : Int) threshold many coins).1) ma ((splitM secret (0 : Int) threshold many coins).1).length)[(someM (splitM secret (0 : Int) threshold many coins).1 ma (splitM secret (0 : Int) threshold many coins).1.length).length - 1]!] rfl rfl rfl (Parts.cons rfl hs5253 (Parts.nil _ _ _)) (of_decide_eq_true rfl) fun v5259 w5255 k5258 hl5260 => (?_)))
       exact ⟨k5258, hl5260⟩
      intro F5262 w5263 k5261 hT5264 hF5265
      obtain ⟨v5269, e5271, hl5270⟩ : ∃ v, F5262 73 = v ∧ RdL Enc.share w5208 ([] ++ O) v (someM ((splitM secret (0 : Int) threshold many coins).1) ma ((splitM secret (0 : Int) threshold many coins).1).length) := ⟨_, rfl, hT5264 1 73 (by kernel_rfl) (by decide)⟩
      have := hl5270.len_le
      obtain ⟨v5272, e5274, hl5273⟩ : ∃ v, F5262 75 = v ∧ RdL Enc.share w5208 ([] ++ O) v (someM ((splitM secret (0 : Int) threshold many coins).1) ma ((splitM secret (0 : Int) threshold many coins).1).length) := ⟨_, rfl, hT5264 3 75 (by kernel_rfl) (by decide)⟩
      have := hl5273.len_le
      obtain ⟨v5275, e5277, hl5276⟩ : ∃ v, F5262 76 = v ∧ RdL Enc.share w5208 ([] ++ O) v (someM ((splitM secret (0 : Int) threshold many coins).1) ma ((splitM secret (0 : Int) threshold many coins).1).length) := ⟨_, rfl, hT5264 4 76 (by kernel_rfl) (by decide)⟩
      have := hl5276.len_le
      obtain ⟨a5278, e5280, hp5279⟩ : ∃ a, F5262 79 = .pointer (some a) ∧ PT Enc.share w5208 ([] ++ O) (.pointer (some a)) ((someM ((splitM secret (0 : Int) threshold many coins).1) ma ((splitM secret (0 : Int) threshold many coins).1).length)[(someM (splitM secret (0 : Int) threshold many coins).1 ma (splitM secret (0 : Int) threshold many coins).1.length).length - 1]!) := hT5264 7 79 (by kernel_rfl) (by decide)
      obtain ⟨cs5281, e5283, hs5282⟩ : ∃ cs : List Value, F5262 80 = .agg cs.toArray ∧ Enc.share.rd w5208 ([] ++ O) cs ((someM ((splitM secret (0 : Int) threshold many coins).1) ma ((splitM secret (0 : Int) threshold many coins).1).length)[(someM (splitM secret (0 : Int) threshold many coins).1 ma (splitM secret (0 : Int) threshold many coins).1.length).length - 1]!) := hT5264 8 80 (by kernel_rfl) (by decide)
      obtain ⟨v5284, e5290, b5285, hb5286, lo5287, hi5288, ho5289⟩ : ∃ v, F5262 74 = v ∧ (fun (vT : Value) (wT : World) => ∃ bT : Nat, vT.ownBlock = some bT ∧ w5208.heap.size ≤ bT ∧ bT < wT.heap.size ∧ Own Enc.share 53 w.heap.size ((bT :: ([])) ++ O) wT vT (someM ((splitM secret (0 : Int) threshold many coins).1) ma ((splitM secret (0 : Int) threshold many coins).1).length)) v w5263 := ⟨_, rfl, hT5264 2 74 (by kernel_rfl) (by decide)⟩
      have hB5291 : ∀ b, v5284.ownBlock = some b → b ∈ (b5285 :: []) := fun b hb => by rw [hb5286] at hb; cases hb; simp
      have s5266 := (s5209.call k5261).adopt (Nat.le_trans s5209.keep.size lo5287) hi5288
      have m5267 : Mv ([]) w5208 (b5285 :: []) w5263 := Mv.adopt k5261 lo5287
      have hl5186 := hl5186.mv m5267
      have hl5206 := hl5206.mv m5267
      have hl5214 := hl5214.mv m5267
      obtain ⟨v5292, e5293, hn5294⟩ : ∃ v, F5262 81 = v ∧ RdN Enc.share w5208 ([] ++ O) w5263 v ([(someM ((splitM secret (0 : Int) threshold many coins).1) ma ((splitM secret (0 : Int) threshold many coins).1).length)[(someM (splitM secret (0 : Int) threshold many coins).1 ma (splitM secret (0 : Int) threshold many coins).1.length).length - 1]!]) := ⟨_, rfl, hT5264 9 81 (by kernel_rfl) (by decide)⟩
      obtain ⟨F2, rfl⟩ := lit_of (F := F5262) [(15, v5180), (17, x5205), (18, vI ((joinM (someM ((splitM secret (0 : Int) threshold many coins).1) ma ((splitM secret (0 : Int) threshold many coins).1).length)).2)), (19, x5213), (20, vI ((joinM (someM ((splitM secret (0 : Int) threshold many coins).1) mb ((splitM secret (0 : Int) threshold many coins).1).length)).2)), (119, undef), (73, v5269), (74, v5284), (75, v5272), (76, v5275), (79, Value.pointer (some a5278)), (80, Value.agg cs5281.toArray), (81, v5292)] ⟨hF5265 15 (by kernel_rfl), hF5265 17 (by kernel_rfl), hF5265 18 (by kernel_rfl), hF5265 19 (by kernel_rfl), hF5265 20 (by kernel_rfl), hF5265 119 (by kernel_rfl), e5271, e5290, e5274, e5277, e5280, e5283, e5293, trivial⟩
      clear hT5264 hF5265
      refine wl_s (o_appendN (E := Enc.share) (l := someM ((splitM secret (0 : Int) threshold many coins).1) ma ((splitM secret (0 : Int) threshold many coins).1).length) (m := [(someM ((splitM secret (0 : Int) threshold many coins).1) ma ((splitM secret (0 : Int) threshold many coins).1).length)[(someM (splitM secret (0 : Int) threshold many coins).1 ma (splitM secret (0 : Int) threshold many coins).1.length).length - 1]!]) Try.underlying38 i_53 rfl (by decide) rfl rfl ho5289 hn5294 (fun _ _ h => Enc.mv _ h m5267) hB5291 (by simp; omega) (by simp [maxLen]; omega) s5266 fun v5299 w5295 B5301 hB5302 at5303 sub5304 s5296 m5297 k5298 ho5300 => (?_))
      have hl5186 := hl5186.mv m5297
      have hl5206 := hl5206.mv m5297
      have hl5214 := hl5214.mv m5297
      obtain ⟨B5305, s5306, m5307, hl5308, hk5309⟩ := ho5300.publish s5296
      have lim5310 := hl5308.len_le
      have hl5186 := hl5186.mv m5307
      have hl5206 := hl5206.mv m5307
      have hl5214 := hl5214.mv m5307
      refine wl_s (o_callK (vs := [v5299]) enter_35 (c_join (O := B5305 ++ O) v5299 ((someM ((splitM secret (0 : Int) threshold many coins).1) ma ((splitM secret (0 : Int) threshold many coins).1).length) ++ ([(someM ((splitM secret (0 : Int) threshold many coins).1) ma ((splitM secret (0 : Int) threshold many coins).1).length)[(someM (splitM secret (0 : Int) threshold many coins).1 ma (splitM secret (0 : Int) threshold many coins).1.length).length - 1]!])) w5295 hl5308 s5306.lt) rfl s5306 fun v5311 w5312 s5313 m5314 k5315 r5316 => (?_))
      obtain ⟨x5317, rfl, hl5318⟩ := r5316
      have := hl5318.len_le
      have hl5186 := hl5186.mv m5314
      have hl5206 := hl5206.mv m5314
      have hl5214 := hl5214.mv m5314
      refine wl_s (o_move (Value.tuple #[x5317, vI ((joinM ((someM ((splitM secret (0 : Int) threshold many coins).1) ma ((splitM secret (0 : Int) threshold many coins).1).length) ++ ([(someM ((splitM secret (0 : Int) threshold many coins).1) ma ((splitM secret (0 : Int) threshold many coins).1).length)[(someM (splitM secret (0 : Int) threshold many coins).1 ma (splitM secret (0 : Int) threshold many coins).1.length).length - 1]!]))).2)]) rfl (wl_s (o_extract (x5317) rfl rfl (wl_s (o_extract (vI ((joinM ((someM ((splitM secret (0 : Int) threshold many coins).1) ma ((splitM secret (0 : Int) threshold many coins).1).length) ++ ([(someM ((splitM secret (0 : Int) threshold many coins).1) ma ((splitM secret (0 : Int) threshold many coins).1).length)[(someM (splitM secret (0 : Int) threshold many coins).1 ma (splitM secret (0 : Int) threshold many coins).1.length).length - 1]!]))).2)) rfl rfl (wl_s (o_assign (x5317) rfl (wl_s (o_assign (vI ((joinM ((someM ((splitM secret (0 : Int) threshold many coins).1) ma ((splitM secret (0 : Int) threshold many coins).1).length) ++ ([(someM ((splitM secret (0 : Int) threshold many coins).1) ma ((splitM secret (0 : Int) threshold many coins).1).length)[(someM (splitM secret (0 : Int) threshold many coins).1 ma (splitM secret (0 : Int) threshold many coins).1.length).length - 1]!]))).2)) rfl (wl_nil (thenQ_n (?_))))))))))))
      refine cw_seq (?_)
      refine cw_seq (?_)
      refine cw_region (by kernel_rfl) (wl_s (o_move (vI ((joinM (someM ((splitM secret (0 : Int) threshold many coins).1) ma ((splitM secret (0 : Int) threshold many coins).1).length)).2)) rfl (wl_s (o_neq .i64 ((joinM (someM ((splitM secret (0 : Int) threshold many coins).1) ma ((splitM secret (0 : Int) threshold many coins).1).length)).2) (0 : Int) rfl rfl (wl_s (o_move (Value.bool (((joinM (someM ((splitM secret (0 : Int) threshold many coins).1) ma ((splitM secret (0 : Int) threshold many coins).1).length)).2) != (0 : Int))) rfl (?_)))))))
      have hb5319 : (((joinM (someM ((splitM secret (0 : Int) threshold many coins).1) ma ((splitM secret (0 : Int) threshold many coins).1).length)).2) != (0 : Int)) = false := (by rw [hS.join ma (by omega)]; rfl)
      rw [hb5319]
      refine wl_t rfl (o_move (vI ((joinM (someM ((splitM secret (0 : Int) threshold many coins).1) mb ((splitM secret (0 : Int) threshold many coins).1).length)).2)) rfl (wl_t rfl (o_neq .i64 ((joinM (someM ((splitM secret (0 : Int) threshold many coins).1) mb ((splitM secret (0 : Int) threshold many coins).1).length)).2) (0 : Int) rfl rfl (wl_s (o_pickF (Value.bool (((joinM (someM ((splitM secret (0 : Int) threshold many coins).1) mb ((splitM secret (0 : Int) threshold many coins).1).length)).2) != (0 : Int))) rfl rfl (wl_s (o_move (Value.bool (((joinM (someM ((splitM secret (0 : Int) threshold many coins).1) mb ((splitM secret (0 : Int) threshold many coins).1).length)).2) != (0 : Int))) rfl (?_))))))))
      have hb5320 : (((joinM (someM ((splitM secret (0 : Int) threshold many coins).1) mb ((splitM secret (0 : Int) threshold many coins).1).length)).2) != (0 : Int)) = false := (by rw [hS.join mb (by omega)]; rfl)
      rw [hb5320]
      refine wl_t rfl (o_move (vI ((joinM ((someM ((splitM secret (0 : Int) threshold many coins).1) ma ((splitM secret (0 : Int) threshold many coins).1).length) ++ ([(someM ((splitM secret (0 : Int) threshold many coins).1) ma ((splitM secret (0 : Int) threshold many coins).1).length)[(someM (splitM secret (0 : Int) threshold many coins).1 ma (splitM secret (0 : Int) threshold many coins).1.length).length - 1]!]))).2)) rfl (wl_t rfl (o_neq .i64 ((joinM ((someM ((splitM secret (0 : Int) threshold many coins).1) ma ((splitM secret (0 : Int) threshold many coins).1).length) ++ ([(someM ((splitM secret (0 : Int) threshold many coins).1) ma ((splitM secret (0 : Int) threshold many coins).1).length)[(someM (splitM secret (0 : Int) threshold many coins).1 ma (splitM secret (0 : Int) threshold many coins).1.length).length - 1]!]))).2) (80 : Int) rfl rfl (wl_s (o_pickF (Value.bool (((joinM ((someM ((splitM secret (0 : Int) threshold many coins).1) ma ((splitM secret (0 : Int) threshold many coins).1).length) ++ ([(someM ((splitM secret (0 : Int) threshold many coins).1) ma ((splitM secret (0 : Int) threshold many coins).1).length)[(someM (splitM secret (0 : Int) threshold many coins).1 ma (splitM secret (0 : Int) threshold many coins).1.length).length - 1]!]))).2) != (80 : Int))) rfl rfl (wl_s (o_move (Value.bool (((joinM ((someM ((splitM secret (0 : Int) threshold many coins).1) ma ((splitM secret (0 : Int) threshold many coins).1).length) ++ ([(someM ((splitM secret (0 : Int) threshold many coins).1) ma ((splitM secret (0 : Int) threshold many coins).1).length)[(someM (splitM secret (0 : Int) threshold many coins).1 ma (splitM secret (0 : Int) threshold many coins).1.length).length - 1]!]))).2) != (80 : Int))) rfl (?_))))))))
      have hb5321 : (((joinM ((someM ((splitM secret (0 : Int) threshold many coins).1) ma ((splitM secret (0 : Int) threshold many coins).1).length) ++ ([(someM ((splitM secret (0 : Int) threshold many coins).1) ma ((splitM secret (0 : Int) threshold many coins).1).length)[(someM (splitM secret (0 : Int) threshold many coins).1 ma (splitM secret (0 : Int) threshold many coins).1.length).length - 1]!]))).2) != (80 : Int)) = false := (by rw [join_twice (by omega)]; rfl)
      rw [hb5321]
      refine wl_t rfl (o_move (x5205) rfl (wl_t rfl (o_bytes Try.underlying28 Try.underlying5 Try.underlying9 rfl hl5206 (wl_t rfl (o_move (x5213) rfl (wl_t rfl (o_bytes Try.underlying28 Try.underlying5 Try.underlying9 rfl hl5214 (wl_t rfl (o_neqS ((joinM (someM ((splitM secret (0 : Int) threshold many coins).1) ma ((splitM secret (0 : Int) threshold many coins).1).length)).1) ((joinM (someM ((splitM secret (0 : Int) threshold many coins).1) mb ((splitM secret (0 : Int) threshold many coins).1).length)).1) rfl rfl (wl_s (o_pickF (Value.bool (((joinM (someM ((splitM secret (0 : Int) threshold many coins).1) ma ((splitM secret (0 : Int) threshold many coins).1).length)).1) != ((joinM (someM ((splitM secret (0 : Int) threshold many coins).1) mb ((splitM secret (0 : Int) threshold many coins).1).length)).1))) rfl rfl (wl_nil (thenQ_n (?_))))))))))))))
      have hb5322 : (((joinM (someM ((splitM secret (0 : Int) threshold many coins).1) ma ((splitM secret (0 : Int) threshold many coins).1).length)).1) != ((joinM (someM ((splitM secret (0 : Int) threshold many coins).1) mb ((splitM secret (0 : Int) threshold many coins).1).length)).1)) = false := (by rw [hS.join ma (by omega), hS.join mb (by omega)]; simp)
      rw [hb5322]
      refine cw_cond false rfl rfl (fun h => by cases h) (fun _ => ?_)
      refine cw_skip (thenQ_n (?_))
      refine cw_seq (?_)
      refine cw_seq (?_)
      refine cw_region (by kernel_rfl) (wl_s (o_move (v5180) rfl (wl_s (o_lenR Try.underlying38 rfl hl5186 (wl_s (o_lss .i64 ((someM ((splitM secret (0 : Int) threshold many coins).1) ma ((splitM secret (0 : Int) threshold many coins).1).length).length : Int) (2 : Int) rfl rfl (wl_nil (thenQ_n (?_)))))))))
      refine cw_cond (decide (((someM ((splitM secret (0 : Int) threshold many coins).1) ma ((splitM secret (0 : Int) threshold many coins).1).length).length : Int) < (2 : Int))) rfl rfl (fun hc5323 => ?_) (fun hc5323 => ?_)
      ·have hp5324 : ((someM ((splitM secret (0 : Int) threshold many coins).1) ma ((splitM secret (0 : Int) threshold many coins).1).length).length : Int) < (2 : Int) := by first | simpa using hc5323 | (have e := hc5323; simp at e; omega)
       refine cw_seq (?_)
       refine cw_region (by kernel_rfl) (wl_s (o_assign (Value.bool true) rfl (wl_nil (thenQ_n (?_)))))
       refine cw_ret (thenQ_r (end_r rfl (res1 rfl rfl rfl) (?_)))
       exact ⟨_, rfl, s5313.keep, rfl⟩
      ·have hp5325 : (2 : Int) ≤ ((someM ((splitM secret (0 : Int) threshold many coins).1) ma ((splitM secret (0 : Int) threshold many coins).1).length).length : Int) := by first | simpa using hc5323 | (have e := hc5323; simp at e; omega)
       refine cw_skip (thenQ_n (?_))
       refine cw_seq (?_)
       refine cw_draw' 12 _ _ [fun (vT : Value) (wT : World) => RdL Enc.share wT (B5305 ++ O) vT (someM ((splitM secret (0 : Int) threshold many coins).1) ma ((splitM secret (0 : Int) threshold many coins).1).length), fun (vT : Value) (wT : World) => ∃ aT, vT = .pointer (some aT) ∧ PT Enc.share wT (B5305 ++ O) (.pointer (some aT)) ((someM ((splitM secret (0 : Int) threshold many coins).1) ma ((splitM secret (0 : Int) threshold many coins).1).length)[1]!), fun (vT : Value) (wT : World) => ∃ csT : List Value, vT = .agg csT.toArray ∧ Enc.share.rd wT (B5305 ++ O) csT ((someM ((splitM secret (0 : Int) threshold many coins).1) ma ((splitM secret (0 : Int) threshold many coins).1).length)[1]!), fun (vT : Value) (wT : World) => RdL Enc.share wT (B5305 ++ O) vT (someM ((splitM secret (0 : Int) threshold many coins).1) ma ((splitM secret (0 : Int) threshold many coins).1).length), fun (vT : Value) (wT : World) => ∃ aT, vT = .pointer (some aT) ∧ PT Enc.share wT (B5305 ++ O) (.pointer (some aT)) ((someM ((splitM secret (0 : Int) threshold many coins).1) ma ((splitM secret (0 : Int) threshold many coins).1).length)[0]!), fun (vT : Value) (wT : World) => ∃ csT : List Value, vT = .agg csT.toArray ∧ Enc.share.rd wT (B5305 ++ O) csT ((someM ((splitM secret (0 : Int) threshold many coins).1) ma ((splitM secret (0 : Int) threshold many coins).1).length)[0]!), fun (vT : Value) (wT : World) => RdL Enc.share wT (B5305 ++ O) vT ([(someM ((splitM secret (0 : Int) threshold many coins).1) ma ((splitM secret (0 : Int) threshold many coins).1).length)[1]!, (someM ((splitM secret (0 : Int) threshold many coins).1) ma ((splitM secret (0 : Int) threshold many coins).1).length)[0]!]), fun (vT : Value) (wT : World) => ∃ (xT0 : Value), vT = .tuple #[xT0, vI ((joinM ([(someM ((splitM secret (0 : Int) threshold many coins).1) ma ((splitM secret (0 : Int) threshold many coins).1).length)[1]!, (someM ((splitM secret (0 : Int) threshold many coins).1) ma ((splitM secret (0 : Int) threshold many coins).1).length)[0]!])).2)] ∧ RdL Enc.u8 wT (B5305 ++ O) xT0 ((joinM ([(someM ((splitM secret (0 : Int) threshold many coins).1) ma ((splitM secret (0 : Int) threshold many coins).1).length)[1]!, (someM ((splitM secret (0 : Int) threshold many coins).1) ma ((splitM secret (0 : Int) threshold many coins).1).length)[0]!])).1), fun (vT : Value) (wT : World) => ∃ (xT0 : Value), vT = .tuple #[xT0, vI ((joinM ([(someM ((splitM secret (0 : Int) threshold many coins).1) ma ((splitM secret (0 : Int) threshold many coins).1).length)[1]!, (someM ((splitM secret (0 : Int) threshold many coins).1) ma ((splitM secret (0 : Int) threshold many coins).1).length)[0]!])).2)] ∧ RdL Enc.u8 wT (B5305 ++ O) xT0 ((joinM ([(someM ((splitM secret (0 : Int) threshold many coins).1) ma ((splitM secret (0 : Int) threshold many coins).1).length)[1]!, (someM ((splitM secret (0 : Int) threshold many coins).1) ma ((splitM secret (0 : Int) threshold many coins).1).length)[0]!])).1), fun (vT : Value) (wT : World) => RdL Enc.u8 wT (B5305 ++ O) vT ((joinM ([(someM ((splitM secret (0 : Int) threshold many coins).1) ma ((splitM secret (0 : Int) threshold many coins).1).length)[1]!, (someM ((splitM secret (0 : Int) threshold many coins).1) ma ((splitM secret (0 : Int) threshold many coins).1).length)[0]!])).1), isV (vI ((joinM ([(someM ((splitM secret (0 : Int) threshold many coins).1) ma ((splitM secret (0 : Int) threshold many coins).1).length)[1]!, (someM ((splitM secret (0 : Int) threshold many coins).1) ma ((splitM secret (0 : Int) threshold many coins).1).length)[0]!])).2)), fun (vT : Value) (wT : World) => RdL Enc.u8 wT (B5305 ++ O) vT ((joinM ([(someM ((splitM secret (0 : Int) threshold many coins).1) ma ((splitM secret (0 : Int) threshold many coins).1).length)[1]!, (someM ((splitM secret (0 : Int) threshold many coins).1) ma ((splitM secret (0 : Int) threshold many coins).1).length)[0]!])).1)] (by kernel_rfl) (by kernel_rfl) (by kernel_rfl) (by kernel_rfl) rfl rfl ⟨fun _ _ _ h k => h.mv (Mv.of_keep k), fun _ _ _ ⟨a, e, h⟩ k => ⟨a, e, h.mv (Mv.of_keep k)⟩, fun _ _ _ ⟨a, e, h⟩ k => ⟨a, e, Enc.mv _ h (Mv.of_keep k)⟩, fun _ _ _ h k => h.mv (Mv.of_keep k), fun _ _ _ ⟨a, e, h⟩ k => ⟨a, e, h.mv (Mv.of_keep k)⟩, fun _ _ _ ⟨a, e, h⟩ k => ⟨a, e, Enc.mv _ h (Mv.of_keep k)⟩, fun _ _ _ h k => h.mv (Mv.of_keep k), fun _ _ _ ⟨y0, e, h0⟩ k => ⟨y0, e, h0.mv (Mv.of_keep k)⟩, fun _ _ _ ⟨y0, e, h0⟩ k => ⟨y0, e, h0.mv (Mv.of_keep k)⟩, fun _ _ _ h k => h.mv (Mv.of_keep k), kI, fun _ _ _ h k => h.mv (Mv.of_keep k), trivial⟩ ⟨?_, ?_, ?_, ?_, ?_, ?_, ?_, ?_, ?_, ?_, ?_, ?_, trivial⟩ ?_
       ·intro F1 w1 k1 hf hd
        have k0 := (Keep.drew [] w5312).trans k1
        have m1 : Mv B5305 w5312 B5305 w1 := Mv.of_keep k0
        have hl5186 := hl5186.mv m1
        obtain ⟨F2, rfl⟩ := lit_of (F := F1) [(15, v5180)] ⟨hf 15 (by kernel_rfl), trivial⟩
        exact sp_plain rfl ((o_move (v5180) rfl (⟨(Keep.refl _ _), hl5186⟩)))
       ·intro F1 w1 k1 hf hd
        obtain ⟨v5326, e5328, hl5327⟩ : ∃ v, F1 107 = v ∧ RdL Enc.share w1 (B5305 ++ O) v (someM ((splitM secret (0 : Int) threshold many coins).1) ma ((splitM secret (0 : Int) threshold many coins).1).length) := ⟨_, rfl, hd 0 107 (by kernel_rfl)⟩
        have := hl5327.len_le
        obtain ⟨F2, rfl⟩ := lit_of (F := F1) [(107, v5326)] ⟨e5328, trivial⟩
        exact sp_plain rfl ((o_idx Try.underlying38 s_53 .i64 (1 : Int) 1 rfl rfl rfl hl5327 (by omega) fun a5329 hp5330 => (⟨(Keep.refl _ _), ⟨a5329, rfl, hp5330⟩⟩)))
       ·intro F1 w1 k1 hf hd
        obtain ⟨a5331, e5333, hp5332⟩ : ∃ a, F1 108 = .pointer (some a) ∧ PT Enc.share w1 (B5305 ++ O) (.pointer (some a)) ((someM ((splitM secret (0 : Int) threshold many coins).1) ma ((splitM secret (0 : Int) threshold many coins).1).length)[1]!) := hd 1 108 (by kernel_rfl)
        obtain ⟨F2, rfl⟩ := lit_of (F := F1) [(108, Value.pointer (some a5331))] ⟨e5333, trivial⟩
        exact sp_plain rfl ((o_loadS Try.underlying53 rfl s_53 rfl hp5332 fun cs5334 hs5335 => (⟨(Keep.refl _ _), ⟨cs5334, rfl, hs5335⟩⟩)))
       ·intro F1 w1 k1 hf hd
        have k0 := (Keep.drew [] w5312).trans k1
        have m1 : Mv B5305 w5312 B5305 w1 := Mv.of_keep k0
        have hl5186 := hl5186.mv m1
        obtain ⟨F2, rfl⟩ := lit_of (F := F1) [(15, v5180)] ⟨hf 15 (by kernel_rfl), trivial⟩
        exact sp_plain rfl ((o_move (v5180) rfl (⟨(Keep.refl _ _), hl5186⟩)))
       ·intro F1 w1 k1 hf hd
        obtain ⟨v5336, e5338, hl5337⟩ : ∃ v, F1 110 = v ∧ RdL Enc.share w1 (B5305 ++ O) v (someM ((splitM secret (0 : Int) threshold many coins).1) ma ((splitM secret (0 : Int) threshold many coins).1).length) := ⟨_, rfl, hd 3 110 (by kernel_rfl)⟩
        have := hl5337.len_le
        obtain ⟨F2, rfl⟩ := lit_of (F := F1) [(110, v5336)] ⟨e5338, trivial⟩
        exact sp_plain rfl ((o_idx Try.underlying38 s_53 .i64 (0 : Int) 0 rfl rfl rfl hl5337 (by omega) fun a5339 hp5340 => (⟨(Keep.refl _ _), ⟨a5339, rfl, hp5340⟩⟩)))
       ·intro F1 w1 k1 hf hd
        obtain ⟨a5341, e5343, hp5342⟩ : ∃ a, F1 111 = .pointer (some a) ∧ PT Enc.share w1 (B5305 ++ O) (.pointer (some a)) ((someM ((splitM secret (0 : Int) threshold many coins).1) ma ((splitM secret (0 : Int) threshold many coins).1).length)[0]!) := hd 4 111 (by kernel_rfl)
        obtain ⟨F2, rfl⟩ := lit_of (F := F1) [(111, Value.pointer (some a5341))] ⟨e5343, trivial⟩
        exact sp_plain rfl ((o_loadS Try.underlying53 rfl s_53 rfl hp5342 fun cs5344 hs5345 => (⟨(Keep.refl _ _), ⟨cs5344, rfl, hs5345⟩⟩)))
       ·intro F1 w1 k1 hf hd
        have k0 := (Keep.drew [] w5312).trans k1
        have s1 := s5313.call k0
        obtain ⟨cs5346, e5348, hs5347⟩ : ∃ cs : List Value, F1 109 = .agg cs.toArray ∧ Enc.share.rd w1 (B5305 ++ O) cs ((someM ((splitM secret (0 : Int) threshold many coins).1) ma ((splitM secret (0 : Int) threshold many coins).1).length)[1]!) := hd 2 109 (by kernel_rfl)
        obtain ⟨cs5349, e5351, hs5350⟩ : ∃ cs : List Value, F1 112 = .agg cs.toArray ∧ Enc.share.rd w1 (B5305 ++ O) cs ((someM ((splitM secret (0 : Int) threshold many coins).1) ma ((splitM secret (0 : Int) threshold many coins).1).length)[0]!) := hd 5 112 (by kernel_rfl)
        obtain ⟨F2, rfl⟩ := lit_of (F := F1) [(109, Value.agg cs5346.toArray), (112, Value.agg cs5349.toArray)] ⟨e5348, e5351, trivial⟩
        refine sp_plain rfl ((o_lit (E := Enc.share) (xs := [.tmp 109, .tmp 112]) Try.underlying38 s_53 z_53 (by decide) [Value.agg cs5346.toArray, Value.agg cs5349.toArray] [cs5346, cs5349] [(someM ((splitM secret (0 : Int) threshold many coins).1) ma ((splitM secret (0 : Int) threshold many coins).1).length)[1]!, (someM ((splitM secret (0 : Int) threshold many coins).1) ma ((splitM secret (0 : Int) threshold many coins).1).length)[0]!] rfl rfl rfl (Parts.cons rfl hs5347 (Parts.cons rfl hs5350 (Parts.nil _ _ _))) (of_decide_eq_true rfl) s1 fun v5356 w5352 s5353 m5354 k5355 hl5357 => (?_)))
        have := hl5357.len_le
        exact ⟨k5355, hl5357⟩
       ·intro F1 w1 k1 hf hd
        have k0 := (Keep.drew [] w5312).trans k1
        have s1 := s5313.call k0
        obtain ⟨v5358, e5360, hl5359⟩ : ∃ v, F1 113 = v ∧ RdL Enc.share w1 (B5305 ++ O) v ([(someM ((splitM secret (0 : Int) threshold many coins).1) ma ((splitM secret (0 : Int) threshold many coins).1).length)[1]!, (someM ((splitM secret (0 : Int) threshold many coins).1) ma ((splitM secret (0 : Int) threshold many coins).1).length)[0]!]) := ⟨_, rfl, hd 6 113 (by kernel_rfl)⟩
        have := hl5359.len_le
        obtain ⟨F2, rfl⟩ := lit_of (F := F1) [(113, v5358)] ⟨e5360, trivial⟩
        refine sp_plain rfl ((o_callK (vs := [v5358]) enter_35 (c_join (O := B5305 ++ O) v5358 ([(someM ((splitM secret (0 : Int) threshold many coins).1) ma ((splitM secret (0 : Int) threshold many coins).1).length)[1]!, (someM ((splitM secret (0 : Int) threshold many coins).1) ma ((splitM secret (0 : Int) threshold many coins).1).length)[0]!]) w1 hl5359 s1.lt) rfl s1 fun v5361 w5362 s5363 m5364 k5365 r5366 => (?_)))
        obtain ⟨x5367, rfl, hl5368⟩ := r5366
        have := hl5368.len_le
        exact ⟨k5365, ⟨x5367, rfl, hl5368⟩⟩
       ·intro F1 w1 k1 hf hd
        obtain ⟨x5369, e5371, hl5370⟩ : (fun (vT : Value) (wT : World) => ∃ (xT0 : Value), vT = .tuple #[xT0, vI ((joinM ([(someM ((splitM secret (0 : Int) threshold many coins).1) ma ((splitM secret (0 : Int) threshold many coins).1).length)[1]!, (someM ((splitM secret (0 : Int) threshold many coins).1) ma ((splitM secret (0 : Int) threshold many coins).1).length)[0]!])).2)] ∧ RdL Enc.u8 wT (B5305 ++ O) xT0 ((joinM ([(someM ((splitM secret (0 : Int) threshold many coins).1) ma ((splitM secret (0 : Int) threshold many coins).1).length)[1]!, (someM ((splitM secret (0 : Int) threshold many coins).1) ma ((splitM secret (0 : Int) threshold many coins).1).length)[0]!])).1)) (F1 114) w1 := hd 7 114 (by kernel_rfl)
        have := hl5370.len_le
        obtain ⟨F2, rfl⟩ := lit_of (F := F1) [(114, Value.tuple #[x5369, vI ((joinM ([(someM ((splitM secret (0 : Int) threshold many coins).1) ma ((splitM secret (0 : Int) threshold many coins).1).length)[1]!, (someM ((splitM secret (0 : Int) threshold many coins).1) ma ((splitM secret (0 : Int) threshold many coins).1).length)[0]!])).2)])] ⟨e5371, trivial⟩
        exact sp_plain rfl ((o_move (Value.tuple #[x5369, vI ((joinM ([(someM ((splitM secret (0 : Int) threshold many coins).1) ma ((splitM secret (0 : Int) threshold many coins).1).length)[1]!, (someM ((splitM secret (0 : Int) threshold many coins).1) ma ((splitM secret (0 : Int) threshold many coins).1).length)[0]!])).2)]) rfl (⟨(Keep.refl _ _), ⟨x5369, rfl, hl5370⟩⟩)))
       ·intro F1 w1 k1 hf hd
        obtain ⟨x5372, e5374, hl5373⟩ : (fun (vT : Value) (wT : World) => ∃ (xT0 : Value), vT = .tuple #[xT0, vI ((joinM ([(someM ((splitM secret (0 : Int) threshold many coins).1) ma ((splitM secret (0 : Int) threshold many coins).1).length)[1]!, (someM ((splitM secret (0 : Int) threshold many coins).1) ma ((splitM secret (0 : Int) threshold many coins).1).length)[0]!])).2)] ∧ RdL Enc.u8 wT (B5305 ++ O) xT0 ((joinM ([(someM ((splitM secret (0 : Int) threshold many coins).1) ma ((splitM secret (0 : Int) threshold many coins).1).length)[1]!, (someM ((splitM secret (0 : Int) threshold many coins).1) ma ((splitM secret (0 : Int) threshold many coins).1).length)[0]!])).1)) (F1 106) w1 := hd 8 106 (by kernel_rfl)
        have := hl5373.len_le
        obtain ⟨F2, rfl⟩ := lit_of (F := F1) [(106, Value.tuple #[x5372, vI ((joinM ([(someM ((splitM secret (0 : Int) threshold many coins).1) ma ((splitM secret (0 : Int) threshold many coins).1).length)[1]!, (someM ((splitM secret (0 : Int) threshold many coins).1) ma ((splitM secret (0 : Int) threshold many coins).1).length)[0]!])).2)])] ⟨e5374, trivial⟩
        exact sp_plain rfl ((o_extract (x5372) rfl rfl (⟨(Keep.refl _ _), hl5373⟩)))
       ·intro F1 w1 k1 hf hd
        obtain ⟨x5375, e5377, hl5376⟩ : (fun (vT : Value) (wT : World) => ∃ (xT0 : Value), vT = .tuple #[xT0, vI ((joinM ([(someM ((splitM secret (0 : Int) threshold many coins).1) ma ((splitM secret (0 : Int) threshold many coins).1).length)[1]!, (someM ((splitM secret (0 : Int) threshold many coins).1) ma ((splitM secret (0 : Int) threshold many coins).1).length)[0]!])).2)] ∧ RdL Enc.u8 wT (B5305 ++ O) xT0 ((joinM ([(someM ((splitM secret (0 : Int) threshold many coins).1) ma ((splitM secret (0 : Int) threshold many coins).1).length)[1]!, (someM ((splitM secret (0 : Int) threshold many coins).1) ma ((splitM secret (0 : Int) threshold many coins).1).length)[0]!])).1)) (F1 106) w1 := hd 8 106 (by kernel_rfl)
        have := hl5376.len_le
        obtain ⟨F2, rfl⟩ := lit_of (F := F1) [(106, Value.tuple #[x5375, vI ((joinM ([(someM ((splitM secret (0 : Int) threshold many coins).1) ma ((splitM secret (0 : Int) threshold many coins).1).length)[1]!, (someM ((splitM secret (0 : Int) threshold many coins).1) ma ((splitM secret (0 : Int) threshold many coins).1).length)[0]!])).2)])] ⟨e5377, trivial⟩
        exact sp_plain rfl ((o_extract (vI ((joinM ([(someM ((splitM secret (0 : Int) threshold many coins).1) ma ((splitM secret (0 : Int) threshold many coins).1).length)[1]!, (someM ((splitM secret (0 : Int) threshold many coins).1) ma ((splitM secret (0 : Int) threshold many coins).1).length)[0]!])).2)) rfl rfl (⟨(Keep.refl _ _), rfl⟩)))
       ·intro F1 w1 k1 hf hd
        obtain ⟨v5378, e5380, hl5379⟩ : ∃ v, F1 115 = v ∧ RdL Enc.u8 w1 (B5305 ++ O) v ((joinM ([(someM ((splitM secret (0 : Int) threshold many coins).1) ma ((splitM secret (0 : Int) threshold many coins).1).length)[1]!, (someM ((splitM secret (0 : Int) threshold many coins).1) ma ((splitM secret (0 : Int) threshold many coins).1).length)[0]!])).1) := ⟨_, rfl, hd 9 115 (by kernel_rfl)⟩
        have := hl5379.len_le
        obtain ⟨F2, rfl⟩ := lit_of (F := F1) [(115, v5378)] ⟨e5380, trivial⟩
        exact sp_plain rfl ((o_assign (v5378) rfl (⟨(Keep.refl _ _), hl5379⟩)))
       intro F5382 w5383 k5381 hT5384 hF5385
       have s5386 := s5313.call k5381
       obtain ⟨F2, rfl⟩ := lit_of (F := F5382) [(119, undef), (116, vI ((joinM ([(someM ((splitM secret (0 : Int) threshold many coins).1) ma ((splitM secret (0 : Int) threshold many coins).1).length)[1]!, (someM ((splitM secret (0 : Int) threshold many coins).1) ma ((splitM secret (0 : Int) threshold many coins).1).length)[0]!])).2))] ⟨hF5385 119 (by kernel_rfl), hT5384 10 116 (by kernel_rfl) (by decide), trivial⟩
       clear hT5384 hF5385
       refine wl_s (o_assign (vI ((joinM ([(someM ((splitM secret (0 : Int) threshold many coins).1) ma ((splitM secret (0 : Int) threshold many coins).1).length)[1]!, (someM ((splitM secret (0 : Int) threshold many coins).1) ma ((splitM secret (0 : Int) threshold many coins).1).length)[0]!])).2)) rfl (wl_nil (thenQ_n (?_))))
       refine cw_seq (?_)
       refine cw_region (by kernel_rfl) (wl_s (o_move (vI ((joinM ([(someM ((splitM secret (0 : Int) threshold many coins).1) ma ((splitM secret (0 : Int) threshold many coins).1).length)[1]!, (someM ((splitM secret (0 : Int) threshold many coins).1) ma ((splitM secret (0 : Int) threshold many coins).1).length)[0]!])).2)) rfl (wl_s (o_eql .i64 ((joinM ([(someM ((splitM secret (0 : Int) threshold many coins).1) ma ((splitM secret (0 : Int) threshold many coins).1).length)[1]!, (someM ((splitM secret (0 : Int) threshold many coins).1) ma ((splitM secret (0 : Int) threshold many coins).1).length)[0]!])).2) (80 : Int) rfl rfl (wl_s (o_assign (Value.bool (((joinM ([(someM ((splitM secret (0 : Int) threshold many coins).1) ma ((splitM secret (0 : Int) threshold many coins).1).length)[1]!, (someM ((splitM secret (0 : Int) threshold many coins).1) ma ((splitM secret (0 : Int) threshold many coins).1).length)[0]!])).2) == (80 : Int))) rfl (wl_nil (thenQ_n (?_)))))))))
       refine cw_ret (end_r rfl (res1 rfl rfl rfl) (?_))
       have e : true = (((joinM ([(someM ((splitM secret (0 : Int) threshold many coins).1) ma ((splitM secret (0 : Int) threshold many coins).1).length)[1]!, (someM ((splitM secret (0 : Int) threshold many coins).1) ma ((splitM secret (0 : Int) threshold many coins).1).length)[0]!])).2) == (80 : Int)) := by first | rfl | (rw [hS.swapped ma (by omega)]; rfl)
       exact ⟨_, rfl, s5386.keep, by rw [e]; exact rfl⟩
    ·have hp5389 : ((someM ((splitM secret (0 : Int) threshold many coins).1) ma ((splitM secret (0 : Int) threshold many coins).1).length).length : Int) < threshold := by first | simpa using hb5194 | (have e := hb5194; simp at e; omega)
     refine wl_k rfl (wl_k rfl (wl_k rfl (wl_k rfl (wl_s (o_pickT (Value.bool true) rfl rfl (wl_nil (thenQ_n (?_))))))))
     refine cw_cond true rfl rfl (fun _ => ?_) (fun h => by cases h)
     refine cw_seq (?_)
     refine cw_region (by kernel_rfl) (wl_s (o_assign (Value.bool true) rfl (wl_nil (thenQ_n (?_)))))
     refine cw_ret (thenQ_r (end_r rfl (res1 rfl rfl rfl) (?_)))
     exact ⟨_, rfl, s5189.keep, rfl⟩
 ·have hp5390 : (20 : Int) < (secret.length : Int) := by first | simpa using hb5164 | (have e := hb5164; simp at e; omega)
  refine wl_k rfl (wl_k rfl (wl_k rfl (wl_s (o_pickT (Value.bool true) rfl rfl (wl_nil (thenQ_n (?_)))))))
  refine cw_cond true rfl rfl (fun _ => ?_) (fun h => by cases h)
  refine cw_seq (?_)
  refine cw_region (by kernel_rfl) (wl_s (o_assign (Value.bool true) rfl (wl_nil (thenQ_n (?_)))))
  refine cw_ret (thenQ_r (end_r rfl (res1 rfl rfl rfl) (?_)))
  exact ⟨_, rfl, s5160.keep, rfl⟩

end Go.Proofs.Yteajcgfcnbdmgaa
