/- Walks, printed by gen.py. -/
import Derived.Test.YtjpniibleelgiaaYk
import Derived.Test.YtjpniibleelgiaaYf
set_option linter.unusedSimpArgs false
set_option linter.unusedVariables false
namespace Go.Proofs.Ytjpniibleelgiaa
open Go.Fw Go.RowKit

set_option maxHeartbeats 4000000 in
set_option maxRecDepth 100000 in
theorem c_RollbackStartSpec {O : List Nat} (id : Int) (d_cs : List Value) (d : Device) (l_v : Value) (l : List DeviceOp) (copies : Int) (first : Int) (w : World) (h_d : Enc.device.rd w O d_cs d) (h_l : RdL Enc.devop w O l_v l) (hO : ∀ b ∈ O, b < w.heap.size) : CallsK Try.prog 13 [vI id, .agg d_cs.toArray, l_v, vI copies, vI first] w (fun v _ => v = .bool (true)) :=  by
 have h_d : Enc.device.rd w ([] ++ O) d_cs d := h_d
 have lim_l := h_l.len_le
 have h_l : RdL Enc.devop w ([] ++ O) l_v l := h_l
 have s0 : St w O w [] := St.start hO
 refine callsK_of 99 Try.func13 rfl rfl (of_decide_eq_true rfl) (fun F0 => ?_)
 refine cw_seq (?_)
 refine cw_region (by kernel_rfl) (wl_s (o_boxR (E := Enc.device) (Value.agg d_cs.toArray) (d_cs) d rfl rfl h_d s0 fun a7108 w7109 s7110 m7111 k7112 hp7113 => (?_)))
 have h_l := h_l.mv m7111
 refine wl_s (o_assign (Value.bool false) rfl (wl_nil (thenQ_n (?_))))
 refine cw_seq (?_)
 refine cw_seq (?_)
 refine cw_region (by kernel_rfl) (wl_s (o_callK (vs := []) enter_39 (c_sane43 (O := [] ++ O) w7109 s7110.lt) rfl s7110 fun v7114 w7115 s7116 m7117 k7118 r7119 => (?_)))
 obtain rfl := r7119
 have h_l := h_l.mv m7117
 have hp7113 := hp7113.mv m7117
 refine wl_s (o_not true rfl (wl_nil (thenQ_n (?_))))
 refine cw_cond false rfl rfl (fun h => by cases h) (fun _ => ?_)
 refine cw_skip (thenQ_n (?_))
 refine cw_seq (?_)
 refine cw_seq (?_)
 refine cw_region (by kernel_rfl) (wl_s (o_fieldR 2 f_31_2 (d.ops) rfl hp7113 (fun _ _ _ h => Enc_device_f2 h) fun a7120 hp7121 => (wl_s (o_loadL Try.underlying26 rfl rfl hp7121 fun v7122 hl7123 => (?_)))))
 have := hl7123.len_le
 refine wl_s (o_callK (vs := [v7122]) enter_26 (c_few (O := [] ++ O) v7122 d.ops w7115 hl7123 s7116.lt) rfl s7116 fun v7124 w7125 s7126 m7127 k7128 r7129 => (?_))
 obtain rfl := r7129
 have h_l := h_l.mv m7127
 have hp7113 := hp7113.mv m7127
 refine wl_s (o_not (decide ((d.ops.length : Int) ≤ 40)) rfl (wl_s (o_move (Value.bool (!(decide ((d.ops.length : Int) ≤ 40)))) rfl (?_))))
 cases hb7130 : (!(decide ((d.ops.length : Int) ≤ 40)))
 ·have hp7131 : (d.ops.length : Int) ≤ 40 := by first | simpa using hb7130 | (have e := hb7130; rw [Bool.not_eq_true'] at e; exact e) | (have e := hb7130; rw [Bool.not_eq_false'] at e; exact e) | (have e := hb7130; simp at e; omega)
  refine wl_t rfl (o_move (l_v) rfl (wl_t rfl (o_callK (vs := [l_v]) enter_26 (c_few (O := [] ++ O) l_v l w7125 h_l s7126.lt) rfl s7126 fun v7132 w7133 s7134 m7135 k7136 r7137 => (?_))))
  obtain rfl := r7137
  have h_l := h_l.mv m7135
  have hp7113 := hp7113.mv m7135
  refine wl_t rfl (o_not (decide ((l.length : Int) ≤ 40)) rfl (wl_s (o_pickF (Value.bool (!(decide ((l.length : Int) ≤ 40)))) rfl rfl (wl_s (o_move (Value.bool (!(decide ((l.length : Int) ≤ 40)))) rfl (?_))))))
  cases hb7138 : (!(decide ((l.length : Int) ≤ 40)))
  ·have hp7139 : (l.length : Int) ≤ 40 := by first | simpa using hb7138 | (have e := hb7138; rw [Bool.not_eq_true'] at e; exact e) | (have e := hb7138; rw [Bool.not_eq_false'] at e; exact e) | (have e := hb7138; simp at e; omega)
   refine wl_t rfl (o_move (vI copies) rfl (wl_t rfl (o_gtr .i64 copies (40 : Int) rfl rfl (wl_s (o_pickF (Value.bool (decide ((40 : Int) < copies))) rfl rfl (wl_nil (thenQ_n (?_))))))))
   refine cw_cond (decide ((40 : Int) < copies)) rfl rfl (fun hc7140 => ?_) (fun hc7140 => ?_)
   ·have hp7141 : (40 : Int) < copies := by first | simpa using hc7140 | (have e := hc7140; simp at e; omega)
    refine cw_seq (?_)
    refine cw_region (by kernel_rfl) (wl_s (o_assign (Value.bool true) rfl (wl_nil (thenQ_n (?_)))))
    refine cw_ret (thenQ_r (end_r rfl (res1 rfl rfl rfl) (?_)))
    exact ⟨_, rfl, s7134.keep, rfl⟩
   ·have hp7142 : copies ≤ (40 : Int) := by first | simpa using hc7140 | (have e := hc7140; simp at e; omega)
    refine cw_skip (thenQ_n (?_))
    refine cw_seq (?_)
    refine cw_region (by kernel_rfl) (wl_s (o_move (vI id) rfl (wl_s (o_callK (vs := [vI id]) enter_20 (c_new43 (O := [] ++ O) id w7133 s7134.lt) rfl s7134 fun v7143 w7144 s7145 m7146 k7147 r7148 => (?_)))))
    obtain ⟨cs7149, rfl, hs7150⟩ := r7148
    have h_l := h_l.mv m7146
    have hp7113 := hp7113.mv m7146
    refine wl_s (o_move (Value.tuple #[Value.agg cs7149.toArray, vI ((newM id).2)]) rfl (wl_s (o_extract (Value.agg cs7149.toArray) rfl rfl (wl_s (o_extract (vI ((newM id).2)) rfl rfl (wl_s (o_alloc [vI (0 : Int), vI (0 : Int), Value.slice none 0 0, Value.bool false] z_31 rfl s7145 fun b7151 w7152 e7157 s7153 m7154 k7155 bx7156 => (?_))))))))
    clear e7157
    have h_l := h_l.mv m7154
    have hp7113 := hp7113.mv m7154
    have hs7150 : Enc.device.rd w7152 ((b7151 :: []) ++ O) cs7149 ((newM id).1) := Enc.mv Enc.device (x := (newM id).1) hs7150 m7154
    obtain ⟨d7163, rfl, hd7164⟩ := hs7150
    have := hd7164.len_le
    refine wl_n (o_store (vs := [vI (((newM id).1).id), vI (((newM id).1).counter), d7163, Value.bool (((newM id).1).halted)]) (.agg #[vI (((newM id).1).id), vI (((newM id).1).counter), d7163, Value.bool (((newM id).1).halted)]) rfl rfl rfl s_31 (fun u hu => by simp only [List.mem_cons, List.not_mem_nil, or_false] at hu; rcases hu with rfl | rfl | rfl | rfl <;> first | rfl | exact hd7164.oneCell) (by repeat (first | assumption | constructor)) bx7156 (of_decide_eq_true rfl) s7153 fun w7158 s7159 m7160 k7161 bx7162 => (?_))
    have h_l := h_l.mv m7160
    have hp7113 := hp7113.mv m7160
    have hd7164 := hd7164.mv m7160
    refine wl_s (o_assign (vI ((newM id).2)) rfl (wl_nil (thenQ_n (?_))))
    refine cw_seq (?_)
    refine cw_region (by kernel_rfl) (wl_s (o_move (vI id) rfl (wl_s (o_callK (vs := [vI id]) enter_43 (c_refNew (O := (b7151 :: []) ++ O) id w7158 s7159.lt) rfl s7159 fun v7165 w7166 s7167 m7168 k7169 r7170 => (?_)))))
    obtain ⟨cs7171, rfl, hs7172⟩ := r7170
    have h_l := h_l.mv m7168
    have hp7113 := hp7113.mv m7168
    have hd7164 := hd7164.mv m7168
    have bx7162 := bx7162.keep k7169 (by simp)
    refine wl_s (o_move (Value.tuple #[Value.agg cs7171.toArray, vI ((newM id).2)]) rfl (wl_s (o_extract (Value.agg cs7171.toArray) rfl rfl (wl_s (o_extract (vI ((newM id).2)) rfl rfl (wl_s (o_alloc [vI (0 : Int), vI (0 : Int), Value.slice none 0 0, Value.bool false] z_31 rfl s7167 fun b7173 w7174 e7179 s7175 m7176 k7177 bx7178 => (?_))))))))
    have ne7180 : NeB b7151 b7173 := by show b7151 ≠ b7173; have := bx7162.lt; omega
    clear e7179
    have h_l := h_l.mv m7176
    have hp7113 := hp7113.mv m7176
    have hd7164 := hd7164.mv m7176
    have hs7172 : Enc.device.rd w7174 ((b7173 :: (b7151 :: [])) ++ O) cs7171 ((newM id).1) := Enc.mv Enc.device (x := (newM id).1) hs7172 m7176
    have bx7162 := bx7162.keep k7177 (by simp)
    obtain ⟨d7186, rfl, hd7187⟩ := hs7172
    have := hd7187.len_le
    refine wl_n (o_store (vs := [vI (((newM id).1).id), vI (((newM id).1).counter), d7186, Value.bool (((newM id).1).halted)]) (.agg #[vI (((newM id).1).id), vI (((newM id).1).counter), d7186, Value.bool (((newM id).1).halted)]) rfl rfl rfl s_31 (fun u hu => by simp only [List.mem_cons, List.not_mem_nil, or_false] at hu; rcases hu with rfl | rfl | rfl | rfl <;> first | rfl | exact hd7187.oneCell) (by repeat (first | assumption | constructor)) bx7178 (of_decide_eq_true rfl) s7175 fun w7181 s7182 m7183 k7184 bx7185 => (?_))
    have h_l := h_l.mv m7183
    have hp7113 := hp7113.mv m7183
    have hd7164 := hd7164.mv m7183
    have hd7187 := hd7187.mv m7183
    have bx7162 := bx7162.keep k7184 (nin1 ne7180)
    refine wl_s (o_assign (vI ((newM id).2)) rfl (wl_nil (thenQ_n (?_))))
    refine cw_seq (?_)
    refine cw_region (by kernel_rfl) (wl_s (o_loadS Try.underlying31 rfl s_31 rfl hp7113 fun cs7188 hs7189 => (wl_s (o_callK (vs := [Value.agg cs7188.toArray]) enter_44 (c_start (O := (b7173 :: (b7151 :: [])) ++ O) cs7188 d w7181 hs7189 s7182.lt) rfl s7182 fun v7190 w7191 s7192 m7193 k7194 r7195 => (?_)))))
    obtain ⟨cs7196, rfl, hs7197⟩ := r7195
    have h_l := h_l.mv m7193
    have hp7113 := hp7113.mv m7193
    have hd7164 := hd7164.mv m7193
    have hd7187 := hd7187.mv m7193
    have bx7162 := bx7162.keep k7194 (by simp)
    have bx7185 := bx7185.keep k7194 (by simp)
    refine wl_s (o_move (Value.tuple #[Value.agg cs7196.toArray, vI ((startM d).2)]) rfl (wl_s (o_extract (Value.agg cs7196.toArray) rfl rfl (wl_s (o_extract (vI ((startM d).2)) rfl rfl (wl_s (o_alloc [vI (0 : Int), vI (0 : Int), Value.slice none 0 0, Value.bool false] z_31 rfl s7192 fun b7198 w7199 e7204 s7200 m7201 k7202 bx7203 => (?_))))))))
    have ne7205 : NeB b7151 b7198 := by show b7151 ≠ b7198; have := bx7162.lt; omega
    have ne7206 : NeB b7173 b7198 := by show b7173 ≠ b7198; have := bx7185.lt; omega
    clear e7204
    have h_l := h_l.mv m7201
    have hp7113 := hp7113.mv m7201
    have hd7164 := hd7164.mv m7201
    have hd7187 := hd7187.mv m7201
    have hs7197 : Enc.device.rd w7199 ((b7198 :: (b7173 :: (b7151 :: []))) ++ O) cs7196 ((startM d).1) := Enc.mv Enc.device (x := (startM d).1) hs7197 m7201
    have bx7162 := bx7162.keep k7202 (by simp)
    have bx7185 := bx7185.keep k7202 (by simp)
    obtain ⟨d7212, rfl, hd7213⟩ := hs7197
    have := hd7213.len_le
    refine wl_n (o_store (vs := [vI (((startM d).1).id), vI (((startM d).1).counter), d7212, Value.bool (((startM d).1).halted)]) (.agg #[vI (((startM d).1).id), vI (((startM d).1).counter), d7212, Value.bool (((startM d).1).halted)]) rfl rfl rfl s_31 (fun u hu => by simp only [List.mem_cons, List.not_mem_nil, or_false] at hu; rcases hu with rfl | rfl | rfl | rfl <;> first | rfl | exact hd7213.oneCell) (by repeat (first | assumption | constructor)) bx7203 (of_decide_eq_true rfl) s7200 fun w7207 s7208 m7209 k7210 bx7211 => (?_))
    have h_l := h_l.mv m7209
    have hp7113 := hp7113.mv m7209
    have hd7164 := hd7164.mv m7209
    have hd7187 := hd7187.mv m7209
    have hd7213 := hd7213.mv m7209
    have bx7162 := bx7162.keep k7210 (nin1 ne7205)
    have bx7185 := bx7185.keep k7210 (nin1 ne7206)
    refine wl_s (o_assign (vI ((startM d).2)) rfl (wl_nil (thenQ_n (?_))))
    refine cw_seq (?_)
    refine cw_region (by kernel_rfl) (wl_s (o_loadS Try.underlying31 rfl s_31 rfl hp7113 fun cs7214 hs7215 => (wl_s (o_callK (vs := [Value.agg cs7214.toArray]) enter_45 (c_refStart (O := (b7198 :: (b7173 :: (b7151 :: []))) ++ O) cs7214 d w7207 hs7215 s7208.lt) rfl s7208 fun v7216 w7217 s7218 m7219 k7220 r7221 => (?_)))))
    obtain ⟨cs7222, rfl, hs7223⟩ := r7221
    have h_l := h_l.mv m7219
    have hp7113 := hp7113.mv m7219
    have hd7164 := hd7164.mv m7219
    have hd7187 := hd7187.mv m7219
    have hd7213 := hd7213.mv m7219
    have bx7162 := bx7162.keep k7220 (by simp)
    have bx7185 := bx7185.keep k7220 (by simp)
    have bx7211 := bx7211.keep k7220 (by simp)
    refine wl_s (o_move (Value.tuple #[Value.agg cs7222.toArray, vI ((startM d).2)]) rfl (wl_s (o_extract (Value.agg cs7222.toArray) rfl rfl (wl_s (o_extract (vI ((startM d).2)) rfl rfl (wl_s (o_alloc [vI (0 : Int), vI (0 : Int), Value.slice none 0 0, Value.bool false] z_31 rfl s7218 fun b7224 w7225 e7230 s7226 m7227 k7228 bx7229 => (?_))))))))
    have ne7231 : NeB b7151 b7224 := by show b7151 ≠ b7224; have := bx7162.lt; omega
    have ne7232 : NeB b7173 b7224 := by show b7173 ≠ b7224; have := bx7185.lt; omega
    have ne7233 : NeB b7198 b7224 := by show b7198 ≠ b7224; have := bx7211.lt; omega
    clear e7230
    have h_l := h_l.mv m7227
    have hp7113 := hp7113.mv m7227
    have hd7164 := hd7164.mv m7227
    have hd7187 := hd7187.mv m7227
    have hd7213 := hd7213.mv m7227
    have hs7223 : Enc.device.rd w7225 ((b7224 :: (b7198 :: (b7173 :: (b7151 :: [])))) ++ O) cs7222 ((startM d).1) := Enc.mv Enc.device (x := (startM d).1) hs7223 m7227
    have bx7162 := bx7162.keep k7228 (by simp)
    have bx7185 := bx7185.keep k7228 (by simp)
    have bx7211 := bx7211.keep k7228 (by simp)
    obtain ⟨d7239, rfl, hd7240⟩ := hs7223
    have := hd7240.len_le
    refine wl_n (o_store (vs := [vI (((startM d).1).id), vI (((startM d).1).counter), d7239, Value.bool (((startM d).1).halted)]) (.agg #[vI (((startM d).1).id), vI (((startM d).1).counter), d7239, Value.bool (((startM d).1).halted)]) rfl rfl rfl s_31 (fun u hu => by simp only [List.mem_cons, List.not_mem_nil, or_false] at hu; rcases hu with rfl | rfl | rfl | rfl <;> first | rfl | exact hd7240.oneCell) (by repeat (first | assumption | constructor)) bx7229 (of_decide_eq_true rfl) s7226 fun w7234 s7235 m7236 k7237 bx7238 => (?_))
    have h_l := h_l.mv m7236
    have hp7113 := hp7113.mv m7236
    have hd7164 := hd7164.mv m7236
    have hd7187 := hd7187.mv m7236
    have hd7213 := hd7213.mv m7236
    have hd7240 := hd7240.mv m7236
    have bx7162 := bx7162.keep k7237 (nin1 ne7231)
    have bx7185 := bx7185.keep k7237 (nin1 ne7232)
    have bx7211 := bx7211.keep k7237 (nin1 ne7233)
    refine wl_s (o_assign (vI ((startM d).2)) rfl (wl_nil (thenQ_n (?_))))
    refine cw_seq (?_)
    refine cw_seq (?_)
    refine cw_region (by kernel_rfl) (wl_s (o_loadBxA (vs := [vI (((newM id).1).id), vI (((newM id).1).counter), d7163, Value.bool (((newM id).1).halted)]) Try.underlying31 rfl s_31 rfl bx7162 rfl (wl_s (o_loadBxA (vs := [vI (((newM id).1).id), vI (((newM id).1).counter), d7186, Value.bool (((newM id).1).halted)]) Try.underlying31 rfl s_31 rfl bx7185 rfl (wl_s (o_callK (vs := [Value.agg #[vI (((newM id).1).id), vI (((newM id).1).counter), d7163, Value.bool (((newM id).1).halted)], Value.agg #[vI (((newM id).1).id), vI (((newM id).1).counter), d7186, Value.bool (((newM id).1).halted)]]) enter_42 (c_sameD (O := (b7224 :: (b7198 :: (b7173 :: (b7151 :: [])))) ++ O) [vI (((newM id).1).id), vI (((newM id).1).counter), d7163, Value.bool (((newM id).1).halted)] ((newM id).1) [vI (((newM id).1).id), vI (((newM id).1).counter), d7186, Value.bool (((newM id).1).halted)] ((newM id).1) w7234 ⟨_, rfl, hd7164⟩ ⟨_, rfl, hd7187⟩ s7235.lt) rfl s7235 fun v7241 w7242 s7243 m7244 k7245 r7246 => (?_)))))))
    obtain rfl := r7246
    have h_l := h_l.mv m7244
    have hp7113 := hp7113.mv m7244
    have hd7213 := hd7213.mv m7244
    have hd7240 := hd7240.mv m7244
    have bx7211 := bx7211.keep k7245 (by simp)
    have bx7238 := bx7238.keep k7245 (by simp)
    refine wl_s (o_not (((newM id).1) == ((newM id).1)) rfl (wl_s (o_move (Value.bool (!(((newM id).1) == ((newM id).1)))) rfl (?_))))
    have hb7247 : (!(((newM id).1) == ((newM id).1))) = false := (by rw [show (((newM id).1) == ((newM id).1)) = true from (beq_self_eq_true _)]; rfl)
    rw [hb7247]
    refine wl_t rfl (o_move (vI ((newM id).2)) rfl (wl_t rfl (o_move (vI ((newM id).2)) rfl (wl_t rfl (o_neq .i64 ((newM id).2) ((newM id).2) rfl rfl (wl_s (o_pickF (Value.bool (((newM id).2) != ((newM id).2))) rfl rfl (wl_s (o_move (Value.bool (((newM id).2) != ((newM id).2))) rfl (?_))))))))))
    have hb7248 : (((newM id).2) != ((newM id).2)) = false := (bne_self_eq_false _)
    rw [hb7248]
    refine wl_t rfl (o_loadBxA (vs := [vI (((startM d).1).id), vI (((startM d).1).counter), d7212, Value.bool (((startM d).1).halted)]) Try.underlying31 rfl s_31 rfl bx7211 rfl (wl_t rfl (o_loadBxA (vs := [vI (((startM d).1).id), vI (((startM d).1).counter), d7239, Value.bool (((startM d).1).halted)]) Try.underlying31 rfl s_31 rfl bx7238 rfl (wl_t rfl (o_callK (vs := [Value.agg #[vI (((startM d).1).id), vI (((startM d).1).counter), d7212, Value.bool (((startM d).1).halted)], Value.agg #[vI (((startM d).1).id), vI (((startM d).1).counter), d7239, Value.bool (((startM d).1).halted)]]) enter_42 (c_sameD (O := (b7224 :: (b7198 :: (b7173 :: (b7151 :: [])))) ++ O) [vI (((startM d).1).id), vI (((startM d).1).counter), d7212, Value.bool (((startM d).1).halted)] ((startM d).1) [vI (((startM d).1).id), vI (((startM d).1).counter), d7239, Value.bool (((startM d).1).halted)] ((startM d).1) w7242 ⟨_, rfl, hd7213⟩ ⟨_, rfl, hd7240⟩ s7243.lt) rfl s7243 fun v7249 w7250 s7251 m7252 k7253 r7254 => (?_))))))
    obtain rfl := r7254
    have h_l := h_l.mv m7252
    have hp7113 := hp7113.mv m7252
    refine wl_t rfl (o_not (((startM d).1) == ((startM d).1)) rfl (wl_s (o_pickF (Value.bool (!(((startM d).1) == ((startM d).1)))) rfl rfl (wl_s (o_move (Value.bool (!(((startM d).1) == ((startM d).1)))) rfl (?_))))))
    have hb7255 : (!(((startM d).1) == ((startM d).1))) = false := (by rw [show (((startM d).1) == ((startM d).1)) = true from (beq_self_eq_true _)]; rfl)
    rw [hb7255]
    refine wl_t rfl (o_move (vI ((startM d).2)) rfl (wl_t rfl (o_move (vI ((startM d).2)) rfl (wl_t rfl (o_neq .i64 ((startM d).2) ((startM d).2) rfl rfl (wl_s (o_pickF (Value.bool (((startM d).2) != ((startM d).2))) rfl rfl (wl_nil (thenQ_n (?_))))))))))
    have hb7256 : (((startM d).2) != ((startM d).2)) = false := (bne_self_eq_false _)
    rw [hb7256]
    refine cw_cond false rfl rfl (fun h => by cases h) (fun _ => ?_)
    refine cw_skip (thenQ_n (?_))
    refine cw_seq (?_)
    have hb7257 : (d.ops == d.ops) = true := (beq_self_eq_true _)
    try rw [hb7257]
    have hb7258 : ((restoreM d l) == (restoreM d l)) = true := (beq_self_eq_true _)
    try rw [hb7258]
    refine cw_draw' 22 _ _ [fun (vT : Value) (wT : World) => ∃ csT : List Value, vT = .agg csT.toArray ∧ Enc.device.rd wT ((b7224 :: (b7198 :: (b7173 :: (b7151 :: [])))) ++ O) csT (d), fun (vT : Value) (wT : World) => RdL Enc.devop wT ((b7224 :: (b7198 :: (b7173 :: (b7151 :: [])))) ++ O) vT (d.ops), fun (vT : Value) (wT : World) => ∃ aT, vT = .pointer (some aT) ∧ PT (Enc.slice Enc.devop) wT ((b7224 :: (b7198 :: (b7173 :: (b7151 :: [])))) ++ O) (.pointer (some aT)) (d.ops), fun (vT : Value) (wT : World) => RdL Enc.devop wT ((b7224 :: (b7198 :: (b7173 :: (b7151 :: [])))) ++ O) vT (d.ops), isV (Value.bool true), isV (Value.bool true), fun (vT : Value) (wT : World) => ∃ csT : List Value, vT = .agg csT.toArray ∧ Enc.device.rd wT ((b7224 :: (b7198 :: (b7173 :: (b7151 :: [])))) ++ O) csT (d), fun (vT : Value) (wT : World) => RdL Enc.devop wT ((b7224 :: (b7198 :: (b7173 :: (b7151 :: [])))) ++ O) vT (l), fun (vT : Value) (wT : World) => ∃ csT : List Value, vT = .agg csT.toArray ∧ Enc.device.rd wT ((b7224 :: (b7198 :: (b7173 :: (b7151 :: [])))) ++ O) csT (restoreM d l), fun (vT : Value) (wT : World) => ∃ csT : List Value, vT = .agg csT.toArray ∧ Enc.device.rd wT ((b7224 :: (b7198 :: (b7173 :: (b7151 :: [])))) ++ O) csT (d), fun (vT : Value) (wT : World) => RdL Enc.devop wT ((b7224 :: (b7198 :: (b7173 :: (b7151 :: [])))) ++ O) vT (l), fun (vT : Value) (wT : World) => ∃ csT : List Value, vT = .agg csT.toArray ∧ Enc.device.rd wT ((b7224 :: (b7198 :: (b7173 :: (b7151 :: [])))) ++ O) csT (restoreM d l), isV (Value.bool true), isV (Value.bool true), isV (Value.bool true), fun (vT : Value) (wT : World) => ∃ csT : List Value, vT = .agg csT.toArray ∧ Enc.device.rd wT ((b7224 :: (b7198 :: (b7173 :: (b7151 :: [])))) ++ O) csT (d), isV (vI copies), isV (vI first), fun (vT : Value) (wT : World) => RdL Enc.int wT ((b7224 :: (b7198 :: (b7173 :: (b7151 :: [])))) ++ O) vT (burntM d copies first), fun (vT : Value) (wT : World) => ∃ csT : List Value, vT = .agg csT.toArray ∧ Enc.device.rd wT ((b7224 :: (b7198 :: (b7173 :: (b7151 :: [])))) ++ O) csT (d), isV (vI copies), isV (vI first)] (by kernel_rfl) (by kernel_rfl) (by kernel_rfl) (by kernel_rfl) rfl rfl ⟨fun _ _ _ ⟨a, e, h⟩ k => ⟨a, e, Enc.mv _ h (Mv.of_keep k)⟩, fun _ _ _ h k => h.mv (Mv.of_keep k), fun _ _ _ ⟨a, e, h⟩ k => ⟨a, e, h.mv (Mv.of_keep k)⟩, fun _ _ _ h k => h.mv (Mv.of_keep k), kI, kI, fun _ _ _ ⟨a, e, h⟩ k => ⟨a, e, Enc.mv _ h (Mv.of_keep k)⟩, fun _ _ _ h k => h.mv (Mv.of_keep k), fun _ _ _ ⟨a, e, h⟩ k => ⟨a, e, Enc.mv _ h (Mv.of_keep k)⟩, fun _ _ _ ⟨a, e, h⟩ k => ⟨a, e, Enc.mv _ h (Mv.of_keep k)⟩, fun _ _ _ h k => h.mv (Mv.of_keep k), fun _ _ _ ⟨a, e, h⟩ k => ⟨a, e, Enc.mv _ h (Mv.of_keep k)⟩, kI, kI, kI, fun _ _ _ ⟨a, e, h⟩ k => ⟨a, e, Enc.mv _ h (Mv.of_keep k)⟩, kI, kI, fun _ _ _ h k => h.mv (Mv.of_keep k), fun _ _ _ ⟨a, e, h⟩ k => ⟨a, e, Enc.mv _ h (Mv.of_keep k)⟩, kI, kI, trivial⟩ ⟨?_, ?_, ?_, ?_, ?_, ?_, ?_, ?_, ?_, ?_, ?_, ?_, ?_, ?_, ?_, ?_, ?_, ?_, ?_, ?_, ?_, ?_, trivial⟩ ?_
    ·intro F1 w1 k1 hf hd
     have k0 := (Keep.drew [] w7250).trans k1
     have m1 : Mv (b7224 :: (b7198 :: (b7173 :: (b7151 :: [])))) w7250 (b7224 :: (b7198 :: (b7173 :: (b7151 :: [])))) w1 := Mv.of_keep k0
     have hp7113 := hp7113.mv m1
     obtain ⟨F2, rfl⟩ := lit_of (F := F1) [(6, Value.pointer (some a7108))] ⟨hf 6 (by kernel_rfl), trivial⟩
     exact sp_plain rfl ((o_loadS Try.underlying31 rfl s_31 rfl hp7113 fun cs7259 hs7260 => (⟨(Keep.refl _ _), ⟨cs7259, rfl, hs7260⟩⟩)))
    ·intro F1 w1 k1 hf hd
     have k0 := (Keep.drew [] w7250).trans k1
     have s1 := s7251.call k0
     obtain ⟨cs7261, e7263, hs7262⟩ : ∃ cs : List Value, F1 74 = .agg cs.toArray ∧ Enc.device.rd w1 ((b7224 :: (b7198 :: (b7173 :: (b7151 :: [])))) ++ O) cs (d) := hd 0 74 (by kernel_rfl)
     obtain ⟨F2, rfl⟩ := lit_of (F := F1) [(74, Value.agg cs7261.toArray)] ⟨e7263, trivial⟩
     refine sp_plain rfl ((o_callK (vs := [Value.agg cs7261.toArray]) enter_46 (c_backup (O := (b7224 :: (b7198 :: (b7173 :: (b7151 :: [])))) ++ O) cs7261 d w1 hs7262 (by first | omega | assumption | (simp; done)) s1.lt) rfl s1 fun v7264 w7265 s7266 m7267 k7268 r7269 => (?_)))
     obtain ⟨_, rfl, hl7270⟩ := r7269
     have := hl7270.len_le
     exact ⟨k7268, hl7270⟩
    ·intro F1 w1 k1 hf hd
     have k0 := (Keep.drew [] w7250).trans k1
     have m1 : Mv (b7224 :: (b7198 :: (b7173 :: (b7151 :: [])))) w7250 (b7224 :: (b7198 :: (b7173 :: (b7151 :: [])))) w1 := Mv.of_keep k0
     have hp7113 := hp7113.mv m1
     obtain ⟨F2, rfl⟩ := lit_of (F := F1) [(6, Value.pointer (some a7108))] ⟨hf 6 (by kernel_rfl), trivial⟩
     exact sp_plain rfl ((o_fieldR 2 f_31_2 (d.ops) rfl hp7113 (fun _ _ _ h => Enc_device_f2 h) fun a7271 hp7272 => (⟨(Keep.refl _ _), ⟨a7271, rfl, hp7272⟩⟩)))
    ·intro F1 w1 k1 hf hd
     obtain ⟨a7273, e7275, hp7274⟩ : ∃ aX_, F1 76 = .pointer (some aX_) ∧ PT (Enc.slice Enc.devop) w1 ((b7224 :: (b7198 :: (b7173 :: (b7151 :: [])))) ++ O) (.pointer (some aX_)) (d.ops) := hd 2 76 (by kernel_rfl)
     obtain ⟨F2, rfl⟩ := lit_of (F := F1) [(76, Value.pointer (some a7273))] ⟨e7275, trivial⟩
     refine sp_plain rfl ((o_loadL Try.underlying26 rfl rfl hp7274 fun v7276 hl7277 => (?_)))
     have := hl7277.len_le
     exact ⟨(Keep.refl _ _), hl7277⟩
    ·intro F1 w1 k1 hf hd
     have k0 := (Keep.drew [] w7250).trans k1
     have s1 := s7251.call k0
     obtain ⟨v7278, e7280, hl7279⟩ : ∃ v, F1 75 = v ∧ RdL Enc.devop w1 ((b7224 :: (b7198 :: (b7173 :: (b7151 :: [])))) ++ O) v (d.ops) := ⟨_, rfl, hd 1 75 (by kernel_rfl)⟩
     have := hl7279.len_le
     obtain ⟨v7281, e7283, hl7282⟩ : ∃ v, F1 77 = v ∧ RdL Enc.devop w1 ((b7224 :: (b7198 :: (b7173 :: (b7151 :: [])))) ++ O) v (d.ops) := ⟨_, rfl, hd 3 77 (by kernel_rfl)⟩
     have := hl7282.len_le
     obtain ⟨F2, rfl⟩ := lit_of (F := F1) [(75, v7278), (77, v7281)] ⟨e7280, e7283, trivial⟩
     refine sp_plain rfl ((o_callK (vs := [v7278, v7281]) enter_28 (c_same (O := (b7224 :: (b7198 :: (b7173 :: (b7151 :: [])))) ++ O) v7278 d.ops v7281 d.ops w1 hl7279 hl7282 s1.lt) rfl s1 fun v7284 w7285 s7286 m7287 k7288 r7289 => (?_)))
     obtain rfl := r7289
     exact ⟨k7288, congrArg Value.bool (hb7257)⟩
    ·intro F1 w1 k1 hf hd
     obtain ⟨F2, rfl⟩ := lit_of (F := F1) [(78, Value.bool true)] ⟨hd 4 78 (by kernel_rfl), trivial⟩
     exact sp_plain rfl ((o_move (Value.bool true) rfl (⟨(Keep.refl _ _), rfl⟩)))
    ·intro F1 w1 k1 hf hd
     have k0 := (Keep.drew [] w7250).trans k1
     have m1 : Mv (b7224 :: (b7198 :: (b7173 :: (b7151 :: [])))) w7250 (b7224 :: (b7198 :: (b7173 :: (b7151 :: [])))) w1 := Mv.of_keep k0
     have hp7113 := hp7113.mv m1
     obtain ⟨F2, rfl⟩ := lit_of (F := F1) [(6, Value.pointer (some a7108)), (79, Value.bool true)] ⟨hf 6 (by kernel_rfl), hd 5 79 (by kernel_rfl), trivial⟩
     exact sp_take rfl rfl ((o_loadS Try.underlying31 rfl s_31 rfl hp7113 fun cs7290 hs7291 => (⟨(Keep.refl _ _), ⟨cs7290, rfl, hs7291⟩⟩)))
    ·intro F1 w1 k1 hf hd
     have k0 := (Keep.drew [] w7250).trans k1
     have m1 : Mv (b7224 :: (b7198 :: (b7173 :: (b7151 :: [])))) w7250 (b7224 :: (b7198 :: (b7173 :: (b7151 :: [])))) w1 := Mv.of_keep k0
     have h_l := h_l.mv m1
     obtain ⟨F2, rfl⟩ := lit_of (F := F1) [(2, l_v), (79, Value.bool true)] ⟨hf 2 (by kernel_rfl), hd 5 79 (by kernel_rfl), trivial⟩
     exact sp_take rfl rfl ((o_move (l_v) rfl (⟨(Keep.refl _ _), h_l⟩)))
    ·intro F1 w1 k1 hf hd
     have k0 := (Keep.drew [] w7250).trans k1
     have s1 := s7251.call k0
     obtain ⟨cs7292, e7294, hs7293⟩ : ∃ cs : List Value, F1 80 = .agg cs.toArray ∧ Enc.device.rd w1 ((b7224 :: (b7198 :: (b7173 :: (b7151 :: [])))) ++ O) cs (d) := hd 6 80 (by kernel_rfl)
     obtain ⟨v7295, e7297, hl7296⟩ : ∃ v, F1 81 = v ∧ RdL Enc.devop w1 ((b7224 :: (b7198 :: (b7173 :: (b7151 :: [])))) ++ O) v (l) := ⟨_, rfl, hd 7 81 (by kernel_rfl)⟩
     have := hl7296.len_le
     obtain ⟨F2, rfl⟩ := lit_of (F := F1) [(79, Value.bool true), (80, Value.agg cs7292.toArray), (81, v7295)] ⟨hd 5 79 (by kernel_rfl), e7294, e7297, trivial⟩
     refine sp_take rfl rfl ((o_callK (vs := [Value.agg cs7292.toArray, v7295]) enter_47 (c_restore (O := (b7224 :: (b7198 :: (b7173 :: (b7151 :: [])))) ++ O) cs7292 d v7295 l w1 hs7293 hl7296 (by first | omega | assumption | (simp; done)) s1.lt) rfl s1 fun v7298 w7299 s7300 m7301 k7302 r7303 => (?_)))
     obtain ⟨cs7304, rfl, hs7305⟩ := r7303
     exact ⟨k7302, ⟨cs7304, rfl, hs7305⟩⟩
    ·intro F1 w1 k1 hf hd
     have k0 := (Keep.drew [] w7250).trans k1
     have m1 : Mv (b7224 :: (b7198 :: (b7173 :: (b7151 :: [])))) w7250 (b7224 :: (b7198 :: (b7173 :: (b7151 :: [])))) w1 := Mv.of_keep k0
     have hp7113 := hp7113.mv m1
     obtain ⟨F2, rfl⟩ := lit_of (F := F1) [(6, Value.pointer (some a7108)), (79, Value.bool true)] ⟨hf 6 (by kernel_rfl), hd 5 79 (by kernel_rfl), trivial⟩
     exact sp_take rfl rfl ((o_loadS Try.underlying31 rfl s_31 rfl hp7113 fun cs7306 hs7307 => (⟨(Keep.refl _ _), ⟨cs7306, rfl, hs7307⟩⟩)))
    ·intro F1 w1 k1 hf hd
     have k0 := (Keep.drew [] w7250).trans k1
     have m1 : Mv (b7224 :: (b7198 :: (b7173 :: (b7151 :: [])))) w7250 (b7224 :: (b7198 :: (b7173 :: (b7151 :: [])))) w1 := Mv.of_keep k0
     have h_l := h_l.mv m1
     obtain ⟨F2, rfl⟩ := lit_of (F := F1) [(2, l_v), (79, Value.bool true)] ⟨hf 2 (by kernel_rfl), hd 5 79 (by kernel_rfl), trivial⟩
     exact sp_take rfl rfl ((o_move (l_v) rfl (⟨(Keep.refl _ _), h_l⟩)))
    ·intro F1 w1 k1 hf hd
     have k0 := (Keep.drew [] w7250).trans k1
     have s1 := s7251.call k0
     obtain ⟨cs7308, e7310, hs7309⟩ : ∃ cs : List Value, F1 83 = .agg cs.toArray ∧ Enc.device.rd w1 ((b7224 :: (b7198 :: (b7173 :: (b7151 :: [])))) ++ O) cs (d) := hd 9 83 (by kernel_rfl)
     obtain ⟨v7311, e7313, hl7312⟩ : ∃ v, F1 84 = v ∧ RdL Enc.devop w1 ((b7224 :: (b7198 :: (b7173 :: (b7151 :: [])))) ++ O) v (l) := ⟨_, rfl, hd 10 84 (by kernel_rfl)⟩
     have := hl7312.len_le
     obtain ⟨F2, rfl⟩ := lit_of (F := F1) [(79, Value.bool true), (83, Value.agg cs7308.toArray), (84, v7311)] ⟨hd 5 79 (by kernel_rfl), e7310, e7313, trivial⟩
     refine sp_take rfl rfl ((o_callK (vs := [Value.agg cs7308.toArray, v7311]) enter_48 (c_refRestore (O := (b7224 :: (b7198 :: (b7173 :: (b7151 :: [])))) ++ O) cs7308 d v7311 l w1 hs7309 hl7312 s1.lt) rfl s1 fun v7314 w7315 s7316 m7317 k7318 r7319 => (?_)))
     obtain ⟨cs7320, rfl, hs7321⟩ := r7319
     exact ⟨k7318, ⟨cs7320, rfl, hs7321⟩⟩
    ·intro F1 w1 k1 hf hd
     have k0 := (Keep.drew [] w7250).trans k1
     have s1 := s7251.call k0
     obtain ⟨cs7322, e7324, hs7323⟩ : ∃ cs : List Value, F1 82 = .agg cs.toArray ∧ Enc.device.rd w1 ((b7224 :: (b7198 :: (b7173 :: (b7151 :: [])))) ++ O) cs (restoreM d l) := hd 8 82 (by kernel_rfl)
     obtain ⟨cs7325, e7327, hs7326⟩ : ∃ cs : List Value, F1 85 = .agg cs.toArray ∧ Enc.device.rd w1 ((b7224 :: (b7198 :: (b7173 :: (b7151 :: [])))) ++ O) cs (restoreM d l) := hd 11 85 (by kernel_rfl)
     obtain ⟨F2, rfl⟩ := lit_of (F := F1) [(79, Value.bool true), (82, Value.agg cs7322.toArray), (85, Value.agg cs7325.toArray)] ⟨hd 5 79 (by kernel_rfl), e7324, e7327, trivial⟩
     refine sp_take rfl rfl ((o_callK (vs := [Value.agg cs7322.toArray, Value.agg cs7325.toArray]) enter_42 (c_sameD (O := (b7224 :: (b7198 :: (b7173 :: (b7151 :: [])))) ++ O) cs7322 (restoreM d l) cs7325 (restoreM d l) w1 hs7323 hs7326 s1.lt) rfl s1 fun v7328 w7329 s7330 m7331 k7332 r7333 => (?_)))
     obtain rfl := r7333
     exact ⟨k7332, congrArg Value.bool (hb7258)⟩
    ·intro F1 w1 k1 hf hd
     obtain ⟨F2, rfl⟩ := lit_of (F := F1) [(79, Value.bool true), (86, Value.bool true)] ⟨hd 5 79 (by kernel_rfl), hd 12 86 (by kernel_rfl), trivial⟩
     exact sp_plain rfl ((o_pickT (Value.bool true) rfl rfl (⟨(Keep.refl _ _), rfl⟩)))
    ·intro F1 w1 k1 hf hd
     obtain ⟨F2, rfl⟩ := lit_of (F := F1) [(87, Value.bool true)] ⟨hd 13 87 (by kernel_rfl), trivial⟩
     exact sp_plain rfl ((o_move (Value.bool true) rfl (⟨(Keep.refl _ _), rfl⟩)))
    ·intro F1 w1 k1 hf hd
     have k0 := (Keep.drew [] w7250).trans k1
     have m1 : Mv (b7224 :: (b7198 :: (b7173 :: (b7151 :: [])))) w7250 (b7224 :: (b7198 :: (b7173 :: (b7151 :: [])))) w1 := Mv.of_keep k0
     have hp7113 := hp7113.mv m1
     obtain ⟨F2, rfl⟩ := lit_of (F := F1) [(6, Value.pointer (some a7108)), (88, Value.bool true)] ⟨hf 6 (by kernel_rfl), hd 14 88 (by kernel_rfl), trivial⟩
     exact sp_take rfl rfl ((o_loadS Try.underlying31 rfl s_31 rfl hp7113 fun cs7334 hs7335 => (⟨(Keep.refl _ _), ⟨cs7334, rfl, hs7335⟩⟩)))
    ·intro F1 w1 k1 hf hd
     obtain ⟨F2, rfl⟩ := lit_of (F := F1) [(3, vI copies), (88, Value.bool true)] ⟨hf 3 (by kernel_rfl), hd 14 88 (by kernel_rfl), trivial⟩
     exact sp_take rfl rfl ((o_move (vI copies) rfl (⟨(Keep.refl _ _), rfl⟩)))
    ·intro F1 w1 k1 hf hd
     obtain ⟨F2, rfl⟩ := lit_of (F := F1) [(4, vI first), (88, Value.bool true)] ⟨hf 4 (by kernel_rfl), hd 14 88 (by kernel_rfl), trivial⟩
     exact sp_take rfl rfl ((o_move (vI first) rfl (⟨(Keep.refl _ _), rfl⟩)))
    ·intro F1 w1 k1 hf hd
     have k0 := (Keep.drew [] w7250).trans k1
     have s1 := s7251.call k0
     obtain ⟨cs7336, e7338, hs7337⟩ : ∃ cs : List Value, F1 89 = .agg cs.toArray ∧ Enc.device.rd w1 ((b7224 :: (b7198 :: (b7173 :: (b7151 :: [])))) ++ O) cs (d) := hd 15 89 (by kernel_rfl)
     obtain ⟨F2, rfl⟩ := lit_of (F := F1) [(88, Value.bool true), (89, Value.agg cs7336.toArray), (90, vI copies), (91, vI first)] ⟨hd 14 88 (by kernel_rfl), e7338, hd 16 90 (by kernel_rfl), hd 17 91 (by kernel_rfl), trivial⟩
     refine sp_take rfl rfl ((o_callK (vs := [Value.agg cs7336.toArray, vI copies, vI first]) enter_50 (c_burnt (O := (b7224 :: (b7198 :: (b7173 :: (b7151 :: [])))) ++ O) cs7336 d copies first w1 hs7337 s1.lt) rfl s1 fun v7339 w7340 s7341 m7342 k7343 r7344 => (?_)))
     obtain ⟨_, rfl, hl7345⟩ := r7344
     have := hl7345.len_le
     exact ⟨k7343, hl7345⟩
    ·intro F1 w1 k1 hf hd
     have k0 := (Keep.drew [] w7250).trans k1
     have m1 : Mv (b7224 :: (b7198 :: (b7173 :: (b7151 :: [])))) w7250 (b7224 :: (b7198 :: (b7173 :: (b7151 :: [])))) w1 := Mv.of_keep k0
     have hp7113 := hp7113.mv m1
     obtain ⟨F2, rfl⟩ := lit_of (F := F1) [(6, Value.pointer (some a7108)), (88, Value.bool true)] ⟨hf 6 (by kernel_rfl), hd 14 88 (by kernel_rfl), trivial⟩
     exact sp_take rfl rfl ((o_loadS Try.underlying31 rfl s_31 rfl hp7113 fun cs7346 hs7347 => (⟨(Keep.refl _ _), ⟨cs7346, rfl, hs7347⟩⟩)))
    ·intro F1 w1 k1 hf hd
     obtain ⟨F2, rfl⟩ := lit_of (F := F1) [(3, vI copies), (88, Value.bool true)] ⟨hf 3 (by kernel_rfl), hd 14 88 (by kernel_rfl), trivial⟩
     exact sp_take rfl rfl ((o_move (vI copies) rfl (⟨(Keep.refl _ _), rfl⟩)))
    ·intro F1 w1 k1 hf hd
     obtain ⟨F2, rfl⟩ := lit_of (F := F1) [(4, vI first), (88, Value.bool true)] ⟨hf 4 (by kernel_rfl), hd 14 88 (by kernel_rfl), trivial⟩
     exact sp_take rfl rfl ((o_move (vI first) rfl (⟨(Keep.refl _ _), rfl⟩)))
    intro F7349 w7350 k7348 hT7351 hF7352
    have s7353 := s7251.call k7348
    obtain ⟨v7357, e7359, hl7358⟩ : ∃ v, F7349 92 = v ∧ RdL Enc.int w7350 ((b7224 :: (b7198 :: (b7173 :: (b7151 :: [])))) ++ O) v (burntM d copies first) := ⟨_, rfl, hT7351 18 92 (by kernel_rfl) (by decide)⟩
    have := hl7358.len_le
    obtain ⟨cs7360, e7362, hs7361⟩ : ∃ cs : List Value, F7349 93 = .agg cs.toArray ∧ Enc.device.rd w7350 ((b7224 :: (b7198 :: (b7173 :: (b7151 :: [])))) ++ O) cs (d) := hT7351 19 93 (by kernel_rfl) (by decide)
    obtain ⟨F2, rfl⟩ := lit_of (F := F7349) [(10, Value.bool false), (99, undef), (88, Value.bool true), (92, v7357), (93, Value.agg cs7360.toArray), (94, vI copies), (95, vI first)] ⟨hF7352 10 (by kernel_rfl), hF7352 99 (by kernel_rfl), hT7351 14 88 (by kernel_rfl) (by decide), e7359, e7362, hT7351 20 94 (by kernel_rfl) (by decide), hT7351 21 95 (by kernel_rfl) (by decide), trivial⟩
    clear hT7351 hF7352
    refine wl_t rfl (o_callK (vs := [Value.agg cs7360.toArray, vI copies, vI first]) enter_51 (c_refBurnt (O := (b7224 :: (b7198 :: (b7173 :: (b7151 :: [])))) ++ O) cs7360 d copies first w7350 hs7361 s7353.lt) rfl s7353 fun v7363 w7364 s7365 m7366 k7367 r7368 => (?_))
    obtain ⟨_, rfl, hl7369⟩ := r7368
    have := hl7369.len_le
    have hl7358 := hl7358.mv m7366
    refine wl_t rfl (o_callK (vs := [v7357, v7363]) enter_49 (c_sameI43 (O := (b7224 :: (b7198 :: (b7173 :: (b7151 :: [])))) ++ O) v7357 (burntM d copies first) v7363 (burntM d copies first) w7364 hl7358 hl7369 s7365.lt) rfl s7365 fun v7370 w7371 s7372 m7373 k7374 r7375 => (?_))
    obtain rfl := r7375
    refine wl_s (o_pickT (Value.bool ((burntM d copies first) == (burntM d copies first))) rfl rfl (wl_s (o_assign (Value.bool ((burntM d copies first) == (burntM d copies first))) rfl (wl_nil (thenQ_n (?_))))))
    refine cw_ret (end_r rfl (res1 rfl rfl rfl) (?_))
    have e : true = ((burntM d copies first) == (burntM d copies first)) := by first | rfl | exact (beq_self_eq_true _).symm
    exact ⟨_, rfl, s7372.keep, (by first | exact congrArg Value.bool e.symm | rfl)⟩
  ·have hp7376 : 40 < (l.length : Int) := by first | simpa using hb7138 | (have e := hb7138; rw [Bool.not_eq_true'] at e; exact e) | (have e := hb7138; rw [Bool.not_eq_false'] at e; exact e) | (have e := hb7138; simp at e; omega)
   refine wl_k rfl (wl_k rfl (wl_s (o_pickT (Value.bool true) rfl rfl (wl_nil (thenQ_n (?_))))))
   refine cw_cond true rfl rfl (fun _ => ?_) (fun h => by cases h)
   refine cw_seq (?_)
   refine cw_region (by kernel_rfl) (wl_s (o_assign (Value.bool true) rfl (wl_nil (thenQ_n (?_)))))
   refine cw_ret (thenQ_r (end_r rfl (res1 rfl rfl rfl) (?_)))
   exact ⟨_, rfl, s7134.keep, rfl⟩
 ·have hp7377 : 40 < (d.ops.length : Int) := by first | simpa using hb7130 | (have e := hb7130; rw [Bool.not_eq_true'] at e; exact e) | (have e := hb7130; rw [Bool.not_eq_false'] at e; exact e) | (have e := hb7130; simp at e; omega)
  refine wl_k rfl (wl_k rfl (wl_k rfl (wl_s (o_pickT (Value.bool true) rfl rfl (wl_s (o_move (Value.bool true) rfl (wl_k rfl (wl_k rfl (wl_s (o_pickT (Value.bool true) rfl rfl (wl_nil (thenQ_n (?_)))))))))))))
  refine cw_cond true rfl rfl (fun _ => ?_) (fun h => by cases h)
  refine cw_seq (?_)
  refine cw_region (by kernel_rfl) (wl_s (o_assign (Value.bool true) rfl (wl_nil (thenQ_n (?_)))))
  refine cw_ret (thenQ_r (end_r rfl (res1 rfl rfl rfl) (?_)))
  exact ⟨_, rfl, s7126.keep, rfl⟩

end Go.Proofs.Ytjpniibleelgiaa
