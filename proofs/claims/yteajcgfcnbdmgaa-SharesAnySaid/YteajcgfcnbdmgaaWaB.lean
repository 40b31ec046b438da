/- Walks, printed by gen.py. -/
import Derived.Test.YteajcgfcnbdmgaaWaA
set_option linter.unusedSimpArgs false
set_option linter.unusedVariables false
namespace Go.Proofs.Yteajcgfcnbdmgaa
open Go.Fw Go.RowKit

set_option maxHeartbeats 4000000 in
set_option maxRecDepth 100000 in
theorem c_eval {O : List Nat} (l_v : Value) (l : List UInt8) (x : UInt8) (w : World) (h_l : RdL Enc.u8 w O l_v l) (hO : ∀ b ∈ O, b < w.heap.size) : CallsK Try.prog 26 [l_v, vB x] w (fun v _ => v = vB (pev l x)) :=  by
 have lim_l := h_l.len_le
 have h_l : RdL Enc.u8 w ([] ++ O) l_v l := h_l
 have s0 : St w O w [] := St.start hO
 refine callsK_of 22 Try.func26 rfl rfl (of_decide_eq_true rfl) (fun F0 => ?_)
 refine cw_seq (?_)
 refine cw_region (by kernel_rfl) (wl_s (o_assign (vB (0 : UInt8)) rfl (wl_nil (thenQ_n (?_)))))
 refine cw_seq (?_)
 refine cw_seq (?_)
 refine cw_region (by kernel_rfl) (wl_s (o_move (l_v) rfl (wl_s (o_lenR Try.underlying28 rfl h_l (wl_s (o_sub .i64 (l.length : Int) (1 : Int) ((l.length : Int) - (1 : Int)) rfl rfl (w64 (by omega) (by omega)) (wl_s (o_assign (vI ((l.length : Int) - (1 : Int))) rfl (wl_nil (thenQ_n (?_)))))))))))
 refine cw_block (?_)
 refine cw_loop (fun mI FI wI => ∃ (k : Nat) (B : List Nat), k ≤ l.length ∧ mI = k ∧ (∃ F1, FI = upds F1 [(0, l_v), (1, vB x), (4, vB (pev (l.drop k) x)), (5, vI ((k : Int) - 1)), (22, undef)]) ∧ St w O wI B ∧ RdL Enc.u8 wI (B ++ O) (l_v) (l)) ((l.length)) ?_ ?_
 ·exact ⟨(l.length), [], (by first | omega | (simp; done) | (simp; omega) | simp_all), rfl, ⟨_, upds_self _ ⟨rfl, rfl, (congrArg vB (by rw [List.drop_length]; rfl)), (by first | rfl | exact congrArg (Value.int _) (by first | omega | (simp))), rfl, trivial⟩⟩, s0, h_l⟩
 ·intro ml0 F wl0 hI
  clear h_l
  obtain ⟨k, Bl0, hr0_0, hm0, ⟨Fl0, rfl⟩, sl0, h_l⟩ := hI
  refine cw_seq (?_)
  refine cw_seq (?_)
  refine cw_region (by kernel_rfl) (wl_s (o_move (vI ((k : Int) - 1)) rfl (wl_s (o_geq .i64 ((k : Int) - 1) (0 : Int) rfl rfl (wl_nil (thenQ_n (?_)))))))
  refine cw_cond (decide ((0 : Int) ≤ (k : Int) - 1)) rfl rfl (fun hc124 => ?_) (fun hc124 => ?_)
  ·have hp125 : (0 : Int) ≤ (k : Int) - 1 := by first | simpa using hc124 | (have e := hc124; simp at e; omega)
   obtain ⟨q, rfl⟩ : ∃ q, k = q + 1 := ⟨k - 1, by omega⟩
   rw [show ((q + 1 : Nat) : Int) - 1 = ((q : Nat) : Int) from by omega]
   refine cw_skip (thenQ_n (?_))
   refine cw_seq (?_)
   refine cw_block (?_)
   refine cw_draw' 7 _ _ [isV (vB (pev (l.drop (q + 1)) x)), isV (vB x), isV (vB (gmul (pev (l.drop (q + 1)) x) x)), fun (vT : Value) (wT : World) => RdL Enc.u8 wT (Bl0 ++ O) vT (l), isV (vI ((q : Nat) : Int)), fun (vT : Value) (wT : World) => ∃ aT, vT = .pointer (some aT) ∧ PT Enc.u8 wT (Bl0 ++ O) (.pointer (some aT)) (l[q]!), isV (vB (l[q]!))] (by kernel_rfl) (by kernel_rfl) (by kernel_rfl) (by kernel_rfl) rfl rfl ⟨kI, kI, kI, fun _ _ _ h k => h.mv (Mv.of_keep k), kI, fun _ _ _ ⟨a, e, h⟩ k => ⟨a, e, h.mv (Mv.of_keep k)⟩, kI, trivial⟩ ⟨?_, ?_, ?_, ?_, ?_, ?_, ?_, trivial⟩ ?_
   ·intro F1 w1 k1 hf hd
    obtain ⟨F2, rfl⟩ := lit_of (F := F1) [(4, vB (pev (l.drop (q + 1)) x))] ⟨hf 4 (by kernel_rfl), trivial⟩
    exact sp_plain rfl ((o_move (vB (pev (l.drop (q + 1)) x)) rfl (⟨(Keep.refl _ _), rfl⟩)))
   ·intro F1 w1 k1 hf hd
    obtain ⟨F2, rfl⟩ := lit_of (F := F1) [(1, vB x)] ⟨hf 1 (by kernel_rfl), trivial⟩
    exact sp_plain rfl ((o_move (vB x) rfl (⟨(Keep.refl _ _), rfl⟩)))
   ·intro F1 w1 k1 hf hd
    have k0 := (Keep.drew [] wl0).trans k1
    have s1 := sl0.call k0
    obtain ⟨F2, rfl⟩ := lit_of (F := F1) [(13, vB (pev (l.drop (q + 1)) x)), (14, vB x)] ⟨hd 0 13 (by kernel_rfl), hd 1 14 (by kernel_rfl), trivial⟩
    refine sp_plain rfl ((o_callK (vs := [vB (pev (l.drop (q + 1)) x), vB x]) enter_20 (c_mul (O := Bl0 ++ O) (pev (l.drop (q + 1)) x) x w1 s1.lt) rfl s1 fun v126 w127 s128 m129 k130 r131 => (?_)))
    obtain rfl := r131
    exact ⟨k130, rfl⟩
   ·intro F1 w1 k1 hf hd
    have k0 := (Keep.drew [] wl0).trans k1
    have m1 : Mv Bl0 wl0 Bl0 w1 := Mv.of_keep k0
    have h_l := h_l.mv m1
    obtain ⟨F2, rfl⟩ := lit_of (F := F1) [(0, l_v)] ⟨hf 0 (by kernel_rfl), trivial⟩
    exact sp_plain rfl ((o_move (l_v) rfl (⟨(Keep.refl _ _), h_l⟩)))
   ·intro F1 w1 k1 hf hd
    obtain ⟨F2, rfl⟩ := lit_of (F := F1) [(5, vI ((q : Nat) : Int))] ⟨hf 5 (by kernel_rfl), trivial⟩
    exact sp_plain rfl ((o_move (vI ((q : Nat) : Int)) rfl (⟨(Keep.refl _ _), rfl⟩)))
   ·intro F1 w1 k1 hf hd
    obtain ⟨v132, e134, hl133⟩ : ∃ v, F1 16 = v ∧ RdL Enc.u8 w1 (Bl0 ++ O) v (l) := ⟨_, rfl, hd 3 16 (by kernel_rfl)⟩
    have := hl133.len_le
    obtain ⟨F2, rfl⟩ := lit_of (F := F1) [(16, v132), (17, vI ((q : Nat) : Int))] ⟨e134, hd 4 17 (by kernel_rfl), trivial⟩
    exact sp_plain rfl ((o_idx Try.underlying28 s_5 .i64 ((q : Nat) : Int) q rfl rfl rfl hl133 (by omega) fun a135 hp136 => (⟨(Keep.refl _ _), ⟨a135, rfl, hp136⟩⟩)))
   ·intro F1 w1 k1 hf hd
    obtain ⟨a137, e139, hp138⟩ : ∃ a, F1 18 = .pointer (some a) ∧ PT Enc.u8 w1 (Bl0 ++ O) (.pointer (some a)) (l[q]!) := hd 5 18 (by kernel_rfl)
    obtain ⟨F2, rfl⟩ := lit_of (F := F1) [(18, Value.pointer (some a137))] ⟨e139, trivial⟩
    exact sp_plain rfl ((o_loadB Try.underlying5 rfl rfl hp138 (⟨(Keep.refl _ _), rfl⟩)))
   intro F141 w142 k140 hT143 hF144
   have s145 := sl0.call k140
   have m146 : Mv Bl0 wl0 Bl0 w142 := Mv.of_keep k140
   have h_l := h_l.mv m146
   obtain ⟨F2, rfl⟩ := lit_of (F := F141) [(0, l_v), (1, vB x), (4, vB (pev (l.drop (q + 1)) x)), (5, vI ((q : Nat) : Int)), (22, undef), (15, vB (gmul (pev (l.drop (q + 1)) x) x)), (19, vB (l[q]!))] ⟨hF144 0 (by kernel_rfl), hF144 1 (by kernel_rfl), hF144 4 (by kernel_rfl), hF144 5 (by kernel_rfl), hF144 22 (by kernel_rfl), hT143 2 15 (by kernel_rfl) (by decide), hT143 6 19 (by kernel_rfl) (by decide), trivial⟩
   clear hT143 hF144
   refine wl_s (o_xor8 (gmul (pev (l.drop (q + 1)) x) x) (l[q]!) rfl rfl (wl_s (o_assign (vB ((gmul (pev (l.drop (q + 1)) x) x) ^^^ (l[q]!))) rfl (wl_nil (blockQ_n (thenQ_n (?_)))))))
   refine cw_region (by kernel_rfl) (wl_s (o_move (vI ((q : Nat) : Int)) rfl (wl_s (o_sub .i64 ((q : Nat) : Int) (1 : Int) (((q : Nat) : Int) - (1 : Int)) rfl rfl (w64 (by omega) (by omega)) (wl_s (o_assign (vI (((q : Nat) : Int) - (1 : Int))) rfl (wl_nil (thenQ_n (?_)))))))))
   exact ⟨_, (by omega), (q), Bl0, (by first | omega | (simp; done) | (simp; omega) | simp_all), rfl, ⟨_, upds_self _ ⟨rfl, rfl, (congrArg vB (by rw [pev_drop (l := l) (k := q) (by omega)])), (by first | rfl | exact congrArg (Value.int _) (by first | omega | (simp))), rfl, trivial⟩⟩, s145, h_l⟩
  ·have hp148 : (k : Int) - 1 < (0 : Int) := by first | simpa using hc124 | (have e := hc124; simp at e; omega)
   obtain rfl : k = 0 := by omega
   refine cw_exit (thenQ_x (thenQ_x (blockQ_x (thenQ_n (?_)))))
   refine cw_seq (?_)
   refine cw_region (by kernel_rfl) (wl_s (o_move (vB (pev (l.drop 0) x)) rfl (wl_s (o_assign (vB (pev (l.drop 0) x)) rfl (wl_nil (thenQ_n (?_)))))))
   refine cw_ret (end_r rfl (res1 rfl rfl rfl) (?_))
   have e : (pev l x) = (pev (l.drop 0) x) := rfl
   exact ⟨_, rfl, sl0.keep, by rw [e]; exact rfl⟩
set_option maxHeartbeats 4000000 in
set_option maxRecDepth 100000 in
theorem c_powers {O : List Nat} (a : UInt8) (w : World) (hO : ∀ b ∈ O, b < w.heap.size) : CallsK Try.prog 64 [vB a] w (fun v w' => ∃ (a0_0 : Addr), v = .func (.func 68) #[] #[.pointer (some a0_0)] ∧ PT Enc.u8 w' (O) (.pointer (some a0_0)) (a)) :=  by
 have s0 : St w O w [] := St.start hO
 refine callsK_of 4 Try.func64 rfl rfl (of_decide_eq_true rfl) (fun F0 => ?_)
 refine cw_seq (?_)
 refine cw_region (by kernel_rfl) (wl_s (o_boxR (E := Enc.u8) (vB a) ([vB a]) a rfl rfl rfl s0 fun a149 w150 s151 m152 k153 hp154 => (?_)))
 refine wl_s (o_assign (Value.nilFunc) rfl (wl_nil (thenQ_n (?_))))
 refine cw_seq (?_)
 refine cw_region (by kernel_rfl) (wl_s (o_makeFunc (first := []) (captured := [.tmp 1]) [] [Value.pointer (some a149)] rfl rfl (wl_s (o_assign (Value.func (.func 68) #[] #[Value.pointer (some a149)]) rfl (wl_nil (thenQ_n (?_)))))))
 refine cw_ret (end_r rfl (res1 rfl rfl rfl) (?_))
 exact ⟨_, rfl, s151.keep, ⟨_, rfl, (hp154.sub (fun b hb => .inl (List.mem_append_right _ hb)))⟩⟩
set_option maxHeartbeats 4000000 in
set_option maxRecDepth 100000 in
theorem it_powers (w : World) (L : List Nat) (a_a : Addr) (a : UInt8) (h_a0 : PT Enc.u8 w L (.pointer (some a_a)) a) (hL : ∀ b ∈ L, b < w.heap.size) (l : Nat) (N : Nat) (I : Nat → World → Prop) (J : World → Prop) (hI : ∀ i w', I i w' → Keep L w w') (hst : ∀ i w1 w2, I i w1 → Keep [] w1 w2 → I i w2) (hN : ∀ i w', I i w' → i ≤ N) (hNb : N < 4611686018427387904) (hR : ∀ i w', I i w' → YieldsW Try.prog l [vI ((i : Nat) : Int), vB (gpow a i)] w' (fun v w2 => (v = .bool true ∧ I (i + 1) w2) ∨ (v = .bool false ∧ J w2))) (h0 : I 0 w) : Calls Try.prog 68 ([] ++ [Value.func (.yield l) #[] #[]] ++ [Value.pointer (some a_a)]).toArray w (fun e w' => (∃ v, e = .returned v) ∧ (J w' ∨ ∃ i, False ∧ I i w')) :=  by
 have h_a0 : PT Enc.u8 w (L ++ []) (.pointer (some a_a)) a := by rw [List.append_nil]; exact h_a0
 refine calls_of_cw 14 Try.func68 rfl rfl (of_decide_eq_true rfl) (fun F0 => ?_)
 have hk_w := hI _ _ h0
 have h_a : PT Enc.u8 w ([] ++ L) (.pointer (some a_a)) a := by have h := h_a0.mv (Mv.same hk_w); rw [List.append_nil] at h; exact h
 have s155 : St w L w [] := St.start (fun b hb => Nat.lt_of_lt_of_le (hL b hb) hk_w.size)
 refine cw_seq (?_)
 refine cw_region (by kernel_rfl) (wl_s (o_assign (vB (1 : UInt8)) rfl (wl_nil (thenQ_n (?_)))))
 refine cw_seq (?_)
 refine cw_region (by kernel_rfl) (wl_s (o_assign (vI (0 : Int)) rfl (wl_nil (thenQ_n (?_)))))
 refine cw_block (?_)
 refine cw_loop (fun mI FI wI => ∃ k : Nat, mI = N + 1 - k ∧ (∃ F1, FI = upds F1 [(0, Value.func (.yield l) #[] #[]), (1, Value.pointer (some a_a)), (3, vB (gpow a k)), (4, vI ((k : Nat) : Int)), (14, undef)]) ∧ I (k) wI) (N + 1 - (0)) ?_ ?_
 ·exact ⟨(0), rfl, ⟨_, upds_self _ ⟨rfl, rfl, (congrArg vB (by first | rfl | (rfl))), (by first | rfl | exact congrArg (Value.int _) (by first | omega | (simp))), rfl, trivial⟩⟩, h0⟩
 ·rintro ml F wl ⟨k, rfl, ⟨Fl, rfl⟩, hIl⟩
  have hk_wl := hI _ _ hIl
  have h_a : PT Enc.u8 wl ([] ++ L) (.pointer (some a_a)) a := by have h := h_a0.mv (Mv.same hk_wl); rw [List.append_nil] at h; exact h
  have s156 : St wl L wl [] := St.start (fun b hb => Nat.lt_of_lt_of_le (hL b hb) hk_wl.size)
  have hkN := hN _ _ hIl
  refine cw_seq (?_)
  refine cw_seq (?_)
  refine cw_region (by kernel_rfl) (wl_s (o_move (Value.func (.yield l) #[] #[]) rfl (wl_s (o_move (vI ((k : Nat) : Int)) rfl (wl_s (o_move (vB (gpow a k)) rfl (wl_y l [vI ((k : Nat) : Int), vB (gpow a k)] rfl rfl ?_)))))))
  refine YieldsW.mono (hR k _ hIl) (fun v w2 h => ?_)
  obtain ⟨rfl, hI2⟩ | ⟨rfl, hJ⟩ := h
  ·have hk_w2 := hI _ _ hI2
   have h_a : PT Enc.u8 w2 ([] ++ L) (.pointer (some a_a)) a := by have h := h_a0.mv (Mv.same hk_w2); rw [List.append_nil] at h; exact h
   have s157 : St w2 L w2 [] := St.start (fun b hb => Nat.lt_of_lt_of_le (hL b hb) hk_w2.size)
   refine wl_nil (thenQ_n (?_))
   refine cw_cond true rfl rfl (fun _ => ?_) (fun h => by cases h)
   refine cw_skip (thenQ_n (?_))
   refine cw_seq (?_)
   refine cw_block (?_)
   refine cw_region (by kernel_rfl) (wl_s (o_move (vB (gpow a k)) rfl (wl_s (o_loadB Try.underlying5 rfl rfl h_a (wl_s (o_callK (vs := [vB (gpow a k), vB a]) enter_20 (c_mul (O := [] ++ L) (gpow a k) a w2 s157.lt) rfl s157 fun v158 w159 s160 m161 k162 r163 => (?_)))))))
   obtain rfl := r163
   have hI2 := hst _ _ _ hI2 k162
   refine wl_s (o_assign (vB (gmul (gpow a k) a)) rfl (wl_nil (blockQ_n (thenQ_n (?_)))))
   refine cw_region (by kernel_rfl) (wl_s (o_move (vI ((k : Nat) : Int)) rfl (wl_s (o_add .i64 ((k : Nat) : Int) (1 : Int) (((k + 1 : Nat) : Int)) rfl rfl (w64 (by omega) (by omega)) (wl_s (o_assign (vI ((k + 1 : Nat) : Int)) rfl (wl_nil (thenQ_n (?_)))))))))
   exact ⟨_, (by omega), (k + 1), rfl, ⟨_, upds_self _ ⟨rfl, rfl, (congrArg vB (by first | rfl | (rfl))), (by first | rfl | exact congrArg (Value.int _) (by first | omega | (simp))), rfl, trivial⟩⟩, hI2⟩
  ·refine wl_nil (thenQ_n (?_))
   refine cw_cond false rfl rfl (fun h => by cases h) (fun _ => ?_)
   refine cw_exit (thenQ_x (thenQ_x (blockQ_x (end_n rfl (res0 rfl) (?_)))))
   exact ⟨⟨_, rfl⟩, .inl hJ⟩
set_option maxHeartbeats 4000000 in
set_option maxRecDepth 100000 in
theorem c_inverse {O : List Nat} (a : UInt8) (w : World) (hO : ∀ b ∈ O, b < w.heap.size) : CallsK Try.prog 42 [vB a] w (fun v _ => v = vB (ginv a)) :=  by
 have s0 : St w O w [] := St.start hO
 refine callsK_ofM 12 Try.func42 rfl rfl (of_decide_eq_true rfl) (fun F0 => ?_)
 refine cw_seq (?_)
 refine cw_region (by kernel_rfl) (wl_s (o_alloc [vB (0 : UInt8)] z_5 rfl s0 fun b164 w165 e170 s166 m167 k168 bx169 => (?_)))
 clear e170
 refine wl_nil (thenQ_n (?_))
 refine cw_seq (?_)
 refine cw_seq (?_)
 refine cw_region (by kernel_rfl) (wl_s (o_move (vB a) rfl (wl_s (o_callK (vs := [vB a]) enter_64 (c_powers (O := (b164 :: []) ++ O) a w165 s166.lt) rfl s166 fun v171 w172 s173 m174 k175 r176 => (?_)))))
 obtain ⟨a177, rfl, hp178⟩ := r176
 have bx169 := bx169.keep k175 (by simp)
 refine wl_nil (thenQ_n (?_))
 refine cw_block (?_)
 refine cw_range (fs := []) (lb := [Value.pointer (some a177)]) rfl rfl enter_68 rfl (fun l_0 D_0 w179 R_0 _ hR_0 hD181 hl182 k180 oD_0 oL_0 => ?_)
 have ne185 : b164 ≠ D_0 ∧ b164 ≠ l_0 := by have := bx169.lt; omega
 have s183 := s173.adopt2 k180 hD181 (by omega) oD_0.lt oL_0.lt
 have m184 : Mv (b164 :: []) w172 (l_0 :: D_0 :: (b164 :: [])) w179 := Mv.adopt2 k180 hD181 (by omega)
 have hp178 := hp178.mv m184
 have bx169 := bx169.keep k180 (by simp)
 have hDl_0 : D_0 ≠ l_0 := by omega
 clear hl182
 have since186 : Mv (l_0 :: D_0 :: (b164 :: [])) w179 (l_0 :: D_0 :: (b164 :: [])) w179 := Mv.refl _ _
 have hL_0 := s183.lt
 refine Calls.mono (it_powers w179 ((l_0 :: D_0 :: (b164 :: [])) ++ O) a177 a hp178 hL_0 l_0 (254) (fun (i : Nat) wI => ∃ (B : List Nat), i ≤ 254 ∧ St w O wI B ∧ PT Enc.u8 wI (B ++ O) (.pointer (some a177)) (a) ∧ Ob wI D_0 (.deferred (some [])) ∧ Ob wI l_0 (R_0 .ready none) ∧ b164 ∈ B ∧ D_0 ∈ B ∧ l_0 ∈ B ∧ Mv (l_0 :: D_0 :: (b164 :: [])) w179 B wI ∧ Box wI b164 5 [vB (0 : UInt8)]) (fun wI => (∃ (i : Nat) (B : List Nat), St w O wI B ∧ PT Enc.u8 wI (B ++ O) (.pointer (some a177)) (a) ∧ Ob wI D_0 (.deferred (some [])) ∧ Ob wI l_0 (R_0 .done (some (.ret))) ∧ b164 ∈ B ∧ D_0 ∈ B ∧ l_0 ∈ B ∧ Mv (l_0 :: D_0 :: (b164 :: [])) w179 B wI ∧ Box wI b164 5 [vB (ginv a)])) ?_ ?_ ?_ (by omega) ?_ ?_) (fun e w2 hJ => ⟨hJ.1, ?_⟩)
 ·intro i w' hI
  clear hp178 oD_0 oL_0 since186
  obtain ⟨Bl, hq0_0, sl, hp178, oD_0, oL_0, hin_b164, hin_D_0, hin_l_0, since186, hbx_b164⟩ := hI
  exact Keep.mono since186.keep (fun b hb => .inl (List.mem_append_left _ hb))
 ·intro i wa wb hI kk
  clear hp178 oD_0 oL_0 since186
  obtain ⟨Bl, hq0_0, sl, hp178, oD_0, oL_0, hin_b164, hin_D_0, hin_l_0, since186, hbx_b164⟩ := hI
  have sl2 := sl.call kk
  have ml2 : Mv Bl wa Bl wb := Mv.of_keep kk
  have hp178 := hp178.mv ml2
  have hbx_b164 := hbx_b164.keep kk (by simp)
  have oD_0 := oD_0.keep kk (by simp)
  have oL_0 := oL_0.keep kk (by simp)
  have since186 := since186.trans ml2
  exact ⟨Bl, hq0_0, sl2, hp178, oD_0, oL_0, (by first | assumption | (repeat (first | exact List.mem_cons_self | assumption | apply List.mem_cons_of_mem))), (by first | assumption | (repeat (first | exact List.mem_cons_self | assumption | apply List.mem_cons_of_mem))), (by first | assumption | (repeat (first | exact List.mem_cons_self | assumption | apply List.mem_cons_of_mem))), since186, hbx_b164⟩
 ·intro i w' hI
  clear hp178 oD_0 oL_0 since186
  obtain ⟨Bl, hq0_0, sl, hp178, oD_0, oL_0, hin_b164, hin_D_0, hin_l_0, since186, hbx_b164⟩ := hI
  omega
 ·intro i wr hI
  clear hp178 oD_0 oL_0 since186
  obtain ⟨Bl, hq0_0, sl, hp178, oD_0, oL_0, hin_b164, hin_D_0, hin_l_0, since186, hbx_b164⟩ := hI
  refine yields_of hR_0 oL_0 rfl (by decide) ?_
  refine cw_seq (?_)
  refine cw_region (by kernel_rfl) (wl_s (o_assign (vI ((i : Nat) : Int)) rfl (wl_nil (thenQ_n (?_)))))
  refine cw_region (by kernel_rfl) (wl_s (o_assign (vB (gpow a i)) rfl (wl_nil (thenQ_n (?_)))))
  refine ⟨oL_0, fun w187 k188 ox191 => ?_⟩
  have s189 := sl.keepB k188 (by first | assumption | (repeat (first | exact List.mem_cons_self | assumption | apply List.mem_cons_of_mem)))
  have m190 : Mv Bl wr Bl w187 := Mv.keepB k188 (by first | assumption | (repeat (first | exact List.mem_cons_self | assumption | apply List.mem_cons_of_mem)))
  have hp178 := hp178.mv m190
  have hbx_b164 := hbx_b164.keep k188 (by simp only [List.mem_singleton]; exact ne185.2)
  have oD_0 := oD_0.keep k188 (by simp only [List.mem_singleton]; exact hDl_0)
  have since186 := since186.trans m190
  refine cw_block (?_)
  refine cw_seq (?_)
  refine cw_region (by kernel_rfl) (wl_s (o_move (vI ((i : Nat) : Int)) rfl (wl_s (o_eql .i64 ((i : Nat) : Int) (254 : Int) rfl rfl (wl_nil (thenQ_n (?_)))))))
  refine cw_cond (((i : Nat) : Int) == (254 : Int)) rfl rfl (fun hc192 => ?_) (fun hc192 => ?_)
  ·have hp193 : ((i : Nat) : Int) = (254 : Int) := by first | simpa using hc192 | (have e := hc192; simp at e; omega)
   refine cw_seq (?_)
   refine cw_region (by kernel_rfl) (wl_s (o_move (vB (gpow a i)) rfl (wl_n (o_store1 (vB (gpow a i)) rfl rfl rfl s_5 (by first | assumption | (repeat (first | exact List.mem_cons_self | assumption | apply List.mem_cons_of_mem))) hbx_b164 (of_decide_eq_true rfl) s189 fun w194 s195 m196 k197 bx198 => (?_)))))
   have hp178 := hp178.mv m196
   have oD_0 := oD_0.keep k197 (by simp only [List.mem_singleton]; first | omega | exact (Ne.symm ne185.1))
   have ox191 := ox191.keep k197 (by simp only [List.mem_singleton]; first | omega | exact (Ne.symm ne185.2))
   have since186 := since186.trans m196
   refine wl_nil (thenQ_n (?_))
   refine cw_ret (blockQ_r (round_r ox191 (fun w199 k200 ox203 => ?_)))
   have s201 := s195.keepB k200 (by first | assumption | (repeat (first | exact List.mem_cons_self | assumption | apply List.mem_cons_of_mem)))
   have m202 : Mv Bl w194 Bl w199 := Mv.keepB k200 (by first | assumption | (repeat (first | exact List.mem_cons_self | assumption | apply List.mem_cons_of_mem)))
   have hp178 := hp178.mv m202
   have bx198 := bx198.keep k200 (by simp only [List.mem_singleton]; exact ne185.2)
   have oD_0 := oD_0.keep k200 (by simp only [List.mem_singleton]; exact hDl_0)
   have since186 := since186.trans m202
   have oL_0 := ox203
   refine .inr ⟨rfl, ?_⟩
   exact ⟨i, Bl, s201, hp178, oD_0, oL_0, (by first | assumption | (repeat (first | exact List.mem_cons_self | assumption | apply List.mem_cons_of_mem))), (by first | assumption | (repeat (first | exact List.mem_cons_self | assumption | apply List.mem_cons_of_mem))), (by first | assumption | (repeat (first | exact List.mem_cons_self | assumption | apply List.mem_cons_of_mem))), since186, (by rw [show ([vB (ginv a)] : List Value) = [vB (gpow a i)] from by rw [ginv_at a i (by omega)]]; exact bx198)⟩
  ·have hp204 : ((i : Nat) : Int) ≠ (254 : Int) := by first | simpa using hc192 | (have e := hc192; simp at e; omega)
   refine cw_skip (blockQ_n (round_n ox191 (fun w205 k206 ox209 => ?_)))
   have s207 := s189.keepB k206 (by first | assumption | (repeat (first | exact List.mem_cons_self | assumption | apply List.mem_cons_of_mem)))
   have m208 : Mv Bl w187 Bl w205 := Mv.keepB k206 (by first | assumption | (repeat (first | exact List.mem_cons_self | assumption | apply List.mem_cons_of_mem)))
   have hp178 := hp178.mv m208
   have hbx_b164 := hbx_b164.keep k206 (by simp only [List.mem_singleton]; exact ne185.2)
   have oD_0 := oD_0.keep k206 (by simp only [List.mem_singleton]; exact hDl_0)
   have since186 := since186.trans m208
   have oL_0 := ox209
   refine .inl ⟨rfl, ?_⟩
   exact ⟨Bl, (by first | omega | assumption | (simp; done) | (simp; omega) | simp_all), s207, hp178, oD_0, oL_0, (by first | assumption | (repeat (first | exact List.mem_cons_self | assumption | apply List.mem_cons_of_mem))), (by first | assumption | (repeat (first | exact List.mem_cons_self | assumption | apply List.mem_cons_of_mem))), (by first | assumption | (repeat (first | exact List.mem_cons_self | assumption | apply List.mem_cons_of_mem))), since186, hbx_b164⟩
 ·exact ⟨(l_0 :: D_0 :: (b164 :: [])), (by first | omega | assumption | (simp; done) | (simp; omega) | simp_all), s183, hp178, oD_0, oL_0, (by first | assumption | (repeat (first | exact List.mem_cons_self | assumption | apply List.mem_cons_of_mem))), (by first | assumption | (repeat (first | exact List.mem_cons_self | assumption | apply List.mem_cons_of_mem))), (by first | assumption | (repeat (first | exact List.mem_cons_self | assumption | apply List.mem_cons_of_mem))), since186, bx169⟩
 obtain ⟨_, hJ⟩ := hJ
 clear hp178 oD_0 oL_0 since186
 rcases hJ with (hJ) | ⟨i, hi, hJ⟩
 ·obtain ⟨i, Bl, sl, hp178, oD_0, oL_0, hin_b164, hin_D_0, hin_l_0, since186, hbx_b164⟩ := hJ
  refine ⟨.done, (some (.ret)), by simp, oL_0, fun w210 k211 => ?_⟩
  have s212 := sl.keepB k211 (by first | assumption | (repeat (first | exact List.mem_cons_self | assumption | apply List.mem_cons_of_mem)))
  have hbx_b164 := hbx_b164.keep k211 (by simp only [List.mem_singleton]; exact ne185.2)
  have oD_0 := oD_0.keep k211 (by simp only [List.mem_singleton]; exact hDl_0)
  refine cw_ret (blockQ_r (thenQ_r (?_)))
  refine endM_rm rfl oD_0 (fun w214 k215 => ?_)
  have s216 := s212.keepB k215 (by first | assumption | (repeat (first | exact List.mem_cons_self | assumption | apply List.mem_cons_of_mem)))
  have hbx_b164 := hbx_b164.keep k215 (by simp only [List.mem_singleton]; exact ne185.1)
  refine ⟨_, resc rfl rfl Try.underlying5 rfl rfl hbx_b164 rfl, ?_⟩
  exact ⟨_, rfl, s216.keep, rfl⟩
 ·exact hi.elim
set_option maxHeartbeats 4000000 in
set_option maxRecDepth 100000 in
theorem c_inv {O : List Nat} (a : UInt8) (w : World) (hO : ∀ b ∈ O, b < w.heap.size) : CallsK Try.prog 18 [vB a] w (fun v _ => v = .tuple #[vB ((inv a).1), vI ((inv a).2)]) :=  by
 have s0 : St w O w [] := St.start hO
 refine callsK_of 8 Try.func18 rfl rfl (of_decide_eq_true rfl) (fun F0 => ?_)
 refine cw_seq (?_)
 refine cw_region (by kernel_rfl) (wl_s (o_assign (vB (0 : UInt8)) rfl (wl_s (o_assign (vI (0 : Int)) rfl (wl_nil (thenQ_n (?_)))))))
 refine cw_seq (?_)
 refine cw_seq (?_)
 refine cw_region (by kernel_rfl) (wl_s (o_move (vB a) rfl (wl_s (o_eql8 a (0 : UInt8) rfl rfl (wl_nil (thenQ_n (?_)))))))
 refine cw_cond (a == (0 : UInt8)) rfl rfl (fun hc218 => ?_) (fun hc218 => ?_)
 ·have hp219 : a = (0 : UInt8) := by first | simpa using hc218 | (have e := hc218; simp at e; omega)
  refine cw_seq (?_)
  refine cw_region (by kernel_rfl) (wl_s (o_assign (vB (0 : UInt8)) rfl (wl_s (o_assign (vI (1 : Int)) rfl (wl_nil (thenQ_n (?_)))))))
  refine cw_ret (thenQ_r (end_r rfl (res2 rfl rfl rfl rfl) (?_)))
  have e : (inv a) = ((0 : UInt8), (1 : Int)) := by simp [inv, *]
  exact ⟨_, rfl, s0.keep, by rw [e]; exact rfl⟩
 ·have hp220 : a ≠ (0 : UInt8) := by first | simpa using hc218 | (have e := hc218; simp at e; omega)
  refine cw_skip (thenQ_n (?_))
  refine cw_seq (?_)
  refine cw_region (by kernel_rfl) (wl_s (o_move (vB a) rfl (wl_s (o_callK (vs := [vB a]) enter_42 (c_inverse (O := [] ++ O) a w s0.lt) rfl s0 fun v221 w222 s223 m224 k225 r226 => (?_)))))
  obtain rfl := r226
  refine wl_s (o_assign (vB (ginv a)) rfl (wl_s (o_assign (vI (0 : Int)) rfl (wl_nil (thenQ_n (?_))))))
  refine cw_ret (end_r rfl (res2 rfl rfl rfl rfl) (?_))
  have e : (inv a) = (ginv a, (0 : Int)) := by simp [inv, *]
  exact ⟨_, rfl, s223.keep, by rw [e]; exact rfl⟩

end Go.Proofs.Yteajcgfcnbdmgaa
