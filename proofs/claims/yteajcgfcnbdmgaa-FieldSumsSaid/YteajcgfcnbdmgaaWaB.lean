/- Walks, printed by gen.py. -/
import Derived.Test.YteajcgfcnbdmgaaWaA
namespace Go.Proofs.Yteajcgfcnbdmgaa
open Go.Fw Go.RowKit

set_option maxHeartbeats 4000000 in
set_option maxRecDepth 100000 in
theorem c_eval {O : List Nat} (l_v : Value) (l : List UInt8) (x : UInt8) (w : World) (h_l : RdL Enc.u8 w O l_v l) (hO : ∀ b ∈ O, b < w.heap.size) : CallsK Try.prog 26 [l_v, vB x] w (fun v _ => v = vB (pev l x)) :=  by
  have lim_l := h_l.len_le
  have h_l : RdL Enc.u8 w ([] ++ O) l_v l := h_l
  have s0 : St w O w [] := St.start hO
  refine callsK_of 22 Try.func26 rfl rfl (of_decide_eq_true rfl) (fun F0 => ?_)
  refine cw_seq (?_)
  refine cw_region (by kernel_rfl) (wl_s (o_assign (vB (0 : UInt8)) rfl (wl_nil (thenQ_n (?_)))))
  refine cw_seq (?_)
  refine cw_seq (?_)
  refine cw_region (by kernel_rfl) (wl_s (o_move (l_v) rfl (wl_s (o_lenR Try.underlying28 rfl h_l (wl_s (o_sub .i64 (l.length : Int) (1 : Int) ((l.length : Int) - (1 : Int)) rfl rfl (w64 (by omega) (by omega)) (wl_s (o_assign (vI ((l.length : Int) - (1 : Int))) rfl (wl_nil (thenQ_n (?_)))))))))))
  refine cw_block (?_)
  refine cw_loop (fun mI FI wI => ∃ (k : Nat) (B : List Nat), k ≤ l.length ∧ mI = k ∧ (∃ F1, FI = upds F1 [(0, l_v), (1, vB x), (4, vB (pev (l.drop k) x)), (5, vI ((k : Int) - 1)), (22, undef)]) ∧ St w O wI B ∧ RdL Enc.u8 wI (B ++ O) (l_v) (l)) ((l.length)) ?_ ?_
  · exact ⟨(l.length), [], (by first | omega | (simp; done) | (simp; omega) | simp_all), rfl, ⟨_, upds_self _ ⟨rfl, rfl, (congrArg vB (by rw [List.drop_length]; rfl)), (by first | rfl | exact congrArg (Value.int _) (by first | omega | (simp))), rfl, trivial⟩⟩, s0, h_l⟩
  · intro ml0 F wl0 hI
    clear h_l
    obtain ⟨k, Bl0, hr0_0, hm0, ⟨Fl0, rfl⟩, sl0, h_l⟩ := hI
    refine cw_seq (?_)
    refine cw_seq (?_)
    refine cw_region (by kernel_rfl) (wl_s (o_move (vI ((k : Int) - 1)) rfl (wl_s (o_geq .i64 ((k : Int) - 1) (0 : Int) rfl rfl (wl_nil (thenQ_n (?_)))))))
    refine cw_cond (decide ((0 : Int) ≤ (k : Int) - 1)) rfl rfl (fun hc136 => ?_) (fun hc136 => ?_)
    · have hp137 : (0 : Int) ≤ (k : Int) - 1 := by first | simpa using hc136 | (have e := hc136; simp at e; omega)
      obtain ⟨q, rfl⟩ : ∃ q, k = q + 1 := ⟨k - 1, by omega⟩
      rw [show ((q + 1 : Nat) : Int) - 1 = ((q : Nat) : Int) from by omega]
      refine cw_skip (thenQ_n (?_))
      refine cw_seq (?_)
      refine cw_block (?_)
      refine cw_draw' 7 _ _ [fun v _ => v = vB (pev (l.drop (q + 1)) x), fun v _ => v = vB x, fun v _ => v = vB (gmul (pev (l.drop (q + 1)) x) x), fun v w => RdL Enc.u8 w (Bl0 ++ O) v (l), fun v _ => v = vI ((q : Nat) : Int), fun v w => ∃ a, v = .pointer (some a) ∧ PT Enc.u8 w (Bl0 ++ O) (.pointer (some a)) (l[q]!), fun v _ => v = vB (l[q]!)] (by kernel_rfl) (by kernel_rfl) (by kernel_rfl) (by kernel_rfl) rfl rfl ⟨fun _ _ _ h _ => h, fun _ _ _ h _ => h, fun _ _ _ h _ => h, fun _ _ _ h k => h.mv (Mv.of_keep k), fun _ _ _ h _ => h, fun _ _ _ ⟨a, e, h⟩ k => ⟨a, e, h.mv (Mv.of_keep k)⟩, fun _ _ _ h _ => h, trivial⟩ ⟨?_, ?_, ?_, ?_, ?_, ?_, ?_, trivial⟩ ?_
      · intro F1 w1 k1 hf hd
        have k0 := (Keep.drew [] wl0).trans k1
        have s1 := sl0.call k0
        have m1 : Mv Bl0 wl0 Bl0 w1 := Mv.of_keep k0
        obtain ⟨F2, rfl⟩ := lit_of (F := F1) [(4, vB (pev (l.drop (q + 1)) x))] ⟨hf 4 (by kernel_rfl), trivial⟩
        exact sp_plain rfl ((o_move (vB (pev (l.drop (q + 1)) x)) rfl (⟨(Keep.refl _ _), rfl⟩)))
      · intro F1 w1 k1 hf hd
        have k0 := (Keep.drew [] wl0).trans k1
        have s1 := sl0.call k0
        have m1 : Mv Bl0 wl0 Bl0 w1 := Mv.of_keep k0
        obtain ⟨F2, rfl⟩ := lit_of (F := F1) [(1, vB x)] ⟨hf 1 (by kernel_rfl), trivial⟩
        exact sp_plain rfl ((o_move (vB x) rfl (⟨(Keep.refl _ _), rfl⟩)))
      · intro F1 w1 k1 hf hd
        have k0 := (Keep.drew [] wl0).trans k1
        have s1 := sl0.call k0
        have m1 : Mv Bl0 wl0 Bl0 w1 := Mv.of_keep k0
        obtain ⟨F2, rfl⟩ := lit_of (F := F1) [(13, vB (pev (l.drop (q + 1)) x)), (14, vB x)] ⟨hd 0 13 (by kernel_rfl), hd 1 14 (by kernel_rfl), trivial⟩
        refine sp_plain rfl ((o_callK (vs := [vB (pev (l.drop (q + 1)) x), vB x]) enter_20 (c_mul (O := Bl0 ++ O) (pev (l.drop (q + 1)) x) x w1 s1.lt) rfl s1 fun v138 w139 s140 m141 k142 r143 => (?_)))
        obtain rfl := r143
        exact ⟨k142, rfl⟩
      · intro F1 w1 k1 hf hd
        have k0 := (Keep.drew [] wl0).trans k1
        have s1 := sl0.call k0
        have m1 : Mv Bl0 wl0 Bl0 w1 := Mv.of_keep k0
        have h_l := h_l.mv m1
        obtain ⟨F2, rfl⟩ := lit_of (F := F1) [(0, l_v)] ⟨hf 0 (by kernel_rfl), trivial⟩
        exact sp_plain rfl ((o_move (l_v) rfl (⟨(Keep.refl _ _), h_l⟩)))
      · intro F1 w1 k1 hf hd
        have k0 := (Keep.drew [] wl0).trans k1
        have s1 := sl0.call k0
        have m1 : Mv Bl0 wl0 Bl0 w1 := Mv.of_keep k0
        obtain ⟨F2, rfl⟩ := lit_of (F := F1) [(5, vI ((q : Nat) : Int))] ⟨hf 5 (by kernel_rfl), trivial⟩
        exact sp_plain rfl ((o_move (vI ((q : Nat) : Int)) rfl (⟨(Keep.refl _ _), rfl⟩)))
      · intro F1 w1 k1 hf hd
        have k0 := (Keep.drew [] wl0).trans k1
        have s1 := sl0.call k0
        have m1 : Mv Bl0 wl0 Bl0 w1 := Mv.of_keep k0
        obtain ⟨v144, e146, hl145⟩ : ∃ v, F1 16 = v ∧ RdL Enc.u8 w1 (Bl0 ++ O) v (l) := ⟨_, rfl, hd 3 16 (by kernel_rfl)⟩
        have := hl145.len_le
        obtain ⟨F2, rfl⟩ := lit_of (F := F1) [(16, v144), (17, vI ((q : Nat) : Int))] ⟨e146, hd 4 17 (by kernel_rfl), trivial⟩
        exact sp_plain rfl ((o_idx Try.underlying28 s_5 .i64 ((q : Nat) : Int) q rfl rfl rfl hl145 (by omega) fun a147 hp148 => (⟨(Keep.refl _ _), ⟨a147, rfl, hp148⟩⟩)))
      · intro F1 w1 k1 hf hd
        have k0 := (Keep.drew [] wl0).trans k1
        have s1 := sl0.call k0
        have m1 : Mv Bl0 wl0 Bl0 w1 := Mv.of_keep k0
        obtain ⟨a149, e151, hp150⟩ : ∃ a, F1 18 = .pointer (some a) ∧ PT Enc.u8 w1 (Bl0 ++ O) (.pointer (some a)) (l[q]!) := hd 5 18 (by kernel_rfl)
        obtain ⟨F2, rfl⟩ := lit_of (F := F1) [(18, Value.pointer (some a149))] ⟨e151, trivial⟩
        exact sp_plain rfl ((o_loadB Try.underlying5 rfl rfl hp150 (⟨(Keep.refl _ _), rfl⟩)))
      intro F153 w154 k152 hT155 hF156
      have s157 := sl0.call k152
      have m158 : Mv Bl0 wl0 Bl0 w154 := Mv.of_keep k152
      have h_l := h_l.mv m158
      obtain ⟨v160, e162, hl161⟩ : ∃ v, F153 16 = v ∧ RdL Enc.u8 w154 (Bl0 ++ O) v (l) := ⟨_, rfl, hT155 3 16 (by kernel_rfl) (by decide)⟩
      have := hl161.len_le
      obtain ⟨a163, e165, hp164⟩ : ∃ a, F153 18 = .pointer (some a) ∧ PT Enc.u8 w154 (Bl0 ++ O) (.pointer (some a)) (l[q]!) := hT155 5 18 (by kernel_rfl) (by decide)
      obtain ⟨F2, rfl⟩ := lit_of (F := F153) [(0, l_v), (1, vB x), (4, vB (pev (l.drop (q + 1)) x)), (5, vI ((q : Nat) : Int)), (9, vI ((q : Nat) : Int)), (10, Value.bool (decide ((0 : Int) ≤ ((q : Nat) : Int)))), (22, undef), (13, vB (pev (l.drop (q + 1)) x)), (14, vB x), (15, vB (gmul (pev (l.drop (q + 1)) x) x)), (16, v160), (17, vI ((q : Nat) : Int)), (18, Value.pointer (some a163)), (19, vB (l[q]!))] ⟨hF156 0 (by kernel_rfl), hF156 1 (by kernel_rfl), hF156 4 (by kernel_rfl), hF156 5 (by kernel_rfl), hF156 9 (by kernel_rfl), hF156 10 (by kernel_rfl), hF156 22 (by kernel_rfl), hT155 0 13 (by kernel_rfl) (by decide), hT155 1 14 (by kernel_rfl) (by decide), hT155 2 15 (by kernel_rfl) (by decide), e162, hT155 4 17 (by kernel_rfl) (by decide), e165, hT155 6 19 (by kernel_rfl) (by decide), trivial⟩
      clear hT155 hF156
      refine wl_s (o_xor8 (gmul (pev (l.drop (q + 1)) x) x) (l[q]!) rfl rfl (wl_s (o_assign (vB ((gmul (pev (l.drop (q + 1)) x) x) ^^^ (l[q]!))) rfl (wl_nil (blockQ_n (thenQ_n (?_)))))))
      refine cw_region (by kernel_rfl) (wl_s (o_move (vI ((q : Nat) : Int)) rfl (wl_s (o_sub .i64 ((q : Nat) : Int) (1 : Int) (((q : Nat) : Int) - (1 : Int)) rfl rfl (w64 (by omega) (by omega)) (wl_s (o_assign (vI (((q : Nat) : Int) - (1 : Int))) rfl (wl_nil (thenQ_n (?_)))))))))
      exact ⟨_, (by omega), (q), Bl0, (by first | omega | (simp; done) | (simp; omega) | simp_all), rfl, ⟨_, upds_self _ ⟨rfl, rfl, (congrArg vB (by rw [pev_drop (l := l) (k := q) (by omega)])), (by first | rfl | exact congrArg (Value.int _) (by first | omega | (simp))), rfl, trivial⟩⟩, s157, h_l⟩
    · have hp166 : (k : Int) - 1 < (0 : Int) := by first | simpa using hc136 | (have e := hc136; simp at e; omega)
      obtain rfl : k = 0 := by omega
      refine cw_exit (thenQ_x (thenQ_x (blockQ_x (thenQ_n (?_)))))
      refine cw_seq (?_)
      refine cw_region (by kernel_rfl) (wl_s (o_move (vB (pev (l.drop 0) x)) rfl (wl_s (o_assign (vB (pev (l.drop 0) x)) rfl (wl_nil (thenQ_n (?_)))))))
      refine cw_ret (end_r rfl (res1 rfl rfl rfl) (?_))
      have e : (pev l x) = (pev (l.drop 0) x) := rfl
      exact ⟨_, rfl, sl0.keep, by rw [e]; exact rfl⟩
set_option maxHeartbeats 4000000 in
set_option maxRecDepth 100000 in
theorem c_powers {O : List Nat} (a : UInt8) (w : World) (hO : ∀ b ∈ O, b < w.heap.size) : CallsK Try.prog 64 [vB a] w (fun v w' => ∃ (a0_0 : Addr), v = .func (.func 68) #[] #[.pointer (some a0_0)] ∧ PT Enc.u8 w' (O) (.pointer (some a0_0)) (a)) :=  by
  have s0 : St w O w [] := St.start hO
  refine callsK_of 4 Try.func64 rfl rfl (of_decide_eq_true rfl) (fun F0 => ?_)
  refine cw_seq (?_)
  refine cw_region (by kernel_rfl) (wl_s (o_boxR (E := Enc.u8) (vB a) ([vB a]) a rfl rfl rfl s0 fun a167 w168 s169 m170 k171 hp172 => (?_)))
  refine wl_s (o_assign (Value.nilFunc) rfl (wl_nil (thenQ_n (?_))))
  refine cw_seq (?_)
  refine cw_region (by kernel_rfl) (wl_s (o_makeFunc (first := []) (captured := [.tmp 1]) [] [Value.pointer (some a167)] rfl rfl (wl_s (o_assign (Value.func (.func 68) #[] #[Value.pointer (some a167)]) rfl (wl_nil (thenQ_n (?_)))))))
  refine cw_ret (end_r rfl (res1 rfl rfl rfl) (?_))
  exact ⟨_, rfl, s169.keep, ⟨_, rfl, (hp172.sub (fun b hb => .inl (List.mem_append_right _ hb)))⟩⟩
set_option maxHeartbeats 4000000 in
set_option maxRecDepth 100000 in
theorem it_powers (w : World) (L : List Nat) (a_a : Addr) (a : UInt8) (h_a0 : PT Enc.u8 w L (.pointer (some a_a)) a) (hL : ∀ b ∈ L, b < w.heap.size) (l : Nat) (N : Nat) (I : Nat → World → Prop) (J : World → Prop) (hI : ∀ i w', I i w' → Keep L w w') (hst : ∀ i w1 w2, I i w1 → Keep [] w1 w2 → I i w2) (hN : ∀ i w', I i w' → i ≤ N) (hNb : N < 4611686018427387904) (hR : ∀ i w', I i w' → YieldsW Try.prog l [vI ((i : Nat) : Int), vB (gpow a i)] w' (fun v w2 => (v = .bool true ∧ I (i + 1) w2) ∨ (v = .bool false ∧ J w2))) (h0 : I 0 w) : Calls Try.prog 68 ([] ++ [Value.func (.yield l) #[] #[]] ++ [Value.pointer (some a_a)]).toArray w (fun e w' => (∃ v, e = .returned v) ∧ (J w' ∨ ∃ i, False ∧ I i w')) :=  by
  have h_a0 : PT Enc.u8 w (L ++ []) (.pointer (some a_a)) a := by rw [List.append_nil]; exact h_a0
  refine calls_of_cw 14 Try.func68 rfl rfl (of_decide_eq_true rfl) (fun F0 => ?_)
  have hk_w := hI _ _ h0
  have h_a : PT Enc.u8 w ([] ++ L) (.pointer (some a_a)) a := by have h := h_a0.mv (Mv.same hk_w); rw [List.append_nil] at h; exact h
  have s173 : St w L w [] := St.start (fun b hb => Nat.lt_of_lt_of_le (hL b hb) hk_w.size)
  refine cw_seq (?_)
  refine cw_region (by kernel_rfl) (wl_s (o_assign (vB (1 : UInt8)) rfl (wl_nil (thenQ_n (?_)))))
  refine cw_seq (?_)
  refine cw_region (by kernel_rfl) (wl_s (o_assign (vI (0 : Int)) rfl (wl_nil (thenQ_n (?_)))))
  refine cw_block (?_)
  refine cw_loop (fun mI FI wI => ∃ k : Nat, mI = N + 1 - k ∧ (∃ F1, FI = upds F1 [(0, Value.func (.yield l) #[] #[]), (1, Value.pointer (some a_a)), (3, vB (gpow a k)), (4, vI ((k : Nat) : Int)), (14, undef)]) ∧ I (k) wI) (N + 1 - (0)) ?_ ?_
  · exact ⟨(0), rfl, ⟨_, upds_self _ ⟨rfl, rfl, (congrArg vB (by first | rfl | (rfl))), (by first | rfl | exact congrArg (Value.int _) (by first | omega | (simp))), rfl, trivial⟩⟩, h0⟩
  · rintro ml F wl ⟨k, rfl, ⟨Fl, rfl⟩, hIl⟩
    have hk_wl := hI _ _ hIl
    have h_a : PT Enc.u8 wl ([] ++ L) (.pointer (some a_a)) a := by have h := h_a0.mv (Mv.same hk_wl); rw [List.append_nil] at h; exact h
    have s174 : St wl L wl [] := St.start (fun b hb => Nat.lt_of_lt_of_le (hL b hb) hk_wl.size)
    have hkN := hN _ _ hIl
    refine cw_seq (?_)
    refine cw_seq (?_)
    refine cw_region (by kernel_rfl) (wl_s (o_move (Value.func (.yield l) #[] #[]) rfl (wl_s (o_move (vI ((k : Nat) : Int)) rfl (wl_s (o_move (vB (gpow a k)) rfl (wl_y l [vI ((k : Nat) : Int), vB (gpow a k)] rfl rfl ?_)))))))
    refine YieldsW.mono (hR k _ hIl) (fun v w2 h => ?_)
    obtain ⟨rfl, hI2⟩ | ⟨rfl, hJ⟩ := h
    · have hk_w2 := hI _ _ hI2
      have h_a : PT Enc.u8 w2 ([] ++ L) (.pointer (some a_a)) a := by have h := h_a0.mv (Mv.same hk_w2); rw [List.append_nil] at h; exact h
      have s175 : St w2 L w2 [] := St.start (fun b hb => Nat.lt_of_lt_of_le (hL b hb) hk_w2.size)
      refine wl_nil (thenQ_n (?_))
      refine cw_cond true rfl rfl (fun _ => ?_) (fun h => by cases h)
      refine cw_skip (thenQ_n (?_))
      refine cw_seq (?_)
      refine cw_block (?_)
      refine cw_region (by kernel_rfl) (wl_s (o_move (vB (gpow a k)) rfl (wl_s (o_loadB Try.underlying5 rfl rfl h_a (wl_s (o_callK (vs := [vB (gpow a k), vB a]) enter_20 (c_mul (O := [] ++ L) (gpow a k) a w2 s175.lt) rfl s175 fun v176 w177 s178 m179 k180 r181 => (?_)))))))
      obtain rfl := r181
      have h_a := h_a.mv m179
      have hI2 := hst _ _ _ hI2 k180
      refine wl_s (o_assign (vB (gmul (gpow a k) a)) rfl (wl_nil (blockQ_n (thenQ_n (?_)))))
      refine cw_region (by kernel_rfl) (wl_s (o_move (vI ((k : Nat) : Int)) rfl (wl_s (o_add .i64 ((k : Nat) : Int) (1 : Int) (((k + 1 : Nat) : Int)) rfl rfl (w64 (by omega) (by omega)) (wl_s (o_assign (vI ((k + 1 : Nat) : Int)) rfl (wl_nil (thenQ_n (?_)))))))))
      exact ⟨_, (by omega), (k + 1), rfl, ⟨_, upds_self _ ⟨rfl, rfl, (congrArg vB (by first | rfl | (rfl))), (by first | rfl | exact congrArg (Value.int _) (by first | omega | (simp))), rfl, trivial⟩⟩, hI2⟩
    · refine wl_nil (thenQ_n (?_))
      refine cw_cond false rfl rfl (fun h => by cases h) (fun _ => ?_)
      refine cw_exit (thenQ_x (thenQ_x (blockQ_x (end_n rfl (res0 rfl) (?_)))))
      exact ⟨⟨_, rfl⟩, .inl hJ⟩
set_option maxHeartbeats 4000000 in
set_option maxRecDepth 100000 in
theorem c_inverse {O : List Nat} (a : UInt8) (w : World) (hO : ∀ b ∈ O, b < w.heap.size) : CallsK Try.prog 42 [vB a] w (fun v _ => v = vB (ginv a)) :=  by
  have s0 : St w O w [] := St.start hO
  refine callsK_ofM 12 Try.func42 rfl rfl (of_decide_eq_true rfl) (fun F0 => ?_)
  refine cw_seq (?_)
  refine cw_region (by kernel_rfl) (wl_s (o_alloc [vB (0 : UInt8)] z_5 rfl s0 fun b182 w183 e188 s184 m185 k186 bx187 => (?_)))
  clear e188
  refine wl_nil (thenQ_n (?_))
  refine cw_seq (?_)
  refine cw_seq (?_)
  refine cw_region (by kernel_rfl) (wl_s (o_move (vB a) rfl (wl_s (o_callK (vs := [vB a]) enter_64 (c_powers (O := (b182 :: []) ++ O) a w183 s184.lt) rfl s184 fun v189 w190 s191 m192 k193 r194 => (?_)))))
  obtain ⟨a195, rfl, hp196⟩ := r194
  have bx187 := bx187.keep k193 (by simp)
  refine wl_nil (thenQ_n (?_))
  refine cw_block (?_)
  refine cw_range (fs := []) (lb := [Value.pointer (some a195)]) rfl rfl enter_68 rfl (fun l_0 D_0 w197 R_0 _ hR_0 hD199 hl200 k198 oD_0 oL_0 => ?_)
  have ne203 : b182 ≠ D_0 ∧ b182 ≠ l_0 := by have := bx187.lt; omega
  have s201 := s191.adopt2 k198 hD199 (by omega) oD_0.lt oL_0.lt
  have m202 : Mv (b182 :: []) w190 (l_0 :: D_0 :: (b182 :: [])) w197 := Mv.adopt2 k198 hD199 (by omega)
  have hp196 := hp196.mv m202
  have bx187 := bx187.keep k198 (by simp)
  have hDl_0 : D_0 ≠ l_0 := by omega
  clear hl200
  have since204 : Mv (l_0 :: D_0 :: (b182 :: [])) w197 (l_0 :: D_0 :: (b182 :: [])) w197 := Mv.refl _ _
  have hL_0 := s201.lt
  refine Calls.mono (it_powers w197 ((l_0 :: D_0 :: (b182 :: [])) ++ O) a195 a hp196 hL_0 l_0 (254) (fun (i : Nat) wI => ∃ (B : List Nat), i ≤ 254 ∧ St w O wI B ∧ PT Enc.u8 wI (B ++ O) (.pointer (some a195)) (a) ∧ Ob wI D_0 (.deferred (some [])) ∧ Ob wI l_0 (R_0 .ready none) ∧ b182 ∈ B ∧ D_0 ∈ B ∧ l_0 ∈ B ∧ Mv (l_0 :: D_0 :: (b182 :: [])) w197 B wI ∧ Box wI b182 5 [vB (0 : UInt8)]) (fun wI => (∃ (i : Nat) (B : List Nat), St w O wI B ∧ PT Enc.u8 wI (B ++ O) (.pointer (some a195)) (a) ∧ Ob wI D_0 (.deferred (some [])) ∧ Ob wI l_0 (R_0 .done (some (.ret))) ∧ b182 ∈ B ∧ D_0 ∈ B ∧ l_0 ∈ B ∧ Mv (l_0 :: D_0 :: (b182 :: [])) w197 B wI ∧ Box wI b182 5 [vB (ginv a)])) ?_ ?_ ?_ (by omega) ?_ ?_) (fun e w2 hJ => ⟨hJ.1, ?_⟩)
  · intro i w' hI
    clear hp196 oD_0 oL_0 since204
    obtain ⟨Bl, hq0_0, sl, hp196, oD_0, oL_0, hin_b182, hin_D_0, hin_l_0, since204, hbx_b182⟩ := hI
    exact Keep.mono since204.keep (fun b hb => .inl (List.mem_append_left _ hb))
  · intro i wa wb hI kk
    clear hp196 oD_0 oL_0 since204
    obtain ⟨Bl, hq0_0, sl, hp196, oD_0, oL_0, hin_b182, hin_D_0, hin_l_0, since204, hbx_b182⟩ := hI
    have sl2 := sl.call kk
    have ml2 : Mv Bl wa Bl wb := Mv.of_keep kk
    have hp196 := hp196.mv ml2
    have hbx_b182 := hbx_b182.keep kk (by simp)
    have oD_0 := oD_0.keep kk (by simp)
    have oL_0 := oL_0.keep kk (by simp)
    have since204 := since204.trans ml2
    exact ⟨Bl, hq0_0, sl2, hp196, oD_0, oL_0, (by first | assumption | simp | simp_all), (by first | assumption | simp | simp_all), (by first | assumption | simp | simp_all), since204, hbx_b182⟩
  · intro i w' hI
    clear hp196 oD_0 oL_0 since204
    obtain ⟨Bl, hq0_0, sl, hp196, oD_0, oL_0, hin_b182, hin_D_0, hin_l_0, since204, hbx_b182⟩ := hI
    omega
  · intro i wr hI
    clear hp196 oD_0 oL_0 since204
    obtain ⟨Bl, hq0_0, sl, hp196, oD_0, oL_0, hin_b182, hin_D_0, hin_l_0, since204, hbx_b182⟩ := hI
    refine yields_of hR_0 oL_0 rfl (by decide) ?_
    refine cw_seq (?_)
    refine cw_region (by kernel_rfl) (wl_s (o_assign (vI ((i : Nat) : Int)) rfl (wl_nil (thenQ_n (?_)))))
    refine cw_region (by kernel_rfl) (wl_s (o_assign (vB (gpow a i)) rfl (wl_nil (thenQ_n (?_)))))
    refine ⟨oL_0, fun w205 k206 ox209 => ?_⟩
    have s207 := sl.keepB k206 (by first | assumption | simp)
    have m208 : Mv Bl wr Bl w205 := Mv.keepB k206 (by first | assumption | simp)
    have hp196 := hp196.mv m208
    have hbx_b182 := hbx_b182.keep k206 (by simp only [List.mem_singleton]; exact ne203.2)
    have oD_0 := oD_0.keep k206 (by simp only [List.mem_singleton]; exact hDl_0)
    have since204 := since204.trans m208
    refine cw_block (?_)
    refine cw_seq (?_)
    refine cw_region (by kernel_rfl) (wl_s (o_move (vI ((i : Nat) : Int)) rfl (wl_s (o_eql .i64 ((i : Nat) : Int) (254 : Int) rfl rfl (wl_nil (thenQ_n (?_)))))))
    refine cw_cond (((i : Nat) : Int) == (254 : Int)) rfl rfl (fun hc210 => ?_) (fun hc210 => ?_)
    · have hp211 : ((i : Nat) : Int) = (254 : Int) := by first | simpa using hc210 | (have e := hc210; simp at e; omega)
      refine cw_seq (?_)
      refine cw_region (by kernel_rfl) (wl_s (o_move (vB (gpow a i)) rfl (wl_n (o_store1 (vB (gpow a i)) rfl rfl rfl s_5 (by first | assumption | simp) hbx_b182 (of_decide_eq_true rfl) s207 fun w212 s213 m214 k215 bx216 => (?_)))))
      have hp196 := hp196.mv m214
      have oD_0 := oD_0.keep k215 (by simp only [List.mem_singleton]; first | omega | exact (Ne.symm ne203.1))
      have ox209 := ox209.keep k215 (by simp only [List.mem_singleton]; first | omega | exact (Ne.symm ne203.2))
      have since204 := since204.trans m214
      refine wl_nil (thenQ_n (?_))
      refine cw_ret (blockQ_r (round_r ox209 (fun w217 k218 ox221 => ?_)))
      have s219 := s213.keepB k218 (by first | assumption | simp)
      have m220 : Mv Bl w212 Bl w217 := Mv.keepB k218 (by first | assumption | simp)
      have hp196 := hp196.mv m220
      have bx216 := bx216.keep k218 (by simp only [List.mem_singleton]; exact ne203.2)
      have oD_0 := oD_0.keep k218 (by simp only [List.mem_singleton]; exact hDl_0)
      have since204 := since204.trans m220
      have oL_0 := ox221
      refine .inr ⟨rfl, ?_⟩
      exact ⟨i, Bl, s219, hp196, oD_0, oL_0, (by first | assumption | simp | simp_all), (by first | assumption | simp | simp_all), (by first | assumption | simp | simp_all), since204, (by rw [show ([vB (ginv a)] : List Value) = [vB (gpow a i)] from by rw [ginv_at a i (by omega)]]; exact bx216)⟩
    · have hp222 : ((i : Nat) : Int) ≠ (254 : Int) := by first | simpa using hc210 | (have e := hc210; simp at e; omega)
      refine cw_skip (blockQ_n (round_n ox209 (fun w223 k224 ox227 => ?_)))
      have s225 := s207.keepB k224 (by first | assumption | simp)
      have m226 : Mv Bl w205 Bl w223 := Mv.keepB k224 (by first | assumption | simp)
      have hp196 := hp196.mv m226
      have hbx_b182 := hbx_b182.keep k224 (by simp only [List.mem_singleton]; exact ne203.2)
      have oD_0 := oD_0.keep k224 (by simp only [List.mem_singleton]; exact hDl_0)
      have since204 := since204.trans m226
      have oL_0 := ox227
      refine .inl ⟨rfl, ?_⟩
      exact ⟨Bl, (by first | omega | assumption | (simp; done) | (simp; omega) | simp_all), s225, hp196, oD_0, oL_0, (by first | assumption | simp | simp_all), (by first | assumption | simp | simp_all), (by first | assumption | simp | simp_all), since204, hbx_b182⟩
  · exact ⟨(l_0 :: D_0 :: (b182 :: [])), (by first | omega | assumption | (simp; done) | (simp; omega) | simp_all), s201, hp196, oD_0, oL_0, (by first | assumption | simp | simp_all), (by first | assumption | simp | simp_all), (by first | assumption | simp | simp_all), since204, bx187⟩
  obtain ⟨_, hJ⟩ := hJ
  clear hp196 oD_0 oL_0 since204
  rcases hJ with (hJ) | ⟨i, hi, hJ⟩
  · obtain ⟨i, Bl, sl, hp196, oD_0, oL_0, hin_b182, hin_D_0, hin_l_0, since204, hbx_b182⟩ := hJ
    refine ⟨.done, (some (.ret)), by simp, oL_0, fun w228 k229 => ?_⟩
    have s230 := sl.keepB k229 (by first | assumption | simp)
    have m231 : Mv Bl w2 Bl w228 := Mv.keepB k229 (by first | assumption | simp)
    have hp196 := hp196.mv m231
    have hbx_b182 := hbx_b182.keep k229 (by simp only [List.mem_singleton]; exact ne203.2)
    have oD_0 := oD_0.keep k229 (by simp only [List.mem_singleton]; exact hDl_0)
    refine cw_ret (blockQ_r (thenQ_r (?_)))
    refine endM_rm rfl oD_0 (fun w232 k233 => ?_)
    have s234 := s230.keepB k233 (by first | assumption | simp)
    have m235 : Mv Bl w228 Bl w232 := Mv.keepB k233 (by first | assumption | simp)
    have hp196 := hp196.mv m235
    have hbx_b182 := hbx_b182.keep k233 (by simp only [List.mem_singleton]; exact ne203.1)
    refine ⟨_, resc rfl rfl Try.underlying5 rfl rfl hbx_b182 rfl, ?_⟩
    exact ⟨_, rfl, s234.keep, rfl⟩
  · exact hi.elim
set_option maxHeartbeats 4000000 in
set_option maxRecDepth 100000 in
theorem c_inv {O : List Nat} (a : UInt8) (w : World) (hO : ∀ b ∈ O, b < w.heap.size) : CallsK Try.prog 18 [vB a] w (fun v _ => v = .tuple #[vB ((inv a).1), vI ((inv a).2)]) :=  by
  have s0 : St w O w [] := St.start hO
  refine callsK_of 8 Try.func18 rfl rfl (of_decide_eq_true rfl) (fun F0 => ?_)
  refine cw_seq (?_)
  refine cw_region (by kernel_rfl) (wl_s (o_assign (vB (0 : UInt8)) rfl (wl_s (o_assign (vI (0 : Int)) rfl (wl_nil (thenQ_n (?_)))))))
  refine cw_seq (?_)
  refine cw_seq (?_)
  refine cw_region (by kernel_rfl) (wl_s (o_move (vB a) rfl (wl_s (o_eql8 a (0 : UInt8) rfl rfl (wl_nil (thenQ_n (?_)))))))
  refine cw_cond (a == (0 : UInt8)) rfl rfl (fun hc236 => ?_) (fun hc236 => ?_)
  · have hp237 : a = (0 : UInt8) := by first | simpa using hc236 | (have e := hc236; simp at e; omega)
    refine cw_seq (?_)
    refine cw_region (by kernel_rfl) (wl_s (o_assign (vB (0 : UInt8)) rfl (wl_s (o_assign (vI (1 : Int)) rfl (wl_nil (thenQ_n (?_)))))))
    refine cw_ret (thenQ_r (end_r rfl (res2 rfl rfl rfl rfl) (?_)))
    have e : (inv a) = ((0 : UInt8), (1 : Int)) := by simp [inv, *]
    exact ⟨_, rfl, s0.keep, by rw [e]; exact rfl⟩
  · have hp238 : a ≠ (0 : UInt8) := by first | simpa using hc236 | (have e := hc236; simp at e; omega)
    refine cw_skip (thenQ_n (?_))
    refine cw_seq (?_)
    refine cw_region (by kernel_rfl) (wl_s (o_move (vB a) rfl (wl_s (o_callK (vs := [vB a]) enter_42 (c_inverse (O := [] ++ O) a w s0.lt) rfl s0 fun v239 w240 s241 m242 k243 r244 => (?_)))))
    obtain rfl := r244
    refine wl_s (o_assign (vB (ginv a)) rfl (wl_s (o_assign (vI (0 : Int)) rfl (wl_nil (thenQ_n (?_))))))
    refine cw_ret (end_r rfl (res2 rfl rfl rfl rfl) (?_))
    have e : (inv a) = (ginv a, (0 : Int)) := by simp [inv, *]
    exact ⟨_, rfl, s241.keep, by rw [e]; exact rfl⟩

end Go.Proofs.Yteajcgfcnbdmgaa
