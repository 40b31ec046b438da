/- Walks, printed by gen.py. -/
import Derived.Test.YteajcgfcnbdmgaaWbA
import Derived.Test.YteajcgfcnbdmgaaMaT
set_option linter.unusedSimpArgs false
set_option linter.unusedVariables false
namespace Go.Proofs.Yteajcgfcnbdmgaa
open Go.Fw Go.RowKit

set_option maxHeartbeats 4000000 in
set_option maxRecDepth 100000 in
theorem c_polynomial {O : List Nat} (secret_v : Value) (secret : List UInt8) (coins_v : Value) (coins : List UInt8) (threshold : Int) (i : Nat) (w : World) (h_secret : RdL Enc.u8 w O secret_v secret) (h_coins : RdL Enc.u8 w O coins_v coins) (hpre0 : 1 ≤ threshold) (hpre1 : threshold ≤ 8) (hpre2 : i < secret.length) (hpre3 : secret.length ≤ 64) (hpre4 : (coins.length : Int) = (secret.length : Int) * (threshold - 1)) (hO : ∀ b ∈ O, b < w.heap.size) : CallsK Try.prog 50 [secret_v, coins_v, vI threshold, vI (i : Int)] w (fun v w' => ∃ (x0 : Value), v = x0 ∧ RdL Enc.u8 w' (O) x0 (polyM secret coins threshold i)) :=  by
 have lim_secret := h_secret.len_le
 have h_secret : RdL Enc.u8 w ([] ++ O) secret_v secret := h_secret
 have lim_coins := h_coins.len_le
 have h_coins : RdL Enc.u8 w ([] ++ O) coins_v coins := h_coins
 have s0 : St w O w [] := St.start hO
 have hpb := polyB hpre2 hpre0 hpre4
 have hpl := polyL (by omega) hpre0 hpre1 hpre4
 refine callsK_of 31 Try.func50 rfl rfl (of_decide_eq_true rfl) (fun F0 => ?_)
 refine cw_seq (?_)
 refine cw_region (by kernel_rfl) (wl_s (o_assign (Value.slice none 0 0) rfl (wl_nil (thenQ_n (?_)))))
 refine cw_seq (?_)
 refine cw_region (by kernel_rfl) (wl_s (o_move (vI (i : Int)) rfl (wl_s (o_move (vI threshold) rfl (wl_s (o_sub .i64 threshold (1 : Int) ((((threshold - 1).toNat : Nat) : Int)) rfl rfl (w64 (by omega) (by omega)) (wl_s (o_mul .i64 (i : Int) (((threshold - 1).toNat : Nat) : Int) (((i * (threshold - 1).toNat : Nat) : Int)) rfl rfl (w64 (mulbN (by omega) (by omega)) (by simp)) (wl_s (o_move (vI (i : Int)) rfl (wl_s (o_add .i64 (i : Int) (1 : Int) (((i + 1 : Nat) : Int)) rfl rfl (w64 (by omega) (by omega)) (wl_s (o_move (vI threshold) rfl (wl_s (o_sub .i64 threshold (1 : Int) ((((threshold - 1).toNat : Nat) : Int)) rfl rfl (w64 (by omega) (by omega)) (wl_s (o_mul .i64 ((i + 1 : Nat) : Int) (((threshold - 1).toNat : Nat) : Int) ((((i + 1) * (threshold - 1).toNat : Nat) : Int)) rfl rfl (w64 (mulbN (by omega) (by omega)) (by simp)) (wl_s (o_assign (vI ((i * (threshold - 1).toNat : Nat) : Int)) rfl (wl_s (o_assign (vI (((i + 1) * (threshold - 1).toNat : Nat) : Int)) rfl (wl_nil (thenQ_n (?_)))))))))))))))))))))))))
 refine cw_seq (?_)
 refine cw_draw' 10 _ _ [fun (vT : Value) (_ : World) => RdL Enc.u8 w ([] ++ O) vT (secret), isV (vI (i : Int)), fun (vT : Value) (_ : World) => ∃ aT, vT = .pointer (some aT) ∧ PT Enc.u8 w ([] ++ O) (.pointer (some aT)) (secret[i]!), isV (vB (secret[i]!)), fun (vT : Value) (wT : World) => ∃ bT : Nat, vT.ownBlock = some bT ∧ w.heap.size ≤ bT ∧ bT < wT.heap.size ∧ Own Enc.u8 5 w.heap.size ((bT :: ([])) ++ O) wT vT ([secret[i]!]), fun (vT : Value) (_ : World) => RdL Enc.u8 w ([] ++ O) vT (coins), isV (vI ((i * (threshold - 1).toNat : Nat) : Int)), isV (vI (((i + 1) * (threshold - 1).toNat : Nat) : Int)), isV (vI (((i + 1) * (threshold - 1).toNat : Nat) : Int)), fun (vT : Value) (_ : World) => RdL Enc.u8 w ([] ++ O) vT (((coins.take ((i + 1) * (threshold - 1).toNat)).drop (i * (threshold - 1).toNat)))] (by kernel_rfl) (by kernel_rfl) (by kernel_rfl) (by kernel_rfl) rfl rfl ⟨fun _ _ _ h _ => h, kI, fun _ _ _ h _ => h, kI, fun _ _ _ ⟨b, e, h1, h2, h⟩ k => ⟨b, e, h1, Nat.lt_of_lt_of_le h2 k.size, h.mv (Mv.of_keep k) k (by simp)⟩, fun _ _ _ h _ => h, kI, kI, kI, fun _ _ _ h _ => h, trivial⟩ ⟨?_, ?_, ?_, ?_, ?_, ?_, ?_, ?_, ?_, ?_, trivial⟩ ?_
 ·intro F1 w1 k1 hf hd
  obtain ⟨F2, rfl⟩ := lit_of (F := F1) [(0, secret_v)] ⟨hf 0 (by kernel_rfl), trivial⟩
  exact sp_plain rfl ((o_move (secret_v) rfl (⟨(Keep.refl _ _), h_secret⟩)))
 ·intro F1 w1 k1 hf hd
  obtain ⟨F2, rfl⟩ := lit_of (F := F1) [(3, vI (i : Int))] ⟨hf 3 (by kernel_rfl), trivial⟩
  exact sp_plain rfl ((o_move (vI (i : Int)) rfl (⟨(Keep.refl _ _), rfl⟩)))
 ·intro F1 w1 k1 hf hd
  obtain ⟨v2278, e2280, hl2279⟩ : ∃ v, F1 20 = v ∧ RdL Enc.u8 w ([] ++ O) v (secret) := ⟨_, rfl, hd 0 20 (by kernel_rfl)⟩
  have := hl2279.len_le
  obtain ⟨F2, rfl⟩ := lit_of (F := F1) [(20, v2278), (21, vI (i : Int))] ⟨e2280, hd 1 21 (by kernel_rfl), trivial⟩
  exact sp_plain rfl ((o_idxU Try.underlying28 s_5 .i64 (i : Int) i rfl rfl rfl hl2279 (by omega) fun a2281 hp2282 => (⟨(Keep.refl _ _), ⟨a2281, rfl, hp2282⟩⟩)))
 ·intro F1 w1 k1 hf hd
  have k0 := (Keep.drew [] w).trans k1
  obtain ⟨a2283, e2285, hp2284⟩ : ∃ a, F1 22 = .pointer (some a) ∧ PT Enc.u8 w ([] ++ O) (.pointer (some a)) (secret[i]!) := hd 2 22 (by kernel_rfl)
  obtain ⟨F2, rfl⟩ := lit_of (F := F1) [(22, Value.pointer (some a2283))] ⟨e2285, trivial⟩
  exact sp_plain rfl ((o_loadBU Try.underlying5 rfl rfl hp2284 k0 (⟨(Keep.refl _ _), rfl⟩)))
 ·intro F1 w1 k1 hf hd
  have k0 := (Keep.drew [] w).trans k1
  have s1 := s0.call k0
  obtain ⟨F2, rfl⟩ := lit_of (F := F1) [(23, vB (secret[i]!))] ⟨hd 3 23 (by kernel_rfl), trivial⟩
  refine sp_plain rfl ((o_litO (E := Enc.u8) (xs := [.tmp 23]) Try.underlying28 s_5 z_5 (by decide) [vB (secret[i]!)] [[vB (secret[i]!)]] [secret[i]!] rfl rfl rfl (Parts.cons rfl rfl (Parts.nil _ _ _)) (of_decide_eq_true rfl) s1 fun v2290 b2292 w2286 e2293 hb2294 s2287 m2288 k2289 hl2291 => (?_)))
  have lo2295 : w.heap.size ≤ b2292 := by have := k0.size; omega
  have hi2296 := (hl2291.lt b2292 hb2294).2
  exact ⟨k2289, ⟨_, hb2294, lo2295, hi2296, hl2291⟩⟩
 ·intro F1 w1 k1 hf hd
  obtain ⟨F2, rfl⟩ := lit_of (F := F1) [(1, coins_v)] ⟨hf 1 (by kernel_rfl), trivial⟩
  exact sp_plain rfl ((o_move (coins_v) rfl (⟨(Keep.refl _ _), h_coins⟩)))
 ·intro F1 w1 k1 hf hd
  obtain ⟨F2, rfl⟩ := lit_of (F := F1) [(9, vI ((i * (threshold - 1).toNat : Nat) : Int))] ⟨hf 9 (by kernel_rfl), trivial⟩
  exact sp_plain rfl ((o_move (vI ((i * (threshold - 1).toNat : Nat) : Int)) rfl (⟨(Keep.refl _ _), rfl⟩)))
 ·intro F1 w1 k1 hf hd
  obtain ⟨F2, rfl⟩ := lit_of (F := F1) [(10, vI (((i + 1) * (threshold - 1).toNat : Nat) : Int))] ⟨hf 10 (by kernel_rfl), trivial⟩
  exact sp_plain rfl ((o_move (vI (((i + 1) * (threshold - 1).toNat : Nat) : Int)) rfl (⟨(Keep.refl _ _), rfl⟩)))
 ·intro F1 w1 k1 hf hd
  obtain ⟨F2, rfl⟩ := lit_of (F := F1) [(10, vI (((i + 1) * (threshold - 1).toNat : Nat) : Int))] ⟨hf 10 (by kernel_rfl), trivial⟩
  exact sp_plain rfl ((o_move (vI (((i + 1) * (threshold - 1).toNat : Nat) : Int)) rfl (⟨(Keep.refl _ _), rfl⟩)))
 ·intro F1 w1 k1 hf hd
  obtain ⟨v2297, e2299, hl2298⟩ : ∃ v, F1 25 = v ∧ RdL Enc.u8 w ([] ++ O) v (coins) := ⟨_, rfl, hd 5 25 (by kernel_rfl)⟩
  have := hl2298.len_le
  obtain ⟨F2, rfl⟩ := lit_of (F := F1) [(25, v2297), (26, vI ((i * (threshold - 1).toNat : Nat) : Int)), (27, vI (((i + 1) * (threshold - 1).toNat : Nat) : Int)), (28, vI (((i + 1) * (threshold - 1).toNat : Nat) : Int))] ⟨e2299, hd 6 26 (by kernel_rfl), hd 7 27 (by kernel_rfl), hd 8 28 (by kernel_rfl), trivial⟩
  refine sp_plain rfl ((o_slice3RU Try.underlying28 s_5 (i * (threshold - 1).toNat) ((i + 1) * (threshold - 1).toNat) ((i + 1) * (threshold - 1).toNat) rfl (.inr ⟨.tmp 26, .i64, ((i * (threshold - 1).toNat : Nat) : Int), rfl, rfl, (by omega)⟩) .i64 .i64 (((i + 1) * (threshold - 1).toNat : Nat) : Int) (((i + 1) * (threshold - 1).toNat : Nat) : Int) rfl (by omega) rfl (by omega) (Nat.mul_le_mul_right _ (by omega)) (Nat.le_refl _) hpb hl2298 fun v2300 hl2301 => (?_)))
  exact ⟨(Keep.refl _ _), hl2301⟩
 intro F2303 w2304 k2302 hT2305 hF2306
 obtain ⟨v2310, e2312, hl2311⟩ : ∃ v, F2303 20 = v ∧ RdL Enc.u8 w ([] ++ O) v (secret) := ⟨_, rfl, hT2305 0 20 (by kernel_rfl) (by decide)⟩
 have := hl2311.len_le
 obtain ⟨a2313, e2315, hp2314⟩ : ∃ a, F2303 22 = .pointer (some a) ∧ PT Enc.u8 w ([] ++ O) (.pointer (some a)) (secret[i]!) := hT2305 2 22 (by kernel_rfl) (by decide)
 obtain ⟨v2316, e2318, hl2317⟩ : ∃ v, F2303 25 = v ∧ RdL Enc.u8 w ([] ++ O) v (coins) := ⟨_, rfl, hT2305 5 25 (by kernel_rfl) (by decide)⟩
 have := hl2317.len_le
 obtain ⟨v2319, e2321, hl2320⟩ : ∃ v, F2303 29 = v ∧ RdL Enc.u8 w ([] ++ O) v (((coins.take ((i + 1) * (threshold - 1).toNat)).drop (i * (threshold - 1).toNat))) := ⟨_, rfl, hT2305 9 29 (by kernel_rfl) (by decide)⟩
 have := hl2320.len_le
 obtain ⟨v2322, e2328, b2323, hb2324, lo2325, hi2326, ho2327⟩ : ∃ v, F2303 24 = v ∧ (fun (vT : Value) (wT : World) => ∃ bT : Nat, vT.ownBlock = some bT ∧ w.heap.size ≤ bT ∧ bT < wT.heap.size ∧ Own Enc.u8 5 w.heap.size ((bT :: ([])) ++ O) wT vT ([secret[i]!])) v w2304 := ⟨_, rfl, hT2305 4 24 (by kernel_rfl) (by decide)⟩
 have hB2329 : ∀ b, v2322.ownBlock = some b → b ∈ (b2323 :: []) := fun b hb => by rw [hb2324] at hb; cases hb; simp
 have s2307 := (s0.call k2302).adopt (Nat.le_trans s0.keep.size lo2325) hi2326
 have m2308 : Mv ([]) w (b2323 :: []) w2304 := Mv.adopt k2302 lo2325
 have hl2320 := hl2320.mv m2308
 obtain ⟨F2, rfl⟩ := lit_of (F := F2303) [(8, Value.slice none 0 0), (31, undef), (20, v2310), (22, Value.pointer (some a2313)), (24, v2322), (25, v2316), (29, v2319)] ⟨hF2306 8 (by kernel_rfl), hF2306 31 (by kernel_rfl), e2312, e2315, e2328, e2318, e2321, trivial⟩
 clear hT2305 hF2306
 refine wl_s (o_append (E := Enc.u8) (l := [secret[i]!]) (m := ((coins.take ((i + 1) * (threshold - 1).toNat)).drop (i * (threshold - 1).toNat))) Try.underlying28 i_5 rfl (by decide) rfl rfl ho2327 hl2320 (fun _ hb => .inl hb) hB2329 (by simp only [List.length_cons, List.length_nil, List.length_drop, List.length_take]; omega) (by simp only [List.length_cons, List.length_nil, List.length_drop, List.length_take, maxLen]; omega) s2307 fun v2334 w2330 B2336 hB2337 at2338 sub2339 s2331 m2332 k2333 ho2335 => (?_))
 refine wl_s (o_assign (v2334) rfl (wl_nil (thenQ_n (?_))))
 refine cw_ret (end_r rfl (res1 rfl rfl rfl) (?_))
 have e : (polyM secret coins threshold i) = (([secret[i]!]) ++ ((coins.take ((i + 1) * (threshold - 1).toNat)).drop (i * (threshold - 1).toNat))) := rfl
 exact ⟨_, rfl, s2331.keep, by rw [e]; exact ⟨v2334, rfl, ho2335.pub s2331⟩⟩
set_option maxHeartbeats 4000000 in
set_option maxRecDepth 100000 in
theorem c_split1 {O : List Nat} (i : Nat) (secret_a : Addr) (secret : (List UInt8)) (coins_a : Addr) (coins : (List UInt8)) (threshold_a : Addr) (threshold : Int) (w : World) (h_secret : PT (Enc.slice Enc.u8) w O (.pointer (some secret_a)) secret) (h_coins : PT (Enc.slice Enc.u8) w O (.pointer (some coins_a)) coins) (h_threshold : PT Enc.int w O (.pointer (some threshold_a)) threshold) (hpre0 : 1 ≤ threshold) (hpre1 : threshold ≤ 8) (hpre2 : i < secret.length) (hpre3 : secret.length ≤ 64) (hpre4 : (coins.length : Int) = (secret.length : Int) * (threshold - 1)) (hO : ∀ b ∈ O, b < w.heap.size) : CallsK Try.prog 49 [vI (i : Int), .pointer (some secret_a), .pointer (some coins_a), .pointer (some threshold_a)] w (fun v w' => ∃ (x0 : Value), v = x0 ∧ RdL Enc.u8 w' (O) x0 (polyM secret coins threshold i)) :=  by
 have h_secret : PT (Enc.slice Enc.u8) w ([] ++ O) (.pointer (some secret_a)) secret := h_secret
 have h_coins : PT (Enc.slice Enc.u8) w ([] ++ O) (.pointer (some coins_a)) coins := h_coins
 have h_threshold : PT Enc.int w ([] ++ O) (.pointer (some threshold_a)) threshold := h_threshold
 have s0 : St w O w [] := St.start hO
 refine callsK_of 11 Try.func49 rfl rfl (of_decide_eq_true rfl) (fun F0 => ?_)
 refine cw_seq (?_)
 refine cw_region (by kernel_rfl) (wl_s (o_assign (Value.slice none 0 0) rfl (wl_nil (thenQ_n (?_)))))
 refine cw_seq (?_)
 refine cw_region (by kernel_rfl) (wl_s (o_loadL Try.underlying28 rfl rfl h_secret fun v2340 hl2341 => (?_)))
 have := hl2341.len_le
 refine wl_s (o_loadL Try.underlying28 rfl rfl h_coins fun v2342 hl2343 => (?_))
 have := hl2343.len_le
 refine wl_s (o_loadI Try.underlying3 rfl rfl h_threshold (wl_s (o_move (vI (i : Int)) rfl (wl_s (o_callK (vs := [v2340, v2342, vI threshold, vI (i : Int)]) enter_50 (c_polynomial (O := [] ++ O) v2340 secret v2342 coins threshold i w hl2341 hl2343 (by first | omega | assumption | (simp; done)) (by first | omega | assumption | (simp; done)) (by first | omega | assumption | (simp; done)) (by first | omega | assumption | (simp; done)) (by first | omega | assumption | (simp; done)) s0.lt) rfl s0 fun v2344 w2345 s2346 m2347 k2348 r2349 => (?_))))))
 obtain ⟨_, rfl, hl2350⟩ := r2349
 have := hl2350.len_le
 refine wl_s (o_assign (v2344) rfl (wl_nil (thenQ_n (?_))))
 refine cw_ret (end_r rfl (res1 rfl rfl rfl) (?_))
 exact ⟨_, rfl, s2346.keep, ⟨v2344, rfl, hl2350.out⟩⟩
set_option maxHeartbeats 4000000 in
set_option maxRecDepth 100000 in
theorem c_collectL {O : List Nat} (n : Int) (f_v : Nat) (f_caps : List Value) (f : Nat → (List UInt8)) (w : World) (h_f_e : ∀ (vs_ : Array Value) (w : World), (callFunc f_v vs_).run Try.prog w = .ok (.enter f_v vs_) w) (h_f : ∀ (w' : World) (O' : List Nat), Keep [] w w' → (∀ b ∈ O', b ∈ O ∨ w.heap.size ≤ b) → (∀ b ∈ O', b < w'.heap.size) → ∀ (i : Nat), (i : Int) < n → CallsK Try.prog f_v ([vI (i : Int)] ++ f_caps) w' (fun v w2 => ∃ (x0 : Value), v = x0 ∧ RdL Enc.u8 w2 (O') x0 (f i))) (hpre0 : n ≤ 1000000) (hO : ∀ b ∈ O, b < w.heap.size) : CallsK Try.prog 48 [vI n, .func (.func f_v) #[] f_caps.toArray] w (fun v w' => ∃ (x0 : Value), v = x0 ∧ RdL (Enc.slice Enc.u8) w' (O) x0 ((List.range (n).toNat).map f)) :=  by
 have s0 : St w O w [] := St.start hO
 refine callsK_of 18 Try.func48 rfl rfl (of_decide_eq_true rfl) (fun F0 => ?_)
 refine cw_seq (?_)
 refine cw_region (by kernel_rfl) (wl_s (o_assign (.slice none 0 0) rfl (wl_nil (thenQ_n (?_)))))
 refine cw_seq (?_)
 refine cw_seq (?_)
 refine cw_region (by kernel_rfl) (wl_s (o_move (vI n) rfl (wl_s (o_move (vI (0 : Int)) rfl (wl_nil (thenQ_n (?_)))))))
 refine cw_block (?_)
 refine cw_loop (fun mI FI wI => ∃ (k : Nat) (vo0_4 : Value) (B : List Nat), k ≤ n.toNat ∧ mI = n.toNat - k ∧ (∃ F1, FI = upds F1 [(1, Value.func (.func f_v) #[] f_caps.toArray), (4, vo0_4), (6, vI n), (7, vI ((k : Nat) : Int)), (18, undef)]) ∧ St w O wI B ∧ Own (Enc.slice Enc.u8) 28 w.heap.size (B ++ O) wI vo0_4 (((List.range k).map f)) ∧ (∀ b, vo0_4.ownBlock = some b → b ∈ B)) (n.toNat - (0)) ?_ ?_
 ·exact ⟨(0), (.slice none 0 0), [], (by first | omega | (simp; done) | (simp; omega) | simp_all), rfl, ⟨_, upds_self _ ⟨rfl, rfl, rfl, (by first | rfl | exact congrArg (Value.int _) (by first | omega | (simp))), rfl, trivial⟩⟩, s0, (by rw [show ((List.range (0)).map f) = [] from rfl]; exact (Own.nil (Enc.slice Enc.u8) 28 _ _ _)), (by intro b hb; simp [Value.ownBlock] at hb)⟩
 ·intro ml0 F wl0 hI
  obtain ⟨k, vo0_4, Bl0, hr0_0, hm0, ⟨Fl0, rfl⟩, sl0, ho0_4, hB0_4⟩ := hI
  refine cw_seq (?_)
  refine cw_region (by kernel_rfl) (wl_s (o_lss .i64 ((k : Nat) : Int) n rfl rfl (wl_nil (thenQ_n (?_)))))
  refine cw_seq (?_)
  refine cw_cond (decide (((k : Nat) : Int) < n)) rfl rfl (fun hc2351 => ?_) (fun hc2351 => ?_)
  ·have hp2352 : ((k : Nat) : Int) < n := by first | simpa using hc2351 | (have e := hc2351; simp at e; omega)
   refine cw_skip (thenQ_n (?_))
   refine cw_seq (?_)
   refine cw_block (?_)
   refine cw_seq (?_)
   refine cw_region (by kernel_rfl) (wl_s (o_move (vI ((k : Nat) : Int)) rfl (wl_s (o_assign (vI ((k : Nat) : Int)) rfl (wl_nil (thenQ_n (?_)))))))
   refine cw_region (by kernel_rfl) (wl_s (o_move (vo0_4) rfl (wl_s (o_move (Value.func (.func f_v) #[] f_caps.toArray) rfl (wl_s (o_move (vI ((k : Nat) : Int)) rfl (wl_s (o_callvK [] f_caps [vI ((k : Nat) : Int)] h_f_e rfl (h_f wl0 (Bl0 ++ O) sl0.keep (fun b hb => (List.mem_append.1 hb).elim (fun h => .inr (sl0.new b h).1) .inl) sl0.lt k  (by first | omega | assumption)) rfl rfl sl0 fun v2353 w2354 s2355 m2356 k2357 r2358 => (?_)))))))))
   obtain ⟨_, rfl, hl2359⟩ := r2358
   have := hl2359.len_le
   have ho0_4 := ho0_4.mv m2356 k2357 (by simp)
   refine wl_s (o_lit (E := (Enc.slice Enc.u8)) (xs := [.tmp 13]) Try.underlying51 s_28 z_28 (by decide) [v2353] [[v2353]] [f k] rfl rfl rfl (Parts.cons (cells_one hl2359.oneCell) ⟨_, rfl, hl2359⟩ (Parts.nil _ _ _)) (of_decide_eq_true rfl) s2355 fun v2364 w2360 s2361 m2362 k2363 hl2365 => (?_))
   have ho0_4 := ho0_4.mv m2362 k2363 (by simp)
   have := hl2365.len_le
   refine wl_s (o_append (E := (Enc.slice Enc.u8)) (l := ((List.range k).map f)) (m := [f k]) Try.underlying51 i_28 rfl (by decide) rfl rfl ho0_4 hl2365 (fun _ hb => .inl hb) hB0_4 (by simp; omega) (by simp [maxLen]; omega) s2361 fun v2370 w2366 B2372 hB2373 at2374 sub2375 s2367 m2368 k2369 ho2371 => (?_))
   refine wl_s (o_assign (v2370) rfl (wl_nil (blockQ_n (thenQ_n (?_)))))
   refine cw_region (by kernel_rfl) (wl_s (o_add .i64 ((k : Nat) : Int) (1 : Int) (((k + 1 : Nat) : Int)) rfl rfl (w64 (by omega) (by omega)) (wl_s (o_move (vI ((k + 1 : Nat) : Int)) rfl (wl_nil (thenQ_n (?_)))))))
   exact ⟨_, (by omega), (k + 1), v2370, B2372, (by first | omega | (simp; done) | (simp; omega) | simp_all), rfl, ⟨_, upds_self _ ⟨rfl, rfl, rfl, (by first | rfl | exact congrArg (Value.int _) (by first | omega | (simp))), rfl, trivial⟩⟩, s2367, (by rw [show ((List.range (k + 1)).map f) = ((List.range k).map f) ++ ([f k]) from by simp [List.range_succ]]; exact ho2371), hB2373⟩
  ·have hp2376 : n ≤ ((k : Nat) : Int) := by first | simpa using hc2351 | (have e := hc2351; simp at e; omega)
   obtain rfl : k = n.toNat := by omega
   refine cw_exit (thenQ_x (thenQ_x (blockQ_x (thenQ_n (?_)))))
   refine cw_seq (?_)
   refine cw_region (by kernel_rfl) (wl_s (o_move (vo0_4) rfl (wl_s (o_assign (vo0_4) rfl (wl_nil (thenQ_n (?_)))))))
   refine cw_ret (end_r rfl (res1 rfl rfl rfl) (?_))
   have e : ((List.range (n).toNat).map f) = ((List.range n.toNat).map f) := rfl
   exact ⟨_, rfl, sl0.keep, by rw [e]; exact ⟨vo0_4, rfl, ho0_4.pub sl0⟩⟩
set_option maxHeartbeats 4000000 in
set_option maxRecDepth 100000 in
theorem c_collectS {O : List Nat} (n : Int) (f_v : Nat) (f_caps : List Value) (f : Nat → Share) (w : World) (h_f_e : ∀ (vs_ : Array Value) (w : World), (callFunc f_v vs_).run Try.prog w = .ok (.enter f_v vs_) w) (h_f : ∀ (w' : World) (O' : List Nat), Keep [] w w' → (∀ b ∈ O', b ∈ O ∨ w.heap.size ≤ b) → (∀ b ∈ O', b < w'.heap.size) → ∀ (i : Nat), (i : Int) < n → CallsK Try.prog f_v ([vI (i : Int)] ++ f_caps) w' (fun v w2 => ∃ (x0 : List Value), v = .agg x0.toArray ∧ Enc.share.rd w2 (O') x0 (f i))) (hpre0 : n ≤ 1000000) (hO : ∀ b ∈ O, b < w.heap.size) : CallsK Try.prog 51 [vI n, .func (.func f_v) #[] f_caps.toArray] w (fun v w' => ∃ (x0 : Value), v = x0 ∧ RdL Enc.share w' (O) x0 ((List.range (n).toNat).map f)) :=  by
 have s0 : St w O w [] := St.start hO
 refine callsK_of 18 Try.func51 rfl rfl (of_decide_eq_true rfl) (fun F0 => ?_)
 refine cw_seq (?_)
 refine cw_region (by kernel_rfl) (wl_s (o_assign (.slice none 0 0) rfl (wl_nil (thenQ_n (?_)))))
 refine cw_seq (?_)
 refine cw_seq (?_)
 refine cw_region (by kernel_rfl) (wl_s (o_move (vI n) rfl (wl_s (o_move (vI (0 : Int)) rfl (wl_nil (thenQ_n (?_)))))))
 refine cw_block (?_)
 refine cw_loop (fun mI FI wI => ∃ (k : Nat) (vo0_4 : Value) (B : List Nat), k ≤ n.toNat ∧ mI = n.toNat - k ∧ (∃ F1, FI = upds F1 [(1, Value.func (.func f_v) #[] f_caps.toArray), (4, vo0_4), (6, vI n), (7, vI ((k : Nat) : Int)), (18, undef)]) ∧ St w O wI B ∧ Own Enc.share 53 w.heap.size (B ++ O) wI vo0_4 (((List.range k).map f)) ∧ (∀ b, vo0_4.ownBlock = some b → b ∈ B)) (n.toNat - (0)) ?_ ?_
 ·exact ⟨(0), (.slice none 0 0), [], (by first | omega | (simp; done) | (simp; omega) | simp_all), rfl, ⟨_, upds_self _ ⟨rfl, rfl, rfl, (by first | rfl | exact congrArg (Value.int _) (by first | omega | (simp))), rfl, trivial⟩⟩, s0, (by rw [show ((List.range (0)).map f) = [] from rfl]; exact (Own.nil Enc.share 53 _ _ _)), (by intro b hb; simp [Value.ownBlock] at hb)⟩
 ·intro ml0 F wl0 hI
  obtain ⟨k, vo0_4, Bl0, hr0_0, hm0, ⟨Fl0, rfl⟩, sl0, ho0_4, hB0_4⟩ := hI
  refine cw_seq (?_)
  refine cw_region (by kernel_rfl) (wl_s (o_lss .i64 ((k : Nat) : Int) n rfl rfl (wl_nil (thenQ_n (?_)))))
  refine cw_seq (?_)
  refine cw_cond (decide (((k : Nat) : Int) < n)) rfl rfl (fun hc2377 => ?_) (fun hc2377 => ?_)
  ·have hp2378 : ((k : Nat) : Int) < n := by first | simpa using hc2377 | (have e := hc2377; simp at e; omega)
   refine cw_skip (thenQ_n (?_))
   refine cw_seq (?_)
   refine cw_block (?_)
   refine cw_seq (?_)
   refine cw_region (by kernel_rfl) (wl_s (o_move (vI ((k : Nat) : Int)) rfl (wl_s (o_assign (vI ((k : Nat) : Int)) rfl (wl_nil (thenQ_n (?_)))))))
   refine cw_region (by kernel_rfl) (wl_s (o_move (vo0_4) rfl (wl_s (o_move (Value.func (.func f_v) #[] f_caps.toArray) rfl (wl_s (o_move (vI ((k : Nat) : Int)) rfl (wl_s (o_callvK [] f_caps [vI ((k : Nat) : Int)] h_f_e rfl (h_f wl0 (Bl0 ++ O) sl0.keep (fun b hb => (List.mem_append.1 hb).elim (fun h => .inr (sl0.new b h).1) .inl) sl0.lt k  (by first | omega | assumption)) rfl rfl sl0 fun v2379 w2380 s2381 m2382 k2383 r2384 => (?_)))))))))
   obtain ⟨cs2385, rfl, hs2386⟩ := r2384
   have ho0_4 := ho0_4.mv m2382 k2383 (by simp)
   refine wl_s (o_lit (E := Enc.share) (xs := [.tmp 13]) Try.underlying38 s_53 z_53 (by decide) [Value.agg cs2385.toArray] [cs2385] [f k] rfl rfl rfl (Parts.cons rfl hs2386 (Parts.nil _ _ _)) (of_decide_eq_true rfl) s2381 fun v2391 w2387 s2388 m2389 k2390 hl2392 => (?_))
   have ho0_4 := ho0_4.mv m2389 k2390 (by simp)
   have := hl2392.len_le
   refine wl_s (o_append (E := Enc.share) (l := ((List.range k).map f)) (m := [f k]) Try.underlying38 i_53 rfl (by decide) rfl rfl ho0_4 hl2392 (fun _ hb => .inl hb) hB0_4 (by simp; omega) (by simp [maxLen]; omega) s2388 fun v2397 w2393 B2399 hB2400 at2401 sub2402 s2394 m2395 k2396 ho2398 => (?_))
   refine wl_s (o_assign (v2397) rfl (wl_nil (blockQ_n (thenQ_n (?_)))))
   refine cw_region (by kernel_rfl) (wl_s (o_add .i64 ((k : Nat) : Int) (1 : Int) (((k + 1 : Nat) : Int)) rfl rfl (w64 (by omega) (by omega)) (wl_s (o_move (vI ((k + 1 : Nat) : Int)) rfl (wl_nil (thenQ_n (?_)))))))
   exact ⟨_, (by omega), (k + 1), v2397, B2399, (by first | omega | (simp; done) | (simp; omega) | simp_all), rfl, ⟨_, upds_self _ ⟨rfl, rfl, rfl, (by first | rfl | exact congrArg (Value.int _) (by first | omega | (simp))), rfl, trivial⟩⟩, s2394, (by rw [show ((List.range (k + 1)).map f) = ((List.range k).map f) ++ ([f k]) from by simp [List.range_succ]]; exact ho2398), hB2400⟩
  ·have hp2403 : n ≤ ((k : Nat) : Int) := by first | simpa using hc2377 | (have e := hc2377; simp at e; omega)
   obtain rfl : k = n.toNat := by omega
   refine cw_exit (thenQ_x (thenQ_x (blockQ_x (thenQ_n (?_)))))
   refine cw_seq (?_)
   refine cw_region (by kernel_rfl) (wl_s (o_move (vo0_4) rfl (wl_s (o_assign (vo0_4) rfl (wl_nil (thenQ_n (?_)))))))
   refine cw_ret (end_r rfl (res1 rfl rfl rfl) (?_))
   have e : ((List.range (n).toNat).map f) = ((List.range n.toNat).map f) := rfl
   exact ⟨_, rfl, sl0.keep, by rw [e]; exact ⟨vo0_4, rfl, ho0_4.pub sl0⟩⟩
set_option maxHeartbeats 4000000 in
set_option maxRecDepth 100000 in
theorem c_collectB {O : List Nat} (n : Int) (f_v : Nat) (f_caps : List Value) (f : Nat → UInt8) (w : World) (h_f_e : ∀ (vs_ : Array Value) (w : World), (callFunc f_v vs_).run Try.prog w = .ok (.enter f_v vs_) w) (h_f : ∀ (w' : World) (O' : List Nat), Keep [] w w' → (∀ b ∈ O', b ∈ O ∨ w.heap.size ≤ b) → (∀ b ∈ O', b < w'.heap.size) → ∀ (i : Nat), (i : Int) < n → CallsK Try.prog f_v ([vI (i : Int)] ++ f_caps) w' (fun v w2 => v = vB (f i))) (hpre0 : n ≤ 1000000) (hO : ∀ b ∈ O, b < w.heap.size) : CallsK Try.prog 53 [vI n, .func (.func f_v) #[] f_caps.toArray] w (fun v w' => ∃ (x0 : Value), v = x0 ∧ RdL Enc.u8 w' (O) x0 ((List.range (n).toNat).map f)) :=  by
 have s0 : St w O w [] := St.start hO
 refine callsK_of 18 Try.func53 rfl rfl (of_decide_eq_true rfl) (fun F0 => ?_)
 refine cw_seq (?_)
 refine cw_region (by kernel_rfl) (wl_s (o_assign (.slice none 0 0) rfl (wl_nil (thenQ_n (?_)))))
 refine cw_seq (?_)
 refine cw_seq (?_)
 refine cw_region (by kernel_rfl) (wl_s (o_move (vI n) rfl (wl_s (o_move (vI (0 : Int)) rfl (wl_nil (thenQ_n (?_)))))))
 refine cw_block (?_)
 refine cw_loop (fun mI FI wI => ∃ (k : Nat) (vo0_4 : Value) (B : List Nat), k ≤ n.toNat ∧ mI = n.toNat - k ∧ (∃ F1, FI = upds F1 [(1, Value.func (.func f_v) #[] f_caps.toArray), (4, vo0_4), (6, vI n), (7, vI ((k : Nat) : Int)), (18, undef)]) ∧ St w O wI B ∧ Own Enc.u8 5 w.heap.size (B ++ O) wI vo0_4 (((List.range k).map f)) ∧ (∀ b, vo0_4.ownBlock = some b → b ∈ B)) (n.toNat - (0)) ?_ ?_
 ·exact ⟨(0), (.slice none 0 0), [], (by first | omega | (simp; done) | (simp; omega) | simp_all), rfl, ⟨_, upds_self _ ⟨rfl, rfl, rfl, (by first | rfl | exact congrArg (Value.int _) (by first | omega | (simp))), rfl, trivial⟩⟩, s0, (by rw [show ((List.range (0)).map f) = [] from rfl]; exact (Own.nil Enc.u8 5 _ _ _)), (by intro b hb; simp [Value.ownBlock] at hb)⟩
 ·intro ml0 F wl0 hI
  obtain ⟨k, vo0_4, Bl0, hr0_0, hm0, ⟨Fl0, rfl⟩, sl0, ho0_4, hB0_4⟩ := hI
  refine cw_seq (?_)
  refine cw_region (by kernel_rfl) (wl_s (o_lss .i64 ((k : Nat) : Int) n rfl rfl (wl_nil (thenQ_n (?_)))))
  refine cw_seq (?_)
  refine cw_cond (decide (((k : Nat) : Int) < n)) rfl rfl (fun hc2404 => ?_) (fun hc2404 => ?_)
  ·have hp2405 : ((k : Nat) : Int) < n := by first | simpa using hc2404 | (have e := hc2404; simp at e; omega)
   refine cw_skip (thenQ_n (?_))
   refine cw_seq (?_)
   refine cw_block (?_)
   refine cw_seq (?_)
   refine cw_region (by kernel_rfl) (wl_s (o_move (vI ((k : Nat) : Int)) rfl (wl_s (o_assign (vI ((k : Nat) : Int)) rfl (wl_nil (thenQ_n (?_)))))))
   refine cw_region (by kernel_rfl) (wl_s (o_move (vo0_4) rfl (wl_s (o_move (Value.func (.func f_v) #[] f_caps.toArray) rfl (wl_s (o_move (vI ((k : Nat) : Int)) rfl (wl_s (o_callvK [] f_caps [vI ((k : Nat) : Int)] h_f_e rfl (h_f wl0 (Bl0 ++ O) sl0.keep (fun b hb => (List.mem_append.1 hb).elim (fun h => .inr (sl0.new b h).1) .inl) sl0.lt k  (by first | omega | assumption)) rfl rfl sl0 fun v2406 w2407 s2408 m2409 k2410 r2411 => (?_)))))))))
   obtain rfl := r2411
   have ho0_4 := ho0_4.mv m2409 k2410 (by simp)
   refine wl_s (o_lit (E := Enc.u8) (xs := [.tmp 13]) Try.underlying28 s_5 z_5 (by decide) [vB (f k)] [[vB (f k)]] [f k] rfl rfl rfl (Parts.cons rfl rfl (Parts.nil _ _ _)) (of_decide_eq_true rfl) s2408 fun v2416 w2412 s2413 m2414 k2415 hl2417 => (?_))
   have ho0_4 := ho0_4.mv m2414 k2415 (by simp)
   have := hl2417.len_le
   refine wl_s (o_append (E := Enc.u8) (l := ((List.range k).map f)) (m := [f k]) Try.underlying28 i_5 rfl (by decide) rfl rfl ho0_4 hl2417 (fun _ hb => .inl hb) hB0_4 (by simp; omega) (by simp [maxLen]; omega) s2413 fun v2422 w2418 B2424 hB2425 at2426 sub2427 s2419 m2420 k2421 ho2423 => (?_))
   refine wl_s (o_assign (v2422) rfl (wl_nil (blockQ_n (thenQ_n (?_)))))
   refine cw_region (by kernel_rfl) (wl_s (o_add .i64 ((k : Nat) : Int) (1 : Int) (((k + 1 : Nat) : Int)) rfl rfl (w64 (by omega) (by omega)) (wl_s (o_move (vI ((k + 1 : Nat) : Int)) rfl (wl_nil (thenQ_n (?_)))))))
   exact ⟨_, (by omega), (k + 1), v2422, B2424, (by first | omega | (simp; done) | (simp; omega) | simp_all), rfl, ⟨_, upds_self _ ⟨rfl, rfl, rfl, (by first | rfl | exact congrArg (Value.int _) (by first | omega | (simp))), rfl, trivial⟩⟩, s2419, (by rw [show ((List.range (k + 1)).map f) = ((List.range k).map f) ++ ([f k]) from by simp [List.range_succ]]; exact ho2423), hB2425⟩
  ·have hp2428 : n ≤ ((k : Nat) : Int) := by first | simpa using hc2404 | (have e := hc2404; simp at e; omega)
   obtain rfl : k = n.toNat := by omega
   refine cw_exit (thenQ_x (thenQ_x (blockQ_x (thenQ_n (?_)))))
   refine cw_seq (?_)
   refine cw_region (by kernel_rfl) (wl_s (o_move (vo0_4) rfl (wl_s (o_assign (vo0_4) rfl (wl_nil (thenQ_n (?_)))))))
   refine cw_ret (end_r rfl (res1 rfl rfl rfl) (?_))
   have e : ((List.range (n).toNat).map f) = ((List.range n.toNat).map f) := rfl
   exact ⟨_, rfl, sl0.keep, by rw [e]; exact ⟨vo0_4, rfl, ho0_4.pub sl0⟩⟩
set_option maxHeartbeats 4000000 in
set_option maxRecDepth 100000 in
theorem c_split21 {O : List Nat} (i : Nat) (polys_a : Addr) (polys : (List (List UInt8))) (k_a : Addr) (k : Int) (w : World) (h_polys : PT (Enc.slice (Enc.slice Enc.u8)) w O (.pointer (some polys_a)) polys) (h_k : PT Enc.int w O (.pointer (some k_a)) k) (hpre0 : i < polys.length) (hpre1 : 0 ≤ k) (hpre2 : k < 1000) (hO : ∀ b ∈ O, b < w.heap.size) : CallsK Try.prog 54 [vI (i : Int), .pointer (some polys_a), .pointer (some k_a)] w (fun v _ => v = vB (pev polys[i]! (u8of (k + 1)))) :=  by
 have h_polys : PT (Enc.slice (Enc.slice Enc.u8)) w ([] ++ O) (.pointer (some polys_a)) polys := h_polys
 have h_k : PT Enc.int w ([] ++ O) (.pointer (some k_a)) k := h_k
 have s0 : St w O w [] := St.start hO
 refine callsK_of 13 Try.func54 rfl rfl (of_decide_eq_true rfl) (fun F0 => ?_)
 refine cw_seq (?_)
 refine cw_region (by kernel_rfl) (wl_s (o_assign (vB (0 : UInt8)) rfl (wl_nil (thenQ_n (?_)))))
 refine cw_seq (?_)
 refine cw_draw' 7 _ _ [fun (vT : Value) (wT : World) => RdL (Enc.slice Enc.u8) wT ([] ++ O) vT (polys), isV (vI (i : Int)), fun (vT : Value) (wT : World) => ∃ aT, vT = .pointer (some aT) ∧ PT (Enc.slice Enc.u8) wT ([] ++ O) (.pointer (some aT)) (polys[i]!), fun (vT : Value) (wT : World) => RdL Enc.u8 wT ([] ++ O) vT (polys[i]!), isV (vI k), isV (vI (k + (1 : Int))), isV (vB (u8of (k + (1 : Int))))] (by kernel_rfl) (by kernel_rfl) (by kernel_rfl) (by kernel_rfl) rfl rfl ⟨fun _ _ _ h k => h.mv (Mv.of_keep k), kI, fun _ _ _ ⟨a, e, h⟩ k => ⟨a, e, h.mv (Mv.of_keep k)⟩, fun _ _ _ h k => h.mv (Mv.of_keep k), kI, kI, kI, trivial⟩ ⟨?_, ?_, ?_, ?_, ?_, ?_, ?_, trivial⟩ ?_
 ·intro F1 w1 k1 hf hd
  have k0 := (Keep.drew [] w).trans k1
  have m1 : Mv ([]) w ([]) w1 := Mv.of_keep k0
  have h_polys := h_polys.mv m1
  obtain ⟨F2, rfl⟩ := lit_of (F := F1) [(1, Value.pointer (some polys_a))] ⟨hf 1 (by kernel_rfl), trivial⟩
  refine sp_plain rfl ((o_loadL Try.underlying51 rfl rfl h_polys fun v2429 hl2430 => (?_)))
  have := hl2430.len_le
  exact ⟨(Keep.refl _ _), hl2430⟩
 ·intro F1 w1 k1 hf hd
  obtain ⟨F2, rfl⟩ := lit_of (F := F1) [(0, vI (i : Int))] ⟨hf 0 (by kernel_rfl), trivial⟩
  exact sp_plain rfl ((o_move (vI (i : Int)) rfl (⟨(Keep.refl _ _), rfl⟩)))
 ·intro F1 w1 k1 hf hd
  obtain ⟨v2431, e2433, hl2432⟩ : ∃ v, F1 5 = v ∧ RdL (Enc.slice Enc.u8) w1 ([] ++ O) v (polys) := ⟨_, rfl, hd 0 5 (by kernel_rfl)⟩
  have := hl2432.len_le
  obtain ⟨F2, rfl⟩ := lit_of (F := F1) [(5, v2431), (6, vI (i : Int))] ⟨e2433, hd 1 6 (by kernel_rfl), trivial⟩
  exact sp_plain rfl ((o_idx Try.underlying51 s_28 .i64 (i : Int) i rfl rfl rfl hl2432 (by omega) fun a2434 hp2435 => (⟨(Keep.refl _ _), ⟨a2434, rfl, hp2435⟩⟩)))
 ·intro F1 w1 k1 hf hd
  obtain ⟨a2436, e2438, hp2437⟩ : ∃ a, F1 7 = .pointer (some a) ∧ PT (Enc.slice Enc.u8) w1 ([] ++ O) (.pointer (some a)) (polys[i]!) := hd 2 7 (by kernel_rfl)
  obtain ⟨F2, rfl⟩ := lit_of (F := F1) [(7, Value.pointer (some a2436))] ⟨e2438, trivial⟩
  refine sp_plain rfl ((o_loadL Try.underlying28 rfl rfl hp2437 fun v2439 hl2440 => (?_)))
  have := hl2440.len_le
  exact ⟨(Keep.refl _ _), hl2440⟩
 ·intro F1 w1 k1 hf hd
  have k0 := (Keep.drew [] w).trans k1
  have m1 : Mv ([]) w ([]) w1 := Mv.of_keep k0
  have h_k := h_k.mv m1
  obtain ⟨F2, rfl⟩ := lit_of (F := F1) [(2, Value.pointer (some k_a))] ⟨hf 2 (by kernel_rfl), trivial⟩
  exact sp_plain rfl ((o_loadI Try.underlying3 rfl rfl h_k (⟨(Keep.refl _ _), rfl⟩)))
 ·intro F1 w1 k1 hf hd
  obtain ⟨F2, rfl⟩ := lit_of (F := F1) [(9, vI k)] ⟨hd 4 9 (by kernel_rfl), trivial⟩
  exact sp_plain rfl ((o_add .i64 k (1 : Int) (k + (1 : Int)) rfl rfl (w64 (by omega) (by omega)) (⟨(Keep.refl _ _), rfl⟩)))
 ·intro F1 w1 k1 hf hd
  obtain ⟨F2, rfl⟩ := lit_of (F := F1) [(10, vI (k + (1 : Int)))] ⟨hd 5 10 (by kernel_rfl), trivial⟩
  exact sp_plain rfl ((o_u8of .i64 Try.underlying3 Try.underlying5 (k + (1 : Int)) rfl (⟨(Keep.refl _ _), rfl⟩)))
 intro F2442 w2443 k2441 hT2444 hF2445
 have s2446 := s0.call k2441
 obtain ⟨v2449, e2451, hl2450⟩ : ∃ v, F2442 8 = v ∧ RdL Enc.u8 w2443 ([] ++ O) v (polys[i]!) := ⟨_, rfl, hT2444 3 8 (by kernel_rfl) (by decide)⟩
 have := hl2450.len_le
 obtain ⟨F2, rfl⟩ := lit_of (F := F2442) [(4, vB (0 : UInt8)), (13, undef), (8, v2449), (11, vB (u8of (k + (1 : Int))))] ⟨hF2445 4 (by kernel_rfl), hF2445 13 (by kernel_rfl), e2451, hT2444 6 11 (by kernel_rfl) (by decide), trivial⟩
 clear hT2444 hF2445
 refine wl_s (o_callK (vs := [v2449, vB (u8of (k + (1 : Int)))]) enter_26 (c_eval (O := [] ++ O) v2449 (polys[i]!) (u8of (k + (1 : Int))) w2443 hl2450 s2446.lt) rfl s2446 fun v2452 w2453 s2454 m2455 k2456 r2457 => (?_))
 obtain rfl := r2457
 refine wl_s (o_assign (vB (pev (polys[i]!) (u8of (k + (1 : Int))))) rfl (wl_nil (thenQ_n (?_))))
 refine cw_ret (end_r rfl (res1 rfl rfl rfl) (?_))
 have e : (pev polys[i]! (u8of (k + 1))) = (pev (polys[i]!) (u8of (k + (1 : Int)))) := rfl
 exact ⟨_, rfl, s2454.keep, by rw [e]; exact rfl⟩
set_option maxHeartbeats 4000000 in
set_option maxRecDepth 100000 in
theorem c_split2 {O : List Nat} (k : Nat) (secret_a : Addr) (secret : (List UInt8)) (polys_a : Addr) (polys : (List (List UInt8))) (epoch_a : Addr) (epoch : Int) (threshold_a : Addr) (threshold : Int) (many_a : Addr) (many : Int) (w : World) (h_secret : PT (Enc.slice Enc.u8) w O (.pointer (some secret_a)) secret) (h_polys : PT (Enc.slice (Enc.slice Enc.u8)) w O (.pointer (some polys_a)) polys) (h_epoch : PT Enc.int w O (.pointer (some epoch_a)) epoch) (h_threshold : PT Enc.int w O (.pointer (some threshold_a)) threshold) (h_many : PT Enc.int w O (.pointer (some many_a)) many) (hpre0 : polys.length = secret.length) (hpre1 : (k : Int) < many) (hpre2 : many ≤ 8) (hpre3 : secret.length ≤ 64) (hO : ∀ b ∈ O, b < w.heap.size) : CallsK Try.prog 52 [vI (k : Int), .pointer (some secret_a), .pointer (some polys_a), .pointer (some epoch_a), .pointer (some threshold_a), .pointer (some many_a)] w (fun v w' => ∃ (x0 : List Value), v = .agg x0.toArray ∧ Enc.share.rd w' (O) x0 (splitShare secret polys epoch threshold many k)) :=  by
 have h_secret : PT (Enc.slice Enc.u8) w ([] ++ O) (.pointer (some secret_a)) secret := h_secret
 have h_polys : PT (Enc.slice (Enc.slice Enc.u8)) w ([] ++ O) (.pointer (some polys_a)) polys := h_polys
 have h_epoch : PT Enc.int w ([] ++ O) (.pointer (some epoch_a)) epoch := h_epoch
 have h_threshold : PT Enc.int w ([] ++ O) (.pointer (some threshold_a)) threshold := h_threshold
 have h_many : PT Enc.int w ([] ++ O) (.pointer (some many_a)) many := h_many
 have s0 : St w O w [] := St.start hO
 refine callsK_of 20 Try.func52 rfl rfl (of_decide_eq_true rfl) (fun F0 => ?_)
 refine cw_seq (?_)
 refine cw_region (by kernel_rfl) (wl_s (o_boxR (E := Enc.int) (vI (k : Int)) ([vI (k : Int)]) (k : Int) rfl rfl rfl s0 fun a2458 w2459 s2460 m2461 k2462 hp2463 => (?_)))
 have h_secret := h_secret.mv m2461
 have h_polys := h_polys.mv m2461
 have h_epoch := h_epoch.mv m2461
 have h_threshold := h_threshold.mv m2461
 have h_many := h_many.mv m2461
 refine wl_s (o_alloc [vI (0 : Int), vI (0 : Int), vI (0 : Int), vI (0 : Int), Value.slice none 0 0] z_53 rfl s2460 fun b2464 w2465 e2470 s2466 m2467 k2468 bx2469 => (?_))
 clear e2470
 have h_secret := h_secret.mv m2467
 have h_polys := h_polys.mv m2467
 have h_epoch := h_epoch.mv m2467
 have h_threshold := h_threshold.mv m2467
 have h_many := h_many.mv m2467
 have hp2463 := hp2463.mv m2467
 refine wl_nil (thenQ_n (?_))
 refine cw_seq (?_)
 refine cw_region (by kernel_rfl) (wl_s (o_loadL Try.underlying28 rfl rfl h_secret fun v2471 hl2472 => (?_)))
 have := hl2472.len_le
 refine wl_s (o_lenR Try.underlying28 rfl hl2472 (wl_s (o_makeFunc (first := []) (captured := [.tmp 2, .tmp 6]) [] [Value.pointer (some polys_a), Value.pointer (some a2458)] rfl rfl (wl_s (o_callK (vs := [vI (secret.length : Int), Value.func (.func 54) #[] #[Value.pointer (some polys_a), Value.pointer (some a2458)]]) enter_53 (c_collectB (O := (b2464 :: []) ++ O) (secret.length : Int) 54 [Value.pointer (some polys_a), Value.pointer (some a2458)] (fun i_ => pev polys[i_]! (u8of ((k : Int) + 1))) w2465 enter_54 (fun w'_ O'_ kk_ hs_ hl_ i_  hc_ => c_split21 (O := O'_) i_ polys_a polys a2458 (k : Int) w'_ (h_polys.on hs_ kk_) (hp2463.on hs_ kk_) (by first | omega | assumption | (simp; done)) (by first | omega | assumption | (simp; done)) (by first | omega | assumption | (simp; done)) hl_) (by first | omega | assumption | (simp; done)) s2466.lt) rfl s2466 fun v2473 w2474 s2475 m2476 k2477 r2478 => (?_))))))
 obtain ⟨_, rfl, hl2479⟩ := r2478
 have := hl2479.len_le
 have h_epoch := h_epoch.mv m2476
 have h_threshold := h_threshold.mv m2476
 have h_many := h_many.mv m2476
 have hp2463 := hp2463.mv m2476
 have bx2469 := bx2469.keep k2477 (by simp)
 refine wl_s (o_assign (v2473) rfl (wl_nil (thenQ_n (?_))))
 refine cw_seq (?_)
 refine cw_region (by kernel_rfl) (wl_s (o_loadI Try.underlying3 rfl rfl h_epoch (wl_s (o_loadI Try.underlying3 rfl rfl hp2463 (wl_s (o_add .i64 (k : Int) (1 : Int) ((k : Int) + (1 : Int)) rfl rfl (w64 (by omega) (by omega)) (wl_s (o_loadI Try.underlying3 rfl rfl h_threshold (wl_s (o_loadI Try.underlying3 rfl rfl h_many (wl_s (o_move (v2473) rfl (wl_s (o_build (l := [(0, .tmp 13), (1, .tmp 15), (2, .tmp 16), (3, .tmp 17), (4, .tmp 18)]) pl_53 z_53 rfl [(0, vI epoch, [vI epoch]), (1, vI ((k : Int) + (1 : Int)), [vI ((k : Int) + (1 : Int))]), (2, vI threshold, [vI threshold]), (3, vI many, [vI many]), (4, v2473, [v2473])] [vI epoch, vI ((k : Int) + (1 : Int)), vI threshold, vI many, v2473] rfl ⟨_, rfl, rfl, (of_decide_eq_true rfl), ⟨_, rfl, rfl, (of_decide_eq_true rfl), ⟨_, rfl, rfl, (of_decide_eq_true rfl), ⟨_, rfl, rfl, (of_decide_eq_true rfl), ⟨_, rfl, (cells_one hl2479.oneCell), (of_decide_eq_true rfl), rfl⟩⟩⟩⟩⟩ (wl_n (o_store (vs := [vI epoch, vI ((k : Int) + (1 : Int)), vI threshold, vI many, v2473]) (.agg #[vI epoch, vI ((k : Int) + (1 : Int)), vI threshold, vI many, v2473]) rfl rfl rfl s_53 (fun u hu => by simp only [List.mem_cons, List.not_mem_nil, or_false] at hu; rcases hu with rfl | rfl | rfl | rfl | rfl <;> first | rfl | exact hl2479.oneCell) (by first | assumption | (repeat (first | exact List.mem_cons_self | assumption | apply List.mem_cons_of_mem))) bx2469 (of_decide_eq_true rfl) s2475 fun w2480 s2481 m2482 k2483 bx2484 => (?_)))))))))))))))))
 have hl2479 := hl2479.mv m2482
 refine wl_nil (thenQ_n (?_))
 refine cw_ret (end_r rfl (rescA (vs := [vI epoch, vI ((k : Int) + (1 : Int)), vI threshold, vI many, v2473]) rfl rfl Try.underlying53 rfl s_53 rfl bx2484 rfl) (?_))
 have e : (splitShare secret polys epoch threshold many k) = (⟨epoch, (k : Int) + (1 : Int), threshold, many, (List.range ((secret.length : Int)).toNat).map (fun i_ => pev polys[i_]! (u8of ((k : Int) + 1)))⟩ : Share) := rfl
 exact ⟨_, rfl, s2481.keep, by rw [e]; exact ⟨[vI epoch, vI ((k : Int) + (1 : Int)), vI threshold, vI many, v2473], rfl, Enc.out ⟨_, rfl, hl2479⟩⟩⟩
set_option maxHeartbeats 4000000 in
set_option maxRecDepth 100000 in
theorem c_split {O : List Nat} (secret_v : Value) (secret : List UInt8) (epoch : Int) (threshold : Int) (many : Int) (coins_v : Value) (coins : List UInt8) (w : World) (h_secret : RdL Enc.u8 w O secret_v secret) (h_coins : RdL Enc.u8 w O coins_v coins) (hO : ∀ b ∈ O, b < w.heap.size) : CallsK Try.prog 30 [secret_v, vI epoch, vI threshold, vI many, coins_v] w (fun v w' => ∃ (x0 : Value), v = .tuple #[x0, vI ((splitM secret epoch threshold many coins).2)] ∧ RdL Enc.share w' (O) x0 ((splitM secret epoch threshold many coins).1)) :=  by
 have lim_secret := h_secret.len_le
 have h_secret : RdL Enc.u8 w ([] ++ O) secret_v secret := h_secret
 have lim_coins := h_coins.len_le
 have h_coins : RdL Enc.u8 w ([] ++ O) coins_v coins := h_coins
 have s0 : St w O w [] := St.start hO
 refine callsK_of 53 Try.func30 rfl rfl (of_decide_eq_true rfl) (fun F0 => ?_)
 refine cw_seq (?_)
 refine cw_region (by kernel_rfl) (wl_s (o_boxR (E := (Enc.slice Enc.u8)) (secret_v) ([secret_v]) secret rfl (cells_one h_secret.oneCell) ⟨_, rfl, h_secret⟩ s0 fun a2485 w2486 s2487 m2488 k2489 hp2490 => (?_)))
 have h_coins := h_coins.mv m2488
 refine wl_s (o_boxR (E := Enc.int) (vI epoch) ([vI epoch]) epoch rfl rfl rfl s2487 fun a2491 w2492 s2493 m2494 k2495 hp2496 => (?_))
 have h_coins := h_coins.mv m2494
 have hp2490 := hp2490.mv m2494
 refine wl_s (o_boxR (E := Enc.int) (vI threshold) ([vI threshold]) threshold rfl rfl rfl s2493 fun a2497 w2498 s2499 m2500 k2501 hp2502 => (?_))
 have h_coins := h_coins.mv m2500
 have hp2490 := hp2490.mv m2500
 have hp2496 := hp2496.mv m2500
 refine wl_s (o_boxR (E := Enc.int) (vI many) ([vI many]) many rfl rfl rfl s2499 fun a2503 w2504 s2505 m2506 k2507 hp2508 => (?_))
 have h_coins := h_coins.mv m2506
 have hp2490 := hp2490.mv m2506
 have hp2496 := hp2496.mv m2506
 have hp2502 := hp2502.mv m2506
 refine wl_s (o_boxR (E := (Enc.slice Enc.u8)) (coins_v) ([coins_v]) coins rfl (cells_one h_coins.oneCell) ⟨_, rfl, h_coins⟩ s2505 fun a2509 w2510 s2511 m2512 k2513 hp2514 => (?_))
 have hp2490 := hp2490.mv m2512
 have hp2496 := hp2496.mv m2512
 have hp2502 := hp2502.mv m2512
 have hp2508 := hp2508.mv m2512
 refine wl_s (o_assign (Value.slice none 0 0) rfl (wl_s (o_assign (vI (0 : Int)) rfl (wl_nil (thenQ_n (?_))))))
 refine cw_seq (?_)
 refine cw_block (?_)
 refine cw_seq (?_)
 refine cw_region (by kernel_rfl) (wl_s (o_loadL Try.underlying28 rfl rfl hp2490 fun v2515 hl2516 => (?_)))
 have := hl2516.len_le
 refine wl_s (o_lenR Try.underlying28 rfl hl2516 (wl_s (o_gtr .i64 (secret.length : Int) (64 : Int) rfl rfl (wl_s (o_assign (Value.bool (decide ((64 : Int) < (secret.length : Int)))) rfl (wl_nil (thenQ_n (?_))))))))
 refine cw_cond (decide ((64 : Int) < (secret.length : Int))) rfl rfl (fun hc2517 => ?_) (fun hc2517 => ?_)
 ·have hp2518 : (64 : Int) < (secret.length : Int) := by first | simpa using hc2517 | (have e := hc2517; simp at e; omega)
  refine cw_seq (?_)
  refine cw_region (by kernel_rfl) (wl_s (o_assign (Value.slice none 0 0) rfl (wl_s (o_assign (vI (1 : Int)) rfl (wl_nil (thenQ_n (?_)))))))
  refine cw_ret (blockQ_r (thenQ_r (end_r rfl (res2 rfl rfl rfl rfl) (?_))))
  have e : (splitM secret epoch threshold many coins) = ([], (1 : Int)) := by first | exact splitM_ok (by unfold splitBad; ((repeat (first | (refine (if_pos ?_).trans ?_; solve | omega | assumption | (simp only [dbs]; first | done | omega | assumption) | (simp only [*, dbs]; done)) | (refine (if_neg ?_).trans ?_; solve | omega | assumption | (simp only [dbs]; first | done | omega | assumption) | (simp only [*, dbs]; done)))); rfl)) rfl | exact splitM_bad (by unfold splitBad; ((repeat (first | (refine (if_pos ?_).trans ?_; solve | omega | assumption | (simp only [dbs]; first | done | omega | assumption) | (simp only [*, dbs]; done)) | (refine (if_neg ?_).trans ?_; solve | omega | assumption | (simp only [dbs]; first | done | omega | assumption) | (simp only [*, dbs]; done)))); rfl)) (by decide)
  exact ⟨_, rfl, s2511.keep, by rw [e]; exact ⟨.slice none 0 0, rfl, RdL.nil _ _ _⟩⟩
 ·have hp2519 : (secret.length : Int) ≤ (64 : Int) := by first | simpa using hc2517 | (have e := hc2517; simp at e; omega)
  refine cw_seq (?_)
  refine cw_region (by kernel_rfl) (wl_s (o_loadI Try.underlying3 rfl rfl hp2502 (wl_s (o_lss .i64 threshold (1 : Int) rfl rfl (wl_s (o_move (Value.bool (decide (threshold < (1 : Int)))) rfl (?_)))))))
  cases hb2520 : (decide (threshold < (1 : Int)))
  ·have hp2521 : (1 : Int) ≤ threshold := by first | simpa using hb2520 | (have e := hb2520; simp at e; omega)
   refine wl_t rfl (o_loadI Try.underlying3 rfl rfl hp2502 (wl_t rfl (o_loadI Try.underlying3 rfl rfl hp2508 (wl_t rfl (o_gtr .i64 threshold many rfl rfl (wl_s (o_pickF (Value.bool (decide (many < threshold))) rfl rfl (wl_s (o_move (Value.bool (decide (many < threshold))) rfl (?_))))))))))
   cases hb2522 : (decide (many < threshold))
   ·have hp2523 : threshold ≤ many := by first | simpa using hb2522 | (have e := hb2522; simp at e; omega)
    refine wl_t rfl (o_loadI Try.underlying3 rfl rfl hp2508 (wl_t rfl (o_gtr .i64 many (8 : Int) rfl rfl (wl_s (o_pickF (Value.bool (decide ((8 : Int) < many))) rfl rfl (wl_s (o_assign (Value.bool (decide ((8 : Int) < many))) rfl (wl_nil (thenQ_n (?_))))))))))
    refine cw_cond (decide ((8 : Int) < many)) rfl rfl (fun hc2524 => ?_) (fun hc2524 => ?_)
    ·have hp2525 : (8 : Int) < many := by first | simpa using hc2524 | (have e := hc2524; simp at e; omega)
     refine cw_seq (?_)
     refine cw_region (by kernel_rfl) (wl_s (o_assign (Value.slice none 0 0) rfl (wl_s (o_assign (vI (80 : Int)) rfl (wl_nil (thenQ_n (?_)))))))
     refine cw_ret (blockQ_r (thenQ_r (end_r rfl (res2 rfl rfl rfl rfl) (?_))))
     have e : (splitM secret epoch threshold many coins) = ([], (80 : Int)) := by first | exact splitM_ok (by unfold splitBad; ((repeat (first | (refine (if_pos ?_).trans ?_; solve | omega | assumption | (simp only [dbs]; first | done | omega | assumption) | (simp only [*, dbs]; done)) | (refine (if_neg ?_).trans ?_; solve | omega | assumption | (simp only [dbs]; first | done | omega | assumption) | (simp only [*, dbs]; done)))); rfl)) rfl | exact splitM_bad (by unfold splitBad; ((repeat (first | (refine (if_pos ?_).trans ?_; solve | omega | assumption | (simp only [dbs]; first | done | omega | assumption) | (simp only [*, dbs]; done)) | (refine (if_neg ?_).trans ?_; solve | omega | assumption | (simp only [dbs]; first | done | omega | assumption) | (simp only [*, dbs]; done)))); rfl)) (by decide)
     exact ⟨_, rfl, s2511.keep, by rw [e]; exact ⟨.slice none 0 0, rfl, RdL.nil _ _ _⟩⟩
    ·have hp2526 : many ≤ (8 : Int) := by first | simpa using hc2524 | (have e := hc2524; simp at e; omega)
     refine cw_seq (?_)
     refine cw_region (by kernel_rfl) (wl_s (o_loadI Try.underlying3 rfl rfl hp2496 (wl_s (o_lss .i64 epoch (0 : Int) rfl rfl (wl_s (o_move (Value.bool (decide (epoch < (0 : Int)))) rfl (?_)))))))
     cases hb2527 : (decide (epoch < (0 : Int)))
     ·have hp2528 : (0 : Int) ≤ epoch := by first | simpa using hb2527 | (have e := hb2527; simp at e; omega)
      refine wl_t rfl (o_loadI Try.underlying3 rfl rfl hp2496 (wl_t rfl (o_gtr .i64 epoch (1048576 : Int) rfl rfl (wl_s (o_pickF (Value.bool (decide ((1048576 : Int) < epoch))) rfl rfl (wl_s (o_assign (Value.bool (decide ((1048576 : Int) < epoch))) rfl (wl_nil (thenQ_n (?_))))))))))
      refine cw_cond (decide ((1048576 : Int) < epoch)) rfl rfl (fun hc2529 => ?_) (fun hc2529 => ?_)
      ·have hp2530 : (1048576 : Int) < epoch := by first | simpa using hc2529 | (have e := hc2529; simp at e; omega)
       refine cw_seq (?_)
       refine cw_region (by kernel_rfl) (wl_s (o_assign (Value.slice none 0 0) rfl (wl_s (o_assign (vI (81 : Int)) rfl (wl_nil (thenQ_n (?_)))))))
       refine cw_ret (blockQ_r (thenQ_r (end_r rfl (res2 rfl rfl rfl rfl) (?_))))
       have e : (splitM secret epoch threshold many coins) = ([], (81 : Int)) := by first | exact splitM_ok (by unfold splitBad; ((repeat (first | (refine (if_pos ?_).trans ?_; solve | omega | assumption | (simp only [dbs]; first | done | omega | assumption) | (simp only [*, dbs]; done)) | (refine (if_neg ?_).trans ?_; solve | omega | assumption | (simp only [dbs]; first | done | omega | assumption) | (simp only [*, dbs]; done)))); rfl)) rfl | exact splitM_bad (by unfold splitBad; ((repeat (first | (refine (if_pos ?_).trans ?_; solve | omega | assumption | (simp only [dbs]; first | done | omega | assumption) | (simp only [*, dbs]; done)) | (refine (if_neg ?_).trans ?_; solve | omega | assumption | (simp only [dbs]; first | done | omega | assumption) | (simp only [*, dbs]; done)))); rfl)) (by decide)
       exact ⟨_, rfl, s2511.keep, by rw [e]; exact ⟨.slice none 0 0, rfl, RdL.nil _ _ _⟩⟩
      ·have hp2531 : epoch ≤ (1048576 : Int) := by first | simpa using hc2529 | (have e := hc2529; simp at e; omega)
       refine cw_seq (?_)
       refine cw_region (by kernel_rfl) (wl_s (o_loadL Try.underlying28 rfl rfl hp2514 fun v2532 hl2533 => (?_)))
       have := hl2533.len_le
       refine wl_s (o_lenR Try.underlying28 rfl hl2533 (wl_s (o_loadL Try.underlying28 rfl rfl hp2490 fun v2534 hl2535 => (?_))))
       have := hl2535.len_le
       refine wl_s (o_lenR Try.underlying28 rfl hl2535 (wl_s (o_loadI Try.underlying3 rfl rfl hp2502 (wl_s (o_sub .i64 threshold (1 : Int) (threshold - (1 : Int)) rfl rfl (w64 (by omega) (by omega)) (wl_s (o_mul .i64 (secret.length : Int) (threshold - (1 : Int)) ((secret.length : Int) * (threshold - (1 : Int))) rfl rfl (w64 (mulb (by omega) (by omega) (by omega) (by omega)) rfl) (wl_s (o_neq .i64 (coins.length : Int) ((secret.length : Int) * (threshold - (1 : Int))) rfl rfl (wl_s (o_assign (Value.bool ((coins.length : Int) != ((secret.length : Int) * (threshold - (1 : Int))))) rfl (wl_nil (thenQ_n (?_))))))))))))))
       refine cw_cond ((coins.length : Int) != ((secret.length : Int) * (threshold - (1 : Int)))) rfl rfl (fun hc2536 => ?_) (fun hc2536 => ?_)
       ·have hp2537 : (coins.length : Int) ≠ (secret.length : Int) * (threshold - (1 : Int)) := by first | simpa using hc2536 | (have e := hc2536; simp at e; omega)
        refine cw_seq (?_)
        refine cw_region (by kernel_rfl) (wl_s (o_assign (Value.slice none 0 0) rfl (wl_s (o_assign (vI (1 : Int)) rfl (wl_nil (thenQ_n (?_)))))))
        refine cw_ret (blockQ_r (thenQ_r (end_r rfl (res2 rfl rfl rfl rfl) (?_))))
        have e : (splitM secret epoch threshold many coins) = ([], (1 : Int)) := by first | exact splitM_ok (by unfold splitBad; ((repeat (first | (refine (if_pos ?_).trans ?_; solve | omega | assumption | (simp only [dbs]; first | done | omega | assumption) | (simp only [*, dbs]; done)) | (refine (if_neg ?_).trans ?_; solve | omega | assumption | (simp only [dbs]; first | done | omega | assumption) | (simp only [*, dbs]; done)))); rfl)) rfl | exact splitM_bad (by unfold splitBad; ((repeat (first | (refine (if_pos ?_).trans ?_; solve | omega | assumption | (simp only [dbs]; first | done | omega | assumption) | (simp only [*, dbs]; done)) | (refine (if_neg ?_).trans ?_; solve | omega | assumption | (simp only [dbs]; first | done | omega | assumption) | (simp only [*, dbs]; done)))); rfl)) (by decide)
        exact ⟨_, rfl, s2511.keep, by rw [e]; exact ⟨.slice none 0 0, rfl, RdL.nil _ _ _⟩⟩
       ·have hp2538 : (coins.length : Int) = (secret.length : Int) * (threshold - (1 : Int)) := by first | simpa using hc2536 | (have e := hc2536; simp at e; omega)
        refine cw_skip (blockQ_n (thenQ_n (?_)))
        refine cw_seq (?_)
        refine cw_region (by kernel_rfl) (wl_s (o_loadL Try.underlying28 rfl rfl hp2490 fun v2539 hl2540 => (?_)))
        have := hl2540.len_le
        refine wl_s (o_lenR Try.underlying28 rfl hl2540 (wl_s (o_makeFunc (first := []) (captured := [.tmp 5, .tmp 9, .tmp 7]) [] [Value.pointer (some a2485), Value.pointer (some a2509), Value.pointer (some a2497)] rfl rfl (wl_s (o_callK (vs := [vI (secret.length : Int), Value.func (.func 49) #[] #[Value.pointer (some a2485), Value.pointer (some a2509), Value.pointer (some a2497)]]) enter_48 (c_collectL (O := [] ++ O) (secret.length : Int) 49 [Value.pointer (some a2485), Value.pointer (some a2509), Value.pointer (some a2497)] (fun i_ => polyM secret coins threshold i_) w2510 enter_49 (fun w'_ O'_ kk_ hs_ hl_ i_  hc_ => c_split1 (O := O'_) i_ a2485 secret a2509 coins a2497 threshold w'_ (hp2490.on hs_ kk_) (hp2514.on hs_ kk_) (hp2502.on hs_ kk_) (by first | omega | assumption | (simp; done)) (by first | omega | assumption | (simp; done)) (by first | omega | assumption | (simp; done)) (by first | omega | assumption | (simp; done)) (by first | omega | assumption | (simp; done)) hl_) (by first | omega | assumption | (simp; done)) s2511.lt) rfl s2511 fun v2541 w2542 s2543 m2544 k2545 r2546 => (?_))))))
        obtain ⟨_, rfl, hl2547⟩ := r2546
        have := hl2547.len_le
        have hp2490 := hp2490.mv m2544
        have hp2496 := hp2496.mv m2544
        have hp2502 := hp2502.mv m2544
        have hp2508 := hp2508.mv m2544
        refine wl_s (o_alloc [Value.slice none 0 0] z_51 rfl s2543 fun b2548 w2549 e2554 s2550 m2551 k2552 bx2553 => (?_))
        clear e2554
        have hp2490 := hp2490.mv m2551
        have hp2496 := hp2496.mv m2551
        have hp2502 := hp2502.mv m2551
        have hp2508 := hp2508.mv m2551
        have hl2547 := hl2547.mv m2551
        refine wl_n (o_store1 (v2541) rfl rfl hl2547.oneCell s_51 (by first | assumption | (repeat (first | exact List.mem_cons_self | assumption | apply List.mem_cons_of_mem))) bx2553 (of_decide_eq_true rfl) s2550 fun w2555 s2556 m2557 k2558 bx2559 => (?_))
        have hp2490 := hp2490.mv m2557
        have hp2496 := hp2496.mv m2557
        have hp2502 := hp2502.mv m2557
        have hp2508 := hp2508.mv m2557
        have hl2547 := hl2547.mv m2557
        refine wl_nil (thenQ_n (?_))
        refine cw_seq (?_)
        refine cw_region (by kernel_rfl) (wl_s (o_loadI Try.underlying3 rfl rfl hp2508 (?_)))
        obtain ⟨B2560, s2561, m2562, hp2563, hk2564⟩ := bx2559.publish (E := (Enc.slice (Enc.slice Enc.u8))) (u := (List.range ((secret.length : Int)).toNat).map (fun i_ => polyM secret coins threshold i_)) ⟨_, rfl, hl2547⟩ s2556 (by first | assumption | (repeat (first | exact List.mem_cons_self | assumption | apply List.mem_cons_of_mem)))
        have hp2490 := hp2490.mv m2562
        have hp2496 := hp2496.mv m2562
        have hp2502 := hp2502.mv m2562
        have hp2508 := hp2508.mv m2562
        refine wl_s (o_makeFunc (first := []) (captured := [.tmp 5, .tmp 12, .tmp 6, .tmp 7, .tmp 8]) [] [Value.pointer (some a2485), Value.pointer (some ⟨b2548, 0, none⟩), Value.pointer (some a2491), Value.pointer (some a2497), Value.pointer (some a2503)] rfl rfl (wl_s (o_callK (vs := [vI many, Value.func (.func 52) #[] #[Value.pointer (some a2485), Value.pointer (some ⟨b2548, 0, none⟩), Value.pointer (some a2491), Value.pointer (some a2497), Value.pointer (some a2503)]]) enter_51 (c_collectS (O := B2560 ++ O) many 52 [Value.pointer (some a2485), Value.pointer (some ⟨b2548, 0, none⟩), Value.pointer (some a2491), Value.pointer (some a2497), Value.pointer (some a2503)] (fun i_ => splitShare secret ((List.range ((secret.length : Int)).toNat).map (fun i_ => polyM secret coins threshold i_)) epoch threshold many i_) w2555 enter_52 (fun w'_ O'_ kk_ hs_ hl_ i_  hc_ => c_split2 (O := O'_) i_ a2485 secret (⟨b2548, 0, none⟩) ((List.range ((secret.length : Int)).toNat).map (fun i_ => polyM secret coins threshold i_)) a2491 epoch a2497 threshold a2503 many w'_ (hp2490.on hs_ kk_) (hp2563.on hs_ kk_) (hp2496.on hs_ kk_) (hp2502.on hs_ kk_) (hp2508.on hs_ kk_) (by simp) (by omega) (by omega) (by omega) hl_) (by first | omega | assumption | (simp; done)) s2561.lt) rfl s2561 fun v2565 w2566 s2567 m2568 k2569 r2570 => (?_))))
        obtain ⟨_, rfl, hl2571⟩ := r2570
        have := hl2571.len_le
        refine wl_s (o_assign (v2565) rfl (wl_nil (thenQ_n (?_))))
        refine cw_seq (?_)
        refine cw_region (by kernel_rfl) (wl_s (o_move (v2565) rfl (wl_s (o_assign (v2565) rfl (wl_s (o_assign (vI (0 : Int)) rfl (wl_nil (thenQ_n (?_)))))))))
        refine cw_ret (end_r rfl (res2 rfl rfl rfl rfl) (?_))
        have e : (splitM secret epoch threshold many coins) = ((List.range (many).toNat).map (fun i_ => splitShare secret ((List.range ((secret.length : Int)).toNat).map (fun i_ => polyM secret coins threshold i_)) epoch threshold many i_), (0 : Int)) := by first | exact splitM_ok (by unfold splitBad; ((repeat (first | (refine (if_pos ?_).trans ?_; solve | omega | assumption | (simp only [dbs]; first | done | omega | assumption) | (simp only [*, dbs]; done)) | (refine (if_neg ?_).trans ?_; solve | omega | assumption | (simp only [dbs]; first | done | omega | assumption) | (simp only [*, dbs]; done)))); rfl)) rfl | exact splitM_bad (by unfold splitBad; ((repeat (first | (refine (if_pos ?_).trans ?_; solve | omega | assumption | (simp only [dbs]; first | done | omega | assumption) | (simp only [*, dbs]; done)) | (refine (if_neg ?_).trans ?_; solve | omega | assumption | (simp only [dbs]; first | done | omega | assumption) | (simp only [*, dbs]; done)))); rfl)) (by decide)
        exact ⟨_, rfl, s2567.keep, by rw [e]; exact ⟨v2565, rfl, hl2571.out⟩⟩
     ·have hp2572 : epoch < (0 : Int) := by first | simpa using hb2527 | (have e := hb2527; simp at e; omega)
      refine wl_k rfl (wl_k rfl (wl_s (o_pickT (Value.bool true) rfl rfl (wl_s (o_assign (Value.bool true) rfl (wl_nil (thenQ_n (?_))))))))
      refine cw_cond true rfl rfl (fun _ => ?_) (fun h => by cases h)
      refine cw_seq (?_)
      refine cw_region (by kernel_rfl) (wl_s (o_assign (Value.slice none 0 0) rfl (wl_s (o_assign (vI (81 : Int)) rfl (wl_nil (thenQ_n (?_)))))))
      refine cw_ret (blockQ_r (thenQ_r (end_r rfl (res2 rfl rfl rfl rfl) (?_))))
      have e : (splitM secret epoch threshold many coins) = ([], (81 : Int)) := by first | exact splitM_ok (by unfold splitBad; ((repeat (first | (refine (if_pos ?_).trans ?_; solve | omega | assumption | (simp only [dbs]; first | done | omega | assumption) | (simp only [*, dbs]; done)) | (refine (if_neg ?_).trans ?_; solve | omega | assumption | (simp only [dbs]; first | done | omega | assumption) | (simp only [*, dbs]; done)))); rfl)) rfl | exact splitM_bad (by unfold splitBad; ((repeat (first | (refine (if_pos ?_).trans ?_; solve | omega | assumption | (simp only [dbs]; first | done | omega | assumption) | (simp only [*, dbs]; done)) | (refine (if_neg ?_).trans ?_; solve | omega | assumption | (simp only [dbs]; first | done | omega | assumption) | (simp only [*, dbs]; done)))); rfl)) (by decide)
      exact ⟨_, rfl, s2511.keep, by rw [e]; exact ⟨.slice none 0 0, rfl, RdL.nil _ _ _⟩⟩
   ·have hp2573 : many < threshold := by first | simpa using hb2522 | (have e := hb2522; simp at e; omega)
    refine wl_k rfl (wl_k rfl (wl_s (o_pickT (Value.bool true) rfl rfl (wl_s (o_assign (Value.bool true) rfl (wl_nil (thenQ_n (?_))))))))
    refine cw_cond true rfl rfl (fun _ => ?_) (fun h => by cases h)
    refine cw_seq (?_)
    refine cw_region (by kernel_rfl) (wl_s (o_assign (Value.slice none 0 0) rfl (wl_s (o_assign (vI (80 : Int)) rfl (wl_nil (thenQ_n (?_)))))))
    refine cw_ret (blockQ_r (thenQ_r (end_r rfl (res2 rfl rfl rfl rfl) (?_))))
    have e : (splitM secret epoch threshold many coins) = ([], (80 : Int)) := by first | exact splitM_ok (by unfold splitBad; ((repeat (first | (refine (if_pos ?_).trans ?_; solve | omega | assumption | (simp only [dbs]; first | done | omega | assumption) | (simp only [*, dbs]; done)) | (refine (if_neg ?_).trans ?_; solve | omega | assumption | (simp only [dbs]; first | done | omega | assumption) | (simp only [*, dbs]; done)))); rfl)) rfl | exact splitM_bad (by unfold splitBad; ((repeat (first | (refine (if_pos ?_).trans ?_; solve | omega | assumption | (simp only [dbs]; first | done | omega | assumption) | (simp only [*, dbs]; done)) | (refine (if_neg ?_).trans ?_; solve | omega | assumption | (simp only [dbs]; first | done | omega | assumption) | (simp only [*, dbs]; done)))); rfl)) (by decide)
    exact ⟨_, rfl, s2511.keep, by rw [e]; exact ⟨.slice none 0 0, rfl, RdL.nil _ _ _⟩⟩
  ·have hp2574 : threshold < (1 : Int) := by first | simpa using hb2520 | (have e := hb2520; simp at e; omega)
   refine wl_k rfl (wl_k rfl (wl_k rfl (wl_s (o_pickT (Value.bool true) rfl rfl (wl_s (o_move (Value.bool true) rfl (wl_k rfl (wl_k rfl (wl_s (o_pickT (Value.bool true) rfl rfl (wl_s (o_assign (Value.bool true) rfl (wl_nil (thenQ_n (?_)))))))))))))))
   refine cw_cond true rfl rfl (fun _ => ?_) (fun h => by cases h)
   refine cw_seq (?_)
   refine cw_region (by kernel_rfl) (wl_s (o_assign (Value.slice none 0 0) rfl (wl_s (o_assign (vI (80 : Int)) rfl (wl_nil (thenQ_n (?_)))))))
   refine cw_ret (blockQ_r (thenQ_r (end_r rfl (res2 rfl rfl rfl rfl) (?_))))
   have e : (splitM secret epoch threshold many coins) = ([], (80 : Int)) := by first | exact splitM_ok (by unfold splitBad; ((repeat (first | (refine (if_pos ?_).trans ?_; solve | omega | assumption | (simp only [dbs]; first | done | omega | assumption) | (simp only [*, dbs]; done)) | (refine (if_neg ?_).trans ?_; solve | omega | assumption | (simp only [dbs]; first | done | omega | assumption) | (simp only [*, dbs]; done)))); rfl)) rfl | exact splitM_bad (by unfold splitBad; ((repeat (first | (refine (if_pos ?_).trans ?_; solve | omega | assumption | (simp only [dbs]; first | done | omega | assumption) | (simp only [*, dbs]; done)) | (refine (if_neg ?_).trans ?_; solve | omega | assumption | (simp only [dbs]; first | done | omega | assumption) | (simp only [*, dbs]; done)))); rfl)) (by decide)
   exact ⟨_, rfl, s2511.keep, by rw [e]; exact ⟨.slice none 0 0, rfl, RdL.nil _ _ _⟩⟩

end Go.Proofs.Yteajcgfcnbdmgaa
