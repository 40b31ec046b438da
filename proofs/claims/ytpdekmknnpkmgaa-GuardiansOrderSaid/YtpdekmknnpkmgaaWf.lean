/- Walks, printed by gen.py. -/
import Derived.Test.YtpdekmknnpkmgaaWo
set_option linter.unusedSimpArgs false
set_option linter.unusedVariables false
namespace Go.Proofs.Ytpdekmknnpkmgaa
open Go.Fw Go.RowKit

set_option maxHeartbeats 4000000 in
set_option maxRecDepth 100000 in
theorem c_finish {O : List Nat} (c_cs : List Value) (c : Circle) (no : Int) (day : Int) (w : World) (h_c : Enc.circle.rd w O c_cs c) (hO : ∀ b ∈ O, b < w.heap.size) : CallsK Try.prog 22 [.agg c_cs.toArray, vI no, vI day] w (fun v w' => ∃ (x0 : List Value), v = .tuple #[.agg x0.toArray, vI ((gAct c no (fFinish c day)).2)] ∧ Enc.circle.rd w' (O) x0 ((gAct c no (fFinish c day)).1)) :=  by
 have h_c : Enc.circle.rd w ([] ++ O) c_cs c := h_c
 have s0 : St w O w [] := St.start hO
 refine callsK_of 14 Try.func22 rfl rfl (of_decide_eq_true rfl) (fun F0 => ?_)
 refine cw_seq (?_)
 refine cw_region (by kernel_rfl) (wl_s (o_boxR (E := Enc.circle) (Value.agg c_cs.toArray) (c_cs) c rfl rfl h_c s0 fun a1990 w1991 s1992 m1993 k1994 hp1995 => (?_)))
 refine wl_s (o_boxR (E := Enc.int) (vI day) ([vI day]) day rfl rfl rfl s1992 fun a1996 w1997 s1998 m1999 k2000 hp2001 => (?_))
 have hp1995 := hp1995.mv m1999
 refine wl_s (o_alloc [vI (0 : Int), vI (0 : Int), vI (0 : Int), Value.slice none 0 0, Value.slice none 0 0] z_25 rfl s1998 fun b2002 w2003 e2008 s2004 m2005 k2006 bx2007 => (?_))
 clear e2008
 have hp1995 := hp1995.mv m2005
 have hp2001 := hp2001.mv m2005
 refine wl_s (o_assign (vI (0 : Int)) rfl (wl_nil (thenQ_n (?_))))
 refine cw_seq (?_)
 refine cw_region (by kernel_rfl) (wl_s (o_loadS Try.underlying25 rfl s_25 rfl hp1995 fun cs2009 hs2010 => (wl_s (o_move (vI no) rfl (wl_s (o_makeFunc (first := []) (captured := [.tmp 5, .tmp 3]) [] [Value.pointer (some a1996), Value.pointer (some a1990)] rfl rfl (wl_s (o_callX [Value.agg cs2009.toArray, vI no, Value.func (.func 53) #[] #[Value.pointer (some a1996), Value.pointer (some a1990)]] enter_37 rfl (calls_of_cwD 51 Try.func37 rfl rfl (of_decide_eq_true rfl) (fun F2011 => ?_))))))))))
 refine cw_seq (?_)
 refine cw_region (by kernel_rfl) (wl_s (o_boxR (E := Enc.circle) (Value.agg cs2009.toArray) (cs2009) c rfl rfl hs2010 s2004 fun a2012 w2013 s2014 m2015 k2016 hp2017 => (?_)))
 have hp2001 := hp2001.mv m2015
 have hp1995 := hp1995.mv m2015
 have bx2007 := bx2007.keep k2016 (by simp)
 refine wl_s (o_alloc [vI (0 : Int), vI (0 : Int), vI (0 : Int), Value.slice none 0 0, Value.slice none 0 0] z_25 rfl s2014 fun b2018 w2019 e2024 s2020 m2021 k2022 bx2023 => (?_))
 have ne2025 : b2002 ≠ b2018 := by have := bx2007.lt; omega
 clear e2024
 have hp2001 := hp2001.mv m2021
 have hp1995 := hp1995.mv m2021
 have hp2017 := hp2017.mv m2021
 have bx2007 := bx2007.keep k2022 (by simp)
 refine wl_s (o_alloc [vI (0 : Int)] z_28 rfl s2020 fun b2026 w2027 e2032 s2028 m2029 k2030 bx2031 => (?_))
 have ne2033 : b2002 ≠ b2026 := by have := bx2007.lt; omega
 have ne2034 : b2018 ≠ b2026 := by have := bx2023.lt; omega
 clear e2032
 have hp2001 := hp2001.mv m2029
 have hp1995 := hp1995.mv m2029
 have hp2017 := hp2017.mv m2029
 have bx2007 := bx2007.keep k2030 (by simp)
 have bx2023 := bx2023.keep k2030 (by simp)
 refine wl_nil (thenQ_n (?_))
 refine cw_seq (?_)
 refine cw_seq (?_)
 refine cw_region (by kernel_rfl) (wl_s (o_loadS Try.underlying25 rfl s_25 rfl hp2017 fun cs2035 hs2036 => (wl_s (o_callK (vs := [Value.agg cs2035.toArray]) enter_16 (c_check (O := (b2026 :: (b2018 :: (b2002 :: []))) ++ O) cs2035 c w2027 hs2036 s2028.lt) rfl s2028 fun v2037 w2038 s2039 m2040 k2041 r2042 => (?_)))))
 obtain rfl := r2042
 have hp2001 := hp2001.mv m2040
 have hp1995 := hp1995.mv m2040
 have hp2017 := hp2017.mv m2040
 have bx2007 := bx2007.keep k2041 (by simp)
 have bx2023 := bx2023.keep k2041 (by simp)
 have bx2031 := bx2031.keep k2041 (by simp)
 refine wl_s (o_assign (vI (gCheck c)) rfl (wl_nil (thenQ_n (?_))))
 refine cw_seq (?_)
 refine cw_region (by kernel_rfl) (wl_s (o_move (vI (gCheck c)) rfl (wl_s (o_neq .i64 (gCheck c) (0 : Int) rfl rfl (wl_nil (thenQ_n (?_)))))))
 refine cw_cond ((gCheck c) != (0 : Int)) rfl rfl (fun hc2043 => ?_) (fun hc2043 => ?_)
 ·have hp2044 : gCheck c ≠ (0 : Int) := by first | simpa using hc2043 | (have e := hc2043; simp at e; omega)
  refine cw_seq (?_)
  refine cw_region (by kernel_rfl) (wl_s (o_loadBxA (vs := [vI (0 : Int), vI (0 : Int), vI (0 : Int), Value.slice none 0 0, Value.slice none 0 0]) Try.underlying25 rfl s_25 rfl bx2023 rfl (wl_s (o_move (vI (gCheck c)) rfl (wl_n (o_store (vs := [vI (0 : Int), vI (0 : Int), vI (0 : Int), Value.slice none 0 0, Value.slice none 0 0]) (.agg #[vI (0 : Int), vI (0 : Int), vI (0 : Int), Value.slice none 0 0, Value.slice none 0 0]) rfl rfl rfl s_25 (fun u hu => by simp only [List.mem_cons, List.not_mem_nil, or_false] at hu; rcases hu with rfl | rfl | rfl | rfl | rfl <;> first | rfl) (by repeat (first | assumption | constructor)) bx2023 (of_decide_eq_true rfl) s2039 fun w2045 s2046 m2047 k2048 bx2049 => (?_)))))))
  have bx2007 := bx2007.keep k2048 (nin1 ne2025)
  have bx2031 := bx2031.keep k2048 (nin1 (Ne.symm ne2034))
  refine wl_n (o_store1 (vI (gCheck c)) rfl rfl rfl s_28 (by repeat (first | assumption | constructor)) bx2031 (of_decide_eq_true rfl) s2046 fun w2050 s2051 m2052 k2053 bx2054 => (?_))
  have bx2007 := bx2007.keep k2053 (nin1 ne2033)
  have bx2049 := bx2049.keep k2053 (nin1 ne2034)
  refine wl_nil (thenQ_n (?_))
  refine cw_ret (thenQ_r (endD_r rfl (resv2 rfl (rv_A (vs := [vI (0 : Int), vI (0 : Int), vI (0 : Int), Value.slice none 0 0, Value.slice none 0 0]) rfl Try.underlying25 rfl s_25 rfl bx2049 rfl) (rv_c rfl Try.underlying28 rfl rfl bx2054 rfl)) (both_r (?_))))
  refine wl_s (o_extract (Value.agg #[vI (0 : Int), vI (0 : Int), vI (0 : Int), Value.slice none 0 0, Value.slice none 0 0]) rfl rfl (wl_s (o_extract (vI (gCheck c)) rfl rfl (wl_n (o_store (vs := [vI (0 : Int), vI (0 : Int), vI (0 : Int), Value.slice none 0 0, Value.slice none 0 0]) (.agg #[vI (0 : Int), vI (0 : Int), vI (0 : Int), Value.slice none 0 0, Value.slice none 0 0]) rfl rfl rfl s_25 (fun u hu => by simp only [List.mem_cons, List.not_mem_nil, or_false] at hu; rcases hu with rfl | rfl | rfl | rfl | rfl <;> first | rfl) (by repeat (first | assumption | constructor)) bx2007 (of_decide_eq_true rfl) s2051 fun w2055 s2056 m2057 k2058 bx2059 => (?_))))))
  refine wl_s (o_assign (vI (gCheck c)) rfl (wl_nil (thenQ_n (?_))))
  refine cw_ret (end_r rfl (resv2 rfl (rv_A (vs := [vI (0 : Int), vI (0 : Int), vI (0 : Int), Value.slice none 0 0, Value.slice none 0 0]) rfl Try.underlying25 rfl s_25 rfl bx2059 rfl) (rv_t rfl rfl)) (?_))
  have e2060 : ((gAct c no (fFinish c day)).1) = (⟨(0 : Int), (0 : Int), (0 : Int), [], []⟩ : Circle) := by exact congrArg (fun p => p.1) (show gAct c no (fFinish c day) = _ from fin_bad (by assumption))
  have e2061 : ((gAct c no (fFinish c day)).2) = (gCheck c) := by exact congrArg (fun p => p.2) (show gAct c no (fFinish c day) = _ from fin_bad (by assumption))
  exact ⟨_, rfl, s2056.keep, by rw [e2060, e2061]; exact ⟨[vI (0 : Int), vI (0 : Int), vI (0 : Int), Value.slice none 0 0, Value.slice none 0 0], rfl, Enc.out (B := (b2026 :: (b2018 :: (b2002 :: [])))) ⟨.slice none 0 0, .slice none 0 0, rfl, (RdL.nil _ _ _), (RdL.nil _ _ _)⟩⟩⟩
 ·have hp2062 : gCheck c = (0 : Int) := by first | simpa using hc2043 | (have e := hc2043; simp at e; omega)
  have hok : gCheck c = 0 := hp2062
  have hrl := recs_le hok
  refine cw_skip (thenQ_n (?_))
  refine cw_seq (?_)
  refine cw_seq (?_)
  refine cw_region (by kernel_rfl) (wl_s (o_move (vI no) rfl (wl_s (o_lss .i64 no (0 : Int) rfl rfl (wl_s (o_move (Value.bool (decide (no < (0 : Int)))) rfl (?_)))))))
  cases hb2063 : (decide (no < (0 : Int)))
  ·have hp2064 : (0 : Int) ≤ no := by first | simpa using hb2063 | (have e := hb2063; simp at e; omega)
   refine wl_t rfl (o_move (vI no) rfl (wl_t rfl (o_fieldR 4 f_25_4 (c.recs) rfl hp2017 (fun _ _ _ h => Enc_circle_f4 h) fun a2065 hp2066 => (wl_t rfl (o_loadL Try.underlying23 rfl rfl hp2066 fun v2067 hl2068 => (?_))))))
   have := hl2068.len_le
   refine wl_t rfl (o_lenR Try.underlying23 rfl hl2068 (wl_t rfl (o_geq .i64 no (c.recs.length : Int) rfl rfl (wl_s (o_pickF (Value.bool (decide ((c.recs.length : Int) ≤ no))) rfl rfl (wl_nil (thenQ_n (?_))))))))
   refine cw_cond (decide ((c.recs.length : Int) ≤ no)) rfl rfl (fun hc2069 => ?_) (fun hc2069 => ?_)
   ·have hp2070 : (c.recs.length : Int) ≤ no := by first | simpa using hc2069 | (have e := hc2069; simp at e; omega)
    refine cw_seq (?_)
    refine cw_region (by kernel_rfl) (wl_s (o_loadBxA (vs := [vI (0 : Int), vI (0 : Int), vI (0 : Int), Value.slice none 0 0, Value.slice none 0 0]) Try.underlying25 rfl s_25 rfl bx2023 rfl (wl_n (o_store (vs := [vI (0 : Int), vI (0 : Int), vI (0 : Int), Value.slice none 0 0, Value.slice none 0 0]) (.agg #[vI (0 : Int), vI (0 : Int), vI (0 : Int), Value.slice none 0 0, Value.slice none 0 0]) rfl rfl rfl s_25 (fun u hu => by simp only [List.mem_cons, List.not_mem_nil, or_false] at hu; rcases hu with rfl | rfl | rfl | rfl | rfl <;> first | rfl) (by repeat (first | assumption | constructor)) bx2023 (of_decide_eq_true rfl) s2039 fun w2071 s2072 m2073 k2074 bx2075 => (?_)))))
    have bx2007 := bx2007.keep k2074 (nin1 ne2025)
    have bx2031 := bx2031.keep k2074 (nin1 (Ne.symm ne2034))
    refine wl_n (o_store1 (vI (1 : Int)) rfl rfl rfl s_28 (by repeat (first | assumption | constructor)) bx2031 (of_decide_eq_true rfl) s2072 fun w2076 s2077 m2078 k2079 bx2080 => (?_))
    have bx2007 := bx2007.keep k2079 (nin1 ne2033)
    have bx2075 := bx2075.keep k2079 (nin1 ne2034)
    refine wl_nil (thenQ_n (?_))
    refine cw_ret (thenQ_r (endD_r rfl (resv2 rfl (rv_A (vs := [vI (0 : Int), vI (0 : Int), vI (0 : Int), Value.slice none 0 0, Value.slice none 0 0]) rfl Try.underlying25 rfl s_25 rfl bx2075 rfl) (rv_c rfl Try.underlying28 rfl rfl bx2080 rfl)) (both_r (?_))))
    refine wl_s (o_extract (Value.agg #[vI (0 : Int), vI (0 : Int), vI (0 : Int), Value.slice none 0 0, Value.slice none 0 0]) rfl rfl (wl_s (o_extract (vI (1 : Int)) rfl rfl (wl_n (o_store (vs := [vI (0 : Int), vI (0 : Int), vI (0 : Int), Value.slice none 0 0, Value.slice none 0 0]) (.agg #[vI (0 : Int), vI (0 : Int), vI (0 : Int), Value.slice none 0 0, Value.slice none 0 0]) rfl rfl rfl s_25 (fun u hu => by simp only [List.mem_cons, List.not_mem_nil, or_false] at hu; rcases hu with rfl | rfl | rfl | rfl | rfl <;> first | rfl) (by repeat (first | assumption | constructor)) bx2007 (of_decide_eq_true rfl) s2077 fun w2081 s2082 m2083 k2084 bx2085 => (?_))))))
    refine wl_s (o_assign (vI (1 : Int)) rfl (wl_nil (thenQ_n (?_))))
    refine cw_ret (end_r rfl (resv2 rfl (rv_A (vs := [vI (0 : Int), vI (0 : Int), vI (0 : Int), Value.slice none 0 0, Value.slice none 0 0]) rfl Try.underlying25 rfl s_25 rfl bx2085 rfl) (rv_t rfl rfl)) (?_))
    have e2086 : ((gAct c no (fFinish c day)).1) = (⟨(0 : Int), (0 : Int), (0 : Int), [], []⟩ : Circle) := by exact congrArg (fun p => p.1) (show gAct c no (fFinish c day) = _ from fin_no hok (by omega))
    have e2087 : ((gAct c no (fFinish c day)).2) = (1 : Int) := by exact congrArg (fun p => p.2) (show gAct c no (fFinish c day) = _ from fin_no hok (by omega))
    exact ⟨_, rfl, s2082.keep, by rw [e2086, e2087]; exact ⟨[vI (0 : Int), vI (0 : Int), vI (0 : Int), Value.slice none 0 0, Value.slice none 0 0], rfl, Enc.out (B := (b2026 :: (b2018 :: (b2002 :: [])))) ⟨.slice none 0 0, .slice none 0 0, rfl, (RdL.nil _ _ _), (RdL.nil _ _ _)⟩⟩⟩
   ·have hp2088 : no < (c.recs.length : Int) := by first | simpa using hc2069 | (have e := hc2069; simp at e; omega)
    refine cw_skip (thenQ_n (?_))
    refine cw_seq (?_)
    refine cw_defer [Value.pointer (some ⟨b2018, 0, none⟩), Value.pointer (some ⟨b2026, 0, none⟩)] rfl rfl rfl rfl (thenQ_n (?_))
    refine cw_seq (?_)
    refine cw_region (by kernel_rfl) (wl_s (o_fieldR 4 f_25_4 (c.recs) rfl hp2017 (fun _ _ _ h => Enc_circle_f4 h) fun a2089 hp2090 => (wl_s (o_loadL Try.underlying23 rfl rfl hp2090 fun v2091 hl2092 => (?_)))))
    have := hl2092.len_le
    refine wl_s (o_move (vI no) rfl (wl_s (o_idx Try.underlying23 s_47 .i64 no no.toNat rfl rfl (by omega) hl2092 (by first | omega | (simp; omega)) fun a2093 hp2094 => (wl_s (o_loadS Try.underlying47 rfl s_47 rfl hp2094 fun cs2095 hs2096 => (?_))))))
    obtain ⟨d2097, d2099, rfl, hd2098, hd2100⟩ := hs2096
    have := hd2098.len_le
    have := hd2100.len_le
    refine wl_s (o_build (l := [(0, .tmp 31)]) pl_74 z_74 rfl [(0, Value.agg #[vI ((c.recs[no.toNat]!).no), vI ((c.recs[no.toNat]!).asked), vI ((c.recs[no.toNat]!).state), d2097, d2099], [vI ((c.recs[no.toNat]!).no), vI ((c.recs[no.toNat]!).asked), vI ((c.recs[no.toNat]!).state), d2097, d2099])] [vI ((c.recs[no.toNat]!).no), vI ((c.recs[no.toNat]!).asked), vI ((c.recs[no.toNat]!).state), d2097, d2099] rfl ⟨_, rfl, rfl, (of_decide_eq_true rfl), rfl⟩ (wl_s (o_box (Value.agg #[vI ((c.recs[no.toNat]!).no), vI ((c.recs[no.toNat]!).asked), vI ((c.recs[no.toNat]!).state), d2097, d2099]) [vI ((c.recs[no.toNat]!).no), vI ((c.recs[no.toNat]!).asked), vI ((c.recs[no.toNat]!).state), d2097, d2099] rfl rfl s2039 fun b2101 w2102 e2107 s2103 m2104 k2105 bx2106 => (?_))))
    have ne2108 : b2002 ≠ b2101 := by have := bx2007.lt; omega
    have ne2109 : b2018 ≠ b2101 := by have := bx2023.lt; omega
    have ne2110 : b2026 ≠ b2101 := by have := bx2031.lt; omega
    clear e2107
    have hp2001 := hp2001.mv m2104
    have hp1995 := hp1995.mv m2104
    have hp2017 := hp2017.mv m2104
    have hd2098 := hd2098.mv m2104
    have hd2100 := hd2100.mv m2104
    have bx2007 := bx2007.keep k2105 (by simp)
    have bx2023 := bx2023.keep k2105 (by simp)
    have bx2031 := bx2031.keep k2105 (by simp)
    refine wl_s (o_assign (Value.pointer (some ⟨b2101, 0, none⟩)) rfl (wl_nil (thenQ_n (?_))))
    refine cw_seq (?_)
    refine cw_region (by kernel_rfl) (wl_s (o_move (Value.func (.func 53) #[] #[Value.pointer (some a1996), Value.pointer (some a1990)]) rfl (wl_s (o_move (Value.pointer (some ⟨b2101, 0, none⟩)) rfl (wl_s (o_callvX [] [Value.pointer (some a1996), Value.pointer (some a1990)] [Value.pointer (some ⟨b2101, 0, none⟩)] enter_53 rfl rfl (calls_of_cw 11 Try.func53 rfl rfl (of_decide_eq_true rfl) (fun F2111 => ?_))))))))
    refine cw_seq (?_)
    refine cw_region (by kernel_rfl) (wl_s (o_box (Value.pointer (some ⟨b2101, 0, none⟩)) [Value.pointer (some ⟨b2101, 0, none⟩)] rfl rfl s2103 fun b2112 w2113 e2118 s2114 m2115 k2116 bx2117 => (?_)))
    have ne2119 : b2002 ≠ b2112 := by have := bx2007.lt; omega
    have ne2120 : b2018 ≠ b2112 := by have := bx2023.lt; omega
    have ne2121 : b2026 ≠ b2112 := by have := bx2031.lt; omega
    have ne2122 : b2101 ≠ b2112 := by have := bx2106.lt; omega
    clear e2118
    have hp2001 := hp2001.mv m2115
    have hp1995 := hp1995.mv m2115
    have hp2017 := hp2017.mv m2115
    have hd2098 := hd2098.mv m2115
    have hd2100 := hd2100.mv m2115
    have bx2007 := bx2007.keep k2116 (by simp)
    have bx2023 := bx2023.keep k2116 (by simp)
    have bx2031 := bx2031.keep k2116 (by simp)
    have bx2106 := bx2106.keep k2116 (by simp)
    refine wl_nil (thenQ_n (?_))
    refine cw_region (by kernel_rfl) (wl_s (o_loadBx Try.underlying64 rfl (Value.pointer (some ⟨b2101, 0, none⟩)) rfl bx2117 rfl (wl_s (o_makeMapF s2114 fun b2123 w2124 e2129 s2125 m2126 k2127 bx2128 => (?_)))))
    have ne2130 : b2002 ≠ b2123 := by have := bx2007.lt; omega
    have ne2131 : b2018 ≠ b2123 := by have := bx2023.lt; omega
    have ne2132 : b2026 ≠ b2123 := by have := bx2031.lt; omega
    have ne2133 : b2101 ≠ b2123 := by have := bx2106.lt; omega
    have ne2134 : b2112 ≠ b2123 := by have := bx2117.lt; omega
    clear e2129
    have hp2001 := hp2001.mv m2126
    have hp1995 := hp1995.mv m2126
    have hp2017 := hp2017.mv m2126
    have hd2098 := hd2098.mv m2126
    have hd2100 := hd2100.mv m2126
    have bx2007 := bx2007.keep k2127 (by simp)
    have bx2023 := bx2023.keep k2127 (by simp)
    have bx2031 := bx2031.keep k2127 (by simp)
    have bx2106 := bx2106.keep k2127 (by simp)
    have bx2117 := bx2117.keep k2127 (by simp)
    refine wl_s (o_makeFunc (first := []) (captured := [.tmp 3]) [] [Value.pointer (some ⟨b2112, 0, none⟩)] rfl rfl (wl_n (o_insertF Try.underlying68 Try.underlying3 rfl rfl rfl bx2128 (by repeat (first | assumption | constructor)) s2125 rfl fun w2135 s2136 m2137 k2138 bx2139 => (?_))))
    have hp2001 := hp2001.mv m2137
    have hp1995 := hp1995.mv m2137
    have hp2017 := hp2017.mv m2137
    have hd2098 := hd2098.mv m2137
    have hd2100 := hd2100.mv m2137
    have bx2007 := bx2007.keep k2138 (nin1 ne2130)
    have bx2023 := bx2023.keep k2138 (nin1 ne2131)
    have bx2031 := bx2031.keep k2138 (nin1 ne2132)
    have bx2106 := bx2106.keep k2138 (nin1 ne2133)
    have bx2117 := bx2117.keep k2138 (nin1 ne2134)
    refine wl_s (o_makeFunc (first := []) (captured := [.tmp 3]) [] [Value.pointer (some ⟨b2112, 0, none⟩)] rfl rfl (wl_n (o_insertF Try.underlying68 Try.underlying3 rfl rfl rfl bx2139 (by repeat (first | assumption | constructor)) s2136 rfl fun w2140 s2141 m2142 k2143 bx2144 => (?_))))
    have hp2001 := hp2001.mv m2142
    have hp1995 := hp1995.mv m2142
    have hp2017 := hp2017.mv m2142
    have hd2098 := hd2098.mv m2142
    have hd2100 := hd2100.mv m2142
    have bx2007 := bx2007.keep k2143 (nin1 ne2130)
    have bx2023 := bx2023.keep k2143 (nin1 ne2131)
    have bx2031 := bx2031.keep k2143 (nin1 ne2132)
    have bx2106 := bx2106.keep k2143 (nin1 ne2133)
    have bx2117 := bx2117.keep k2143 (nin1 ne2134)
    refine wl_s (o_makeFunc (first := []) (captured := [.tmp 3, .tmp 1, .tmp 2]) [] [Value.pointer (some ⟨b2112, 0, none⟩), Value.pointer (some a1996), Value.pointer (some a1990)] rfl rfl (wl_n (o_insertF Try.underlying68 Try.underlying3 rfl rfl rfl bx2144 (by repeat (first | assumption | constructor)) s2141 rfl fun w2145 s2146 m2147 k2148 bx2149 => (?_))))
    have hp2001 := hp2001.mv m2147
    have hp1995 := hp1995.mv m2147
    have hp2017 := hp2017.mv m2147
    have hd2098 := hd2098.mv m2147
    have hd2100 := hd2100.mv m2147
    have bx2007 := bx2007.keep k2148 (nin1 ne2130)
    have bx2023 := bx2023.keep k2148 (nin1 ne2131)
    have bx2031 := bx2031.keep k2148 (nin1 ne2132)
    have bx2106 := bx2106.keep k2148 (nin1 ne2133)
    have bx2117 := bx2117.keep k2148 (nin1 ne2134)
    refine wl_s (o_move (Value.map (some b2123)) rfl (wl_s (o_callX [Value.pointer (some ⟨b2101, 0, none⟩), Value.map (some b2123)] enter_39 rfl (calls_of_cw 19 Try.func39 rfl rfl (of_decide_eq_true rfl) (fun F2150 => ?_)))))
    refine cw_seq (?_)
    refine cw_region (by kernel_rfl) (wl_s (o_move (Value.map (some b2123)) rfl (wl_s (o_move (Value.pointer (some ⟨b2101, 0, none⟩)) rfl (wl_s (o_nilCheck ⟨b2101, 0, none⟩ rfl (wl_s (o_fieldL 0 f_74_0 rfl (wl_s (o_fieldL 2 f_47_2 rfl (wl_s (o_loadBx Try.underlying3 rfl (vI ((c.recs[no.toNat]!).state)) rfl bx2106 rfl (?_)))))))))))))
    rcases (state_cases hok (by omega) (by omega) : (c.recs[no.toNat]!).state = 0 ∨ (c.recs[no.toNat]!).state = 1 ∨ (c.recs[no.toNat]!).state = 2) with hs2151 | hs2151 | hs2151
    ·refine wl_s (o_lookupF (k := 0) (Value.func (.func 56) #[] #[Value.pointer (some ⟨b2112, 0, none⟩), Value.pointer (some a1996), Value.pointer (some a1990)]) Try.underlying68 Try.underlying3 rfl (congrArg vI hs2151) bx2149 rfl (wl_s (o_move (Value.tuple #[Value.func (.func 56) #[] #[Value.pointer (some ⟨b2112, 0, none⟩), Value.pointer (some a1996), Value.pointer (some a1990)], Value.bool true]) rfl (wl_s (o_extract (Value.func (.func 56) #[] #[Value.pointer (some ⟨b2112, 0, none⟩), Value.pointer (some a1996), Value.pointer (some a1990)]) rfl rfl (wl_s (o_extract (Value.bool true) rfl rfl (wl_s (o_assign (Value.func (.func 56) #[] #[Value.pointer (some ⟨b2112, 0, none⟩), Value.pointer (some a1996), Value.pointer (some a1990)]) rfl (wl_s (o_assign (Value.bool true) rfl (wl_nil (thenQ_n (?_))))))))))))))
     refine cw_seq (?_)
     refine cw_region (by kernel_rfl) (wl_s (o_move (Value.bool true) rfl (wl_nil (thenQ_n (?_)))))
     refine cw_cond true rfl rfl (fun _ => ?_) (fun h => by cases h)
     refine cw_region (by kernel_rfl) (wl_s (o_move (Value.func (.func 56) #[] #[Value.pointer (some ⟨b2112, 0, none⟩), Value.pointer (some a1996), Value.pointer (some a1990)]) rfl (wl_s (o_callvX [] [Value.pointer (some ⟨b2112, 0, none⟩), Value.pointer (some a1996), Value.pointer (some a1990)] [] enter_56 rfl rfl (calls_of_cw 28 Try.func56 rfl rfl (of_decide_eq_true rfl) (fun F2152 => ?_))))))
     refine cw_seq (?_)
     refine cw_draw' 3 _ _ [isV (Value.pointer (some ⟨b2101, 0, none⟩)), isV (vI day), isV (Value.bool (isDayM day (0 : Int)))] (by kernel_rfl) (by kernel_rfl) (by kernel_rfl) (by kernel_rfl) rfl rfl ⟨kI, kI, kI, trivial⟩ ⟨?_, ?_, ?_, trivial⟩ ?_
     ·intro F1 w1 k1 hf hd
      have k0 := (Keep.drew [] w2145).trans k1
      have bx2117 := bx2117.keep k0 (by simp)
      obtain ⟨F2, rfl⟩ := lit_of (F := F1) [(0, Value.pointer (some ⟨b2112, 0, none⟩))] ⟨hf 0 (by kernel_rfl), trivial⟩
      exact sp_plain rfl ((o_loadBx Try.underlying64 rfl (Value.pointer (some ⟨b2101, 0, none⟩)) rfl bx2117 rfl (⟨(Keep.refl _ _), rfl⟩)))
     ·intro F1 w1 k1 hf hd
      have k0 := (Keep.drew [] w2145).trans k1
      have m1 : Mv (b2123 :: (b2112 :: (b2101 :: (b2026 :: (b2018 :: (b2002 :: [])))))) w2145 (b2123 :: (b2112 :: (b2101 :: (b2026 :: (b2018 :: (b2002 :: [])))))) w1 := Mv.of_keep k0
      have hp2001 := hp2001.mv m1
      obtain ⟨F2, rfl⟩ := lit_of (F := F1) [(1, Value.pointer (some a1996))] ⟨hf 1 (by kernel_rfl), trivial⟩
      exact sp_plain rfl ((o_loadI Try.underlying3 rfl rfl hp2001 (⟨(Keep.refl _ _), rfl⟩)))
     ·intro F1 w1 k1 hf hd
      have k0 := (Keep.drew [] w2145).trans k1
      have s1 := s2146.call k0
      obtain ⟨F2, rfl⟩ := lit_of (F := F1) [(4, vI day)] ⟨hd 1 4 (by kernel_rfl), trivial⟩
      refine sp_plain rfl ((o_callK (vs := [vI day, vI (0 : Int)]) enter_30 (c_isDay (O := (b2123 :: (b2112 :: (b2101 :: (b2026 :: (b2018 :: (b2002 :: [])))))) ++ O) day (0 : Int) w1 s1.lt) rfl s1 fun v2153 w2154 s2155 m2156 k2157 r2158 => (?_)))
      obtain rfl := r2158
      exact ⟨k2157, rfl⟩
     intro F2160 w2161 k2159 hT2162 hF2163
     have s2164 := s2146.call k2159
     have m2165 : Mv (b2123 :: (b2112 :: (b2101 :: (b2026 :: (b2018 :: (b2002 :: [])))))) w2145 (b2123 :: (b2112 :: (b2101 :: (b2026 :: (b2018 :: (b2002 :: [])))))) w2161 := Mv.of_keep k2159
     have hp2001 := hp2001.mv m2165
     have hp1995 := hp1995.mv m2165
     have hp2017 := hp2017.mv m2165
     have hd2098 := hd2098.mv m2165
     have hd2100 := hd2100.mv m2165
     have bx2007 := bx2007.keep k2159 (by simp)
     have bx2023 := bx2023.keep k2159 (by simp)
     have bx2031 := bx2031.keep k2159 (by simp)
     have bx2106 := bx2106.keep k2159 (by simp)
     have bx2117 := bx2117.keep k2159 (by simp)
     have bx2149 := bx2149.keep k2159 (by simp)
     obtain ⟨F2, rfl⟩ := lit_of (F := F2160) [(0, Value.pointer (some ⟨b2112, 0, none⟩)), (1, Value.pointer (some a1996)), (2, Value.pointer (some a1990)), (28, undef), (3, Value.pointer (some ⟨b2101, 0, none⟩)), (5, Value.bool (isDayM day (0 : Int)))] ⟨hF2163 0 (by kernel_rfl), hF2163 1 (by kernel_rfl), hF2163 2 (by kernel_rfl), hF2163 28 (by kernel_rfl), hT2162 0 3 (by kernel_rfl) (by decide), hT2162 2 5 (by kernel_rfl) (by decide), trivial⟩
     clear hT2162 hF2163
     refine wl_s (o_callX [Value.pointer (some ⟨b2101, 0, none⟩), Value.bool (isDayM day (0 : Int)), vI (1 : Int)] enter_41 rfl (calls_of_cw 11 Try.func41 rfl rfl (of_decide_eq_true rfl) (fun F2167 => ?_)))
     refine cw_seq (?_)
     refine cw_region (by kernel_rfl) (wl_s (o_move (Value.bool (isDayM day (0 : Int))) rfl (wl_s (o_not (isDayM day (0 : Int)) rfl (wl_nil (thenQ_n (?_)))))))
     refine cw_cond (!(isDayM day (0 : Int))) rfl rfl (fun hc2168 => ?_) (fun hc2168 => ?_)
     ·have hp2169 : (isDayM day (0 : Int)) = false := by first | simpa using hc2168 | (have e := hc2168; simp at e; omega)
      refine cw_region (by kernel_rfl) (wl_s (o_move (vI (1 : Int)) rfl (wl_s (o_build (l := [(0, .tmp 8)]) pl_78 z_78 rfl [(0, vI (1 : Int), [vI (1 : Int)])] [vI (1 : Int)] rfl ⟨_, rfl, rfl, (of_decide_eq_true rfl), rfl⟩ (wl_s (o_iface (Value.agg #[vI (1 : Int)]) Try.underlying78 rfl rfl (wl_n (o_panic rfl (end_p rfl (both_p (?_)))))))))))
      refine thenQ_p (end_p rfl (both_p (?_)))
      refine end_p rfl (both_p (?_))
      refine end_p rfl (both_p (?_))
      refine thenQ_p (endD_pl (leave_con [Value.pointer (some ⟨b2018, 0, none⟩), Value.pointer (some ⟨b2026, 0, none⟩)] (.panicking [{ v := Value.iface 78 (Value.agg #[vI (1 : Int)]), recovered := false }]) rfl (fun h => by cases h) rfl enter_59 (c_on1p (1 : Int) b2018 b2026 s2164 bx2023 bx2031 (by repeat (first | assumption | constructor)) (by repeat (first | assumption | constructor)) ne2034) (fun e_ w2170 hR_ => ?_)))
      obtain ⟨v_, rfl, s2171, m2172, k2173, bx2174, bx2175⟩ := hR_
      have bx2007 := bx2007.keep k2173 (nin2 ne2025 ne2033)
      refine Exists.intro _ (And.intro (resv2 rfl (rv_A (vs := [vI (0 : Int), vI (0 : Int), vI (0 : Int), Value.slice none 0 0, Value.slice none 0 0]) rfl Try.underlying25 rfl s_25 rfl bx2174 rfl) (rv_c rfl Try.underlying28 rfl rfl bx2175 rfl)) (both_r (?_)))
      refine wl_s (o_extract (Value.agg #[vI (0 : Int), vI (0 : Int), vI (0 : Int), Value.slice none 0 0, Value.slice none 0 0]) rfl rfl (wl_s (o_extract (vI (1 : Int)) rfl rfl (wl_n (o_store (vs := [vI (0 : Int), vI (0 : Int), vI (0 : Int), Value.slice none 0 0, Value.slice none 0 0]) (.agg #[vI (0 : Int), vI (0 : Int), vI (0 : Int), Value.slice none 0 0, Value.slice none 0 0]) rfl rfl rfl s_25 (fun u hu => by simp only [List.mem_cons, List.not_mem_nil, or_false] at hu; rcases hu with rfl | rfl | rfl | rfl | rfl <;> first | rfl) (by repeat (first | assumption | constructor)) bx2007 (of_decide_eq_true rfl) s2171 fun w2176 s2177 m2178 k2179 bx2180 => (?_))))))
      refine wl_s (o_assign (vI (1 : Int)) rfl (wl_nil (thenQ_n (?_))))
      refine cw_ret (end_r rfl (resv2 rfl (rv_A (vs := [vI (0 : Int), vI (0 : Int), vI (0 : Int), Value.slice none 0 0, Value.slice none 0 0]) rfl Try.underlying25 rfl s_25 rfl bx2180 rfl) (rv_t rfl rfl)) (?_))
      have e2181 : ((gAct c no (fFinish c day)).1) = (⟨(0 : Int), (0 : Int), (0 : Int), [], []⟩ : Circle) := by first | exact congrArg (fun p => p.1) (show gAct c no (fFinish c day) = _ from fin_no hok (by omega)) | exact congrArg (fun p => p.1) (show gAct c no (fFinish c day) = _ from fin_day hok (by omega) (by omega) (by assumption) (by assumption)) | exact congrArg (fun p => p.1) (show gAct c no (fFinish c day) = _ from fin_few hok (by omega) (by omega) (by assumption) (by assumption) (by assumption)) | exact congrArg (fun p => p.1) (show gAct c no (fFinish c day) = _ from fin_wait hok (by omega) (by omega) (by assumption) (by assumption) (by assumption) (by omega)) | exact congrArg (fun p => p.1) (show gAct c no (fFinish c day) = _ from fin_open hok (by omega) (by omega) (by assumption) (by assumption) (by assumption) (by omega))
      have e2182 : ((gAct c no (fFinish c day)).2) = (1 : Int) := by first | exact congrArg (fun p => p.2) (show gAct c no (fFinish c day) = _ from fin_no hok (by omega)) | exact congrArg (fun p => p.2) (show gAct c no (fFinish c day) = _ from fin_day hok (by omega) (by omega) (by assumption) (by assumption)) | exact congrArg (fun p => p.2) (show gAct c no (fFinish c day) = _ from fin_few hok (by omega) (by omega) (by assumption) (by assumption) (by assumption)) | exact congrArg (fun p => p.2) (show gAct c no (fFinish c day) = _ from fin_wait hok (by omega) (by omega) (by assumption) (by assumption) (by assumption) (by omega)) | exact congrArg (fun p => p.2) (show gAct c no (fFinish c day) = _ from fin_open hok (by omega) (by omega) (by assumption) (by assumption) (by assumption) (by omega))
      exact ⟨_, rfl, s2177.keep, by rw [e2181, e2182]; exact ⟨[vI (0 : Int), vI (0 : Int), vI (0 : Int), Value.slice none 0 0, Value.slice none 0 0], rfl, Enc.out (B := (b2123 :: (b2112 :: (b2101 :: (b2026 :: (b2018 :: (b2002 :: []))))))) ⟨.slice none 0 0, .slice none 0 0, rfl, (RdL.nil _ _ _), (RdL.nil _ _ _)⟩⟩⟩
     ·have hp2183 : (isDayM day (0 : Int)) = true := by first | simpa using hc2168 | (have e := hc2168; simp at e; omega)
      refine cw_skip (end_n rfl (res0 rfl) (both_r (?_)))
      refine wl_nil (thenQ_n (?_))
      refine cw_seq (?_)
      refine cw_draw' 4 _ _ [isV (Value.pointer (some ⟨b2101, 0, none⟩)), fun (vT : Value) (wT : World) => ∃ csT : List Value, vT = .agg csT.toArray ∧ Enc.circle.rd wT ((b2123 :: (b2112 :: (b2101 :: (b2026 :: (b2018 :: (b2002 :: [])))))) ++ O) csT (c), isV (Value.pointer (some ⟨b2101, 0, none⟩)), isV (Value.bool (apprM c (c.recs[no.toNat]!)))] (by kernel_rfl) (by kernel_rfl) (by kernel_rfl) (by kernel_rfl) rfl rfl ⟨kI, fun _ _ _ ⟨a, e, h⟩ k => ⟨a, e, Enc.mv _ h (Mv.of_keep k)⟩, kI, kI, trivial⟩ ⟨?_, ?_, ?_, ?_, trivial⟩ ?_
      ·intro F1 w1 k1 hf hd
       have k0 := (Keep.drew [] w2161).trans k1
       have bx2117 := bx2117.keep k0 (by simp)
       obtain ⟨F2, rfl⟩ := lit_of (F := F1) [(0, Value.pointer (some ⟨b2112, 0, none⟩))] ⟨hf 0 (by kernel_rfl), trivial⟩
       exact sp_plain rfl ((o_loadBx Try.underlying64 rfl (Value.pointer (some ⟨b2101, 0, none⟩)) rfl bx2117 rfl (⟨(Keep.refl _ _), rfl⟩)))
      ·intro F1 w1 k1 hf hd
       have k0 := (Keep.drew [] w2161).trans k1
       have m1 : Mv (b2123 :: (b2112 :: (b2101 :: (b2026 :: (b2018 :: (b2002 :: [])))))) w2161 (b2123 :: (b2112 :: (b2101 :: (b2026 :: (b2018 :: (b2002 :: [])))))) w1 := Mv.of_keep k0
       have hp1995 := hp1995.mv m1
       obtain ⟨F2, rfl⟩ := lit_of (F := F1) [(2, Value.pointer (some a1990))] ⟨hf 2 (by kernel_rfl), trivial⟩
       exact sp_plain rfl ((o_loadS Try.underlying25 rfl s_25 rfl hp1995 fun cs2184 hs2185 => (⟨(Keep.refl _ _), ⟨cs2184, rfl, hs2185⟩⟩)))
      ·intro F1 w1 k1 hf hd
       have k0 := (Keep.drew [] w2161).trans k1
       have bx2117 := bx2117.keep k0 (by simp)
       obtain ⟨F2, rfl⟩ := lit_of (F := F1) [(0, Value.pointer (some ⟨b2112, 0, none⟩))] ⟨hf 0 (by kernel_rfl), trivial⟩
       exact sp_plain rfl ((o_loadBx Try.underlying64 rfl (Value.pointer (some ⟨b2101, 0, none⟩)) rfl bx2117 rfl (⟨(Keep.refl _ _), rfl⟩)))
      ·intro F1 w1 k1 hf hd
       have k0 := (Keep.drew [] w2161).trans k1
       have s1 := s2164.call k0
       have m1 : Mv (b2123 :: (b2112 :: (b2101 :: (b2026 :: (b2018 :: (b2002 :: [])))))) w2161 (b2123 :: (b2112 :: (b2101 :: (b2026 :: (b2018 :: (b2002 :: [])))))) w1 := Mv.of_keep k0
       obtain ⟨cs2186, e2188, hs2187⟩ : ∃ cs : List Value, F1 8 = .agg cs.toArray ∧ Enc.circle.rd w1 ((b2123 :: (b2112 :: (b2101 :: (b2026 :: (b2018 :: (b2002 :: [])))))) ++ O) cs (c) := hd 1 8 (by kernel_rfl)
       have bx2106 := bx2106.keep k0 (by simp)
       have hd2098 := hd2098.mv m1
       have hd2100 := hd2100.mv m1
       obtain ⟨F2, rfl⟩ := lit_of (F := F1) [(8, Value.agg cs2186.toArray), (9, Value.pointer (some ⟨b2101, 0, none⟩))] ⟨e2188, hd 2 9 (by kernel_rfl), trivial⟩
       refine sp_plain rfl ((o_callK (vs := [Value.agg cs2186.toArray, Value.pointer (some ⟨b2101, 0, none⟩)]) enter_57 (c_approved (O := []) cs2186 c ⟨b2101, 0, none⟩ (c.recs[no.toNat]!) w1 (Enc.circle.sub hs2187 (fun _ h => by cases h)) (PT.of_box bx2106 ⟨_, _, rfl, hd2098.rd0, hd2100.rd0⟩ (fun h => by cases h)) no_blocks) rfl s1 fun v2189 w2190 s2191 m2192 k2193 r2194 => (?_)))
       obtain rfl := r2194
       exact ⟨k2193, rfl⟩
      intro F2196 w2197 k2195 hT2198 hF2199
      have s2200 := s2164.call k2195
      have m2201 : Mv (b2123 :: (b2112 :: (b2101 :: (b2026 :: (b2018 :: (b2002 :: [])))))) w2161 (b2123 :: (b2112 :: (b2101 :: (b2026 :: (b2018 :: (b2002 :: [])))))) w2197 := Mv.of_keep k2195
      have hp2001 := hp2001.mv m2201
      have hp1995 := hp1995.mv m2201
      have hp2017 := hp2017.mv m2201
      have hd2098 := hd2098.mv m2201
      have hd2100 := hd2100.mv m2201
      have bx2007 := bx2007.keep k2195 (by simp)
      have bx2023 := bx2023.keep k2195 (by simp)
      have bx2031 := bx2031.keep k2195 (by simp)
      have bx2106 := bx2106.keep k2195 (by simp)
      have bx2117 := bx2117.keep k2195 (by simp)
      have bx2149 := bx2149.keep k2195 (by simp)
      obtain ⟨F2, rfl⟩ := lit_of (F := F2196) [(0, Value.pointer (some ⟨b2112, 0, none⟩)), (1, Value.pointer (some a1996)), (2, Value.pointer (some a1990)), (28, undef), (7, Value.pointer (some ⟨b2101, 0, none⟩)), (10, Value.bool (apprM c (c.recs[no.toNat]!)))] ⟨hF2199 0 (by kernel_rfl), hF2199 1 (by kernel_rfl), hF2199 2 (by kernel_rfl), hF2199 28 (by kernel_rfl), hT2198 0 7 (by kernel_rfl) (by decide), hT2198 3 10 (by kernel_rfl) (by decide), trivial⟩
      clear hT2198 hF2199
      refine wl_s (o_callX [Value.pointer (some ⟨b2101, 0, none⟩), Value.bool (apprM c (c.recs[no.toNat]!)), vI (450 : Int)] enter_41 rfl (calls_of_cw 11 Try.func41 rfl rfl (of_decide_eq_true rfl) (fun F2203 => ?_)))
      refine cw_seq (?_)
      refine cw_region (by kernel_rfl) (wl_s (o_move (Value.bool (apprM c (c.recs[no.toNat]!))) rfl (wl_s (o_not (apprM c (c.recs[no.toNat]!)) rfl (wl_nil (thenQ_n (?_)))))))
      refine cw_cond (!(apprM c (c.recs[no.toNat]!))) rfl rfl (fun hc2204 => ?_) (fun hc2204 => ?_)
      ·have hp2205 : (apprM c (c.recs[no.toNat]!)) = false := by first | simpa using hc2204 | (have e := hc2204; simp at e; omega)
       refine cw_region (by kernel_rfl) (wl_s (o_move (vI (450 : Int)) rfl (wl_s (o_build (l := [(0, .tmp 8)]) pl_78 z_78 rfl [(0, vI (450 : Int), [vI (450 : Int)])] [vI (450 : Int)] rfl ⟨_, rfl, rfl, (of_decide_eq_true rfl), rfl⟩ (wl_s (o_iface (Value.agg #[vI (450 : Int)]) Try.underlying78 rfl rfl (wl_n (o_panic rfl (end_p rfl (both_p (?_)))))))))))
       refine thenQ_p (end_p rfl (both_p (?_)))
       refine end_p rfl (both_p (?_))
       refine end_p rfl (both_p (?_))
       refine thenQ_p (endD_pl (leave_con [Value.pointer (some ⟨b2018, 0, none⟩), Value.pointer (some ⟨b2026, 0, none⟩)] (.panicking [{ v := Value.iface 78 (Value.agg #[vI (450 : Int)]), recovered := false }]) rfl (fun h => by cases h) rfl enter_59 (c_on1p (450 : Int) b2018 b2026 s2200 bx2023 bx2031 (by repeat (first | assumption | constructor)) (by repeat (first | assumption | constructor)) ne2034) (fun e_ w2206 hR_ => ?_)))
       obtain ⟨v_, rfl, s2207, m2208, k2209, bx2210, bx2211⟩ := hR_
       have bx2007 := bx2007.keep k2209 (nin2 ne2025 ne2033)
       refine Exists.intro _ (And.intro (resv2 rfl (rv_A (vs := [vI (0 : Int), vI (0 : Int), vI (0 : Int), Value.slice none 0 0, Value.slice none 0 0]) rfl Try.underlying25 rfl s_25 rfl bx2210 rfl) (rv_c rfl Try.underlying28 rfl rfl bx2211 rfl)) (both_r (?_)))
       refine wl_s (o_extract (Value.agg #[vI (0 : Int), vI (0 : Int), vI (0 : Int), Value.slice none 0 0, Value.slice none 0 0]) rfl rfl (wl_s (o_extract (vI (450 : Int)) rfl rfl (wl_n (o_store (vs := [vI (0 : Int), vI (0 : Int), vI (0 : Int), Value.slice none 0 0, Value.slice none 0 0]) (.agg #[vI (0 : Int), vI (0 : Int), vI (0 : Int), Value.slice none 0 0, Value.slice none 0 0]) rfl rfl rfl s_25 (fun u hu => by simp only [List.mem_cons, List.not_mem_nil, or_false] at hu; rcases hu with rfl | rfl | rfl | rfl | rfl <;> first | rfl) (by repeat (first | assumption | constructor)) bx2007 (of_decide_eq_true rfl) s2207 fun w2212 s2213 m2214 k2215 bx2216 => (?_))))))
       refine wl_s (o_assign (vI (450 : Int)) rfl (wl_nil (thenQ_n (?_))))
       refine cw_ret (end_r rfl (resv2 rfl (rv_A (vs := [vI (0 : Int), vI (0 : Int), vI (0 : Int), Value.slice none 0 0, Value.slice none 0 0]) rfl Try.underlying25 rfl s_25 rfl bx2216 rfl) (rv_t rfl rfl)) (?_))
       have e2217 : ((gAct c no (fFinish c day)).1) = (⟨(0 : Int), (0 : Int), (0 : Int), [], []⟩ : Circle) := by first | exact congrArg (fun p => p.1) (show gAct c no (fFinish c day) = _ from fin_no hok (by omega)) | exact congrArg (fun p => p.1) (show gAct c no (fFinish c day) = _ from fin_day hok (by omega) (by omega) (by assumption) (by assumption)) | exact congrArg (fun p => p.1) (show gAct c no (fFinish c day) = _ from fin_few hok (by omega) (by omega) (by assumption) (by assumption) (by assumption)) | exact congrArg (fun p => p.1) (show gAct c no (fFinish c day) = _ from fin_wait hok (by omega) (by omega) (by assumption) (by assumption) (by assumption) (by omega)) | exact congrArg (fun p => p.1) (show gAct c no (fFinish c day) = _ from fin_open hok (by omega) (by omega) (by assumption) (by assumption) (by assumption) (by omega))
       have e2218 : ((gAct c no (fFinish c day)).2) = (450 : Int) := by first | exact congrArg (fun p => p.2) (show gAct c no (fFinish c day) = _ from fin_no hok (by omega)) | exact congrArg (fun p => p.2) (show gAct c no (fFinish c day) = _ from fin_day hok (by omega) (by omega) (by assumption) (by assumption)) | exact congrArg (fun p => p.2) (show gAct c no (fFinish c day) = _ from fin_few hok (by omega) (by omega) (by assumption) (by assumption) (by assumption)) | exact congrArg (fun p => p.2) (show gAct c no (fFinish c day) = _ from fin_wait hok (by omega) (by omega) (by assumption) (by assumption) (by assumption) (by omega)) | exact congrArg (fun p => p.2) (show gAct c no (fFinish c day) = _ from fin_open hok (by omega) (by omega) (by assumption) (by assumption) (by assumption) (by omega))
       exact ⟨_, rfl, s2213.keep, by rw [e2217, e2218]; exact ⟨[vI (0 : Int), vI (0 : Int), vI (0 : Int), Value.slice none 0 0, Value.slice none 0 0], rfl, Enc.out (B := (b2123 :: (b2112 :: (b2101 :: (b2026 :: (b2018 :: (b2002 :: []))))))) ⟨.slice none 0 0, .slice none 0 0, rfl, (RdL.nil _ _ _), (RdL.nil _ _ _)⟩⟩⟩
      ·have hp2219 : (apprM c (c.recs[no.toNat]!)) = true := by first | simpa using hc2204 | (have e := hc2204; simp at e; omega)
       refine cw_skip (end_n rfl (res0 rfl) (both_r (?_)))
       refine wl_nil (thenQ_n (?_))
       refine cw_seq (?_)
       refine cw_draw' 11 _ _ [isV (Value.pointer (some ⟨b2101, 0, none⟩)), isV (vI day), isV (Value.pointer (some ⟨b2101, 0, none⟩)), isV (Value.pointer (some ⟨b2101, 0, none⟩)), isV (Value.pointer (some ⟨b2101, 0, none⟩)), isV (Value.pointer (some ⟨b2101, 1, none⟩)), isV (vI ((c.recs[no.toNat]!).asked)), fun (vT : Value) (wT : World) => ∃ aT, vT = .pointer (some aT) ∧ PT Enc.int wT ((b2123 :: (b2112 :: (b2101 :: (b2026 :: (b2018 :: (b2002 :: [])))))) ++ O) (.pointer (some aT)) (c.wait), isV (vI c.wait), isV (vI ((c.recs[no.toNat]!).asked + c.wait)), isV (Value.bool (decide ((c.recs[no.toNat]!).asked + c.wait ≤ day)))] (by kernel_rfl) (by kernel_rfl) (by kernel_rfl) (by kernel_rfl) rfl rfl ⟨kI, kI, kI, kI, kI, kI, kI, fun _ _ _ ⟨a, e, h⟩ k => ⟨a, e, h.mv (Mv.of_keep k)⟩, kI, kI, kI, trivial⟩ ⟨?_, ?_, ?_, ?_, ?_, ?_, ?_, ?_, ?_, ?_, ?_, trivial⟩ ?_
       ·intro F1 w1 k1 hf hd
        have k0 := (Keep.drew [] w2197).trans k1
        have bx2117 := bx2117.keep k0 (by simp)
        obtain ⟨F2, rfl⟩ := lit_of (F := F1) [(0, Value.pointer (some ⟨b2112, 0, none⟩))] ⟨hf 0 (by kernel_rfl), trivial⟩
        exact sp_plain rfl ((o_loadBx Try.underlying64 rfl (Value.pointer (some ⟨b2101, 0, none⟩)) rfl bx2117 rfl (⟨(Keep.refl _ _), rfl⟩)))
       ·intro F1 w1 k1 hf hd
        have k0 := (Keep.drew [] w2197).trans k1
        have m1 : Mv (b2123 :: (b2112 :: (b2101 :: (b2026 :: (b2018 :: (b2002 :: [])))))) w2197 (b2123 :: (b2112 :: (b2101 :: (b2026 :: (b2018 :: (b2002 :: [])))))) w1 := Mv.of_keep k0
        have hp2001 := hp2001.mv m1
        obtain ⟨F2, rfl⟩ := lit_of (F := F1) [(1, Value.pointer (some a1996))] ⟨hf 1 (by kernel_rfl), trivial⟩
        exact sp_plain rfl ((o_loadI Try.underlying3 rfl rfl hp2001 (⟨(Keep.refl _ _), rfl⟩)))
       ·intro F1 w1 k1 hf hd
        have k0 := (Keep.drew [] w2197).trans k1
        have bx2117 := bx2117.keep k0 (by simp)
        obtain ⟨F2, rfl⟩ := lit_of (F := F1) [(0, Value.pointer (some ⟨b2112, 0, none⟩))] ⟨hf 0 (by kernel_rfl), trivial⟩
        exact sp_plain rfl ((o_loadBx Try.underlying64 rfl (Value.pointer (some ⟨b2101, 0, none⟩)) rfl bx2117 rfl (⟨(Keep.refl _ _), rfl⟩)))
       ·intro F1 w1 k1 hf hd
        obtain ⟨F2, rfl⟩ := lit_of (F := F1) [(14, Value.pointer (some ⟨b2101, 0, none⟩))] ⟨hd 2 14 (by kernel_rfl), trivial⟩
        exact sp_plain rfl ((o_nilCheck ⟨b2101, 0, none⟩ rfl (⟨(Keep.refl _ _), rfl⟩)))
       ·intro F1 w1 k1 hf hd
        obtain ⟨F2, rfl⟩ := lit_of (F := F1) [(15, Value.pointer (some ⟨b2101, 0, none⟩))] ⟨hd 3 15 (by kernel_rfl), trivial⟩
        exact sp_plain rfl ((o_fieldL 0 f_74_0 rfl (⟨(Keep.refl _ _), rfl⟩)))
       ·intro F1 w1 k1 hf hd
        obtain ⟨F2, rfl⟩ := lit_of (F := F1) [(16, Value.pointer (some ⟨b2101, 0, none⟩))] ⟨hd 4 16 (by kernel_rfl), trivial⟩
        exact sp_plain rfl ((o_fieldL 1 f_47_1 rfl (⟨(Keep.refl _ _), rfl⟩)))
       ·intro F1 w1 k1 hf hd
        have k0 := (Keep.drew [] w2197).trans k1
        have bx2106 := bx2106.keep k0 (by simp)
        obtain ⟨F2, rfl⟩ := lit_of (F := F1) [(17, Value.pointer (some ⟨b2101, 1, none⟩))] ⟨hd 5 17 (by kernel_rfl), trivial⟩
        exact sp_plain rfl ((o_loadBx Try.underlying3 rfl (vI ((c.recs[no.toNat]!).asked)) rfl bx2106 rfl (⟨(Keep.refl _ _), rfl⟩)))
       ·intro F1 w1 k1 hf hd
        have k0 := (Keep.drew [] w2197).trans k1
        have m1 : Mv (b2123 :: (b2112 :: (b2101 :: (b2026 :: (b2018 :: (b2002 :: [])))))) w2197 (b2123 :: (b2112 :: (b2101 :: (b2026 :: (b2018 :: (b2002 :: [])))))) w1 := Mv.of_keep k0
        have hp1995 := hp1995.mv m1
        obtain ⟨F2, rfl⟩ := lit_of (F := F1) [(2, Value.pointer (some a1990))] ⟨hf 2 (by kernel_rfl), trivial⟩
        exact sp_plain rfl ((o_fieldR 2 f_25_2 (c.wait) rfl hp1995 (fun _ _ _ h => Enc_circle_f2 h) fun a2220 hp2221 => (⟨(Keep.refl _ _), ⟨a2220, rfl, hp2221⟩⟩)))
       ·intro F1 w1 k1 hf hd
        obtain ⟨a2222, e2224, hp2223⟩ : ∃ a, F1 19 = .pointer (some a) ∧ PT Enc.int w1 ((b2123 :: (b2112 :: (b2101 :: (b2026 :: (b2018 :: (b2002 :: [])))))) ++ O) (.pointer (some a)) (c.wait) := hd 7 19 (by kernel_rfl)
        obtain ⟨F2, rfl⟩ := lit_of (F := F1) [(19, Value.pointer (some a2222))] ⟨e2224, trivial⟩
        exact sp_plain rfl ((o_loadI Try.underlying3 rfl rfl hp2223 (⟨(Keep.refl _ _), rfl⟩)))
       ·intro F1 w1 k1 hf hd
        obtain ⟨F2, rfl⟩ := lit_of (F := F1) [(18, vI ((c.recs[no.toNat]!).asked)), (20, vI c.wait)] ⟨hd 6 18 (by kernel_rfl), hd 8 20 (by kernel_rfl), trivial⟩
        exact sp_plain rfl ((o_add .i64 ((c.recs[no.toNat]!).asked) c.wait ((c.recs[no.toNat]!).asked + c.wait) rfl rfl (w64 (by have := act_bounds hok (no := no) (by omega) (by omega); omega) rfl) (⟨(Keep.refl _ _), rfl⟩)))
       ·intro F1 w1 k1 hf hd
        obtain ⟨F2, rfl⟩ := lit_of (F := F1) [(13, vI day), (21, vI ((c.recs[no.toNat]!).asked + c.wait))] ⟨hd 1 13 (by kernel_rfl), hd 9 21 (by kernel_rfl), trivial⟩
        exact sp_plain rfl ((o_geq .i64 day ((c.recs[no.toNat]!).asked + c.wait) rfl rfl (⟨(Keep.refl _ _), rfl⟩)))
       intro F2226 w2227 k2225 hT2228 hF2229
       have s2230 := s2200.call k2225
       have m2231 : Mv (b2123 :: (b2112 :: (b2101 :: (b2026 :: (b2018 :: (b2002 :: [])))))) w2197 (b2123 :: (b2112 :: (b2101 :: (b2026 :: (b2018 :: (b2002 :: [])))))) w2227 := Mv.of_keep k2225
       have hp2017 := hp2017.mv m2231
       have hd2098 := hd2098.mv m2231
       have hd2100 := hd2100.mv m2231
       have bx2007 := bx2007.keep k2225 (by simp)
       have bx2023 := bx2023.keep k2225 (by simp)
       have bx2031 := bx2031.keep k2225 (by simp)
       have bx2106 := bx2106.keep k2225 (by simp)
       have bx2117 := bx2117.keep k2225 (by simp)
       have bx2149 := bx2149.keep k2225 (by simp)
       obtain ⟨F2, rfl⟩ := lit_of (F := F2226) [(0, Value.pointer (some ⟨b2112, 0, none⟩)), (28, undef), (12, Value.pointer (some ⟨b2101, 0, none⟩)), (22, Value.bool (decide ((c.recs[no.toNat]!).asked + c.wait ≤ day)))] ⟨hF2229 0 (by kernel_rfl), hF2229 28 (by kernel_rfl), hT2228 0 12 (by kernel_rfl) (by decide), hT2228 10 22 (by kernel_rfl) (by decide), trivial⟩
       clear hT2228 hF2229
       refine wl_s (o_callX [Value.pointer (some ⟨b2101, 0, none⟩), Value.bool (decide ((c.recs[no.toNat]!).asked + c.wait ≤ day)), vI (451 : Int)] enter_41 rfl (calls_of_cw 11 Try.func41 rfl rfl (of_decide_eq_true rfl) (fun F2233 => ?_)))
       refine cw_seq (?_)
       refine cw_region (by kernel_rfl) (wl_s (o_move (Value.bool (decide ((c.recs[no.toNat]!).asked + c.wait ≤ day))) rfl (wl_s (o_not (decide ((c.recs[no.toNat]!).asked + c.wait ≤ day)) rfl (wl_nil (thenQ_n (?_)))))))
       refine cw_cond (!(decide ((c.recs[no.toNat]!).asked + c.wait ≤ day))) rfl rfl (fun hc2234 => ?_) (fun hc2234 => ?_)
       ·have hp2235 : day < (c.recs[no.toNat]!).asked + c.wait := by first | simpa using hc2234 | (have e := hc2234; simp at e; omega)
        refine cw_region (by kernel_rfl) (wl_s (o_move (vI (451 : Int)) rfl (wl_s (o_build (l := [(0, .tmp 8)]) pl_78 z_78 rfl [(0, vI (451 : Int), [vI (451 : Int)])] [vI (451 : Int)] rfl ⟨_, rfl, rfl, (of_decide_eq_true rfl), rfl⟩ (wl_s (o_iface (Value.agg #[vI (451 : Int)]) Try.underlying78 rfl rfl (wl_n (o_panic rfl (end_p rfl (both_p (?_)))))))))))
        refine thenQ_p (end_p rfl (both_p (?_)))
        refine end_p rfl (both_p (?_))
        refine end_p rfl (both_p (?_))
        refine thenQ_p (endD_pl (leave_con [Value.pointer (some ⟨b2018, 0, none⟩), Value.pointer (some ⟨b2026, 0, none⟩)] (.panicking [{ v := Value.iface 78 (Value.agg #[vI (451 : Int)]), recovered := false }]) rfl (fun h => by cases h) rfl enter_59 (c_on1p (451 : Int) b2018 b2026 s2230 bx2023 bx2031 (by repeat (first | assumption | constructor)) (by repeat (first | assumption | constructor)) ne2034) (fun e_ w2236 hR_ => ?_)))
        obtain ⟨v_, rfl, s2237, m2238, k2239, bx2240, bx2241⟩ := hR_
        have bx2007 := bx2007.keep k2239 (nin2 ne2025 ne2033)
        refine Exists.intro _ (And.intro (resv2 rfl (rv_A (vs := [vI (0 : Int), vI (0 : Int), vI (0 : Int), Value.slice none 0 0, Value.slice none 0 0]) rfl Try.underlying25 rfl s_25 rfl bx2240 rfl) (rv_c rfl Try.underlying28 rfl rfl bx2241 rfl)) (both_r (?_)))
        refine wl_s (o_extract (Value.agg #[vI (0 : Int), vI (0 : Int), vI (0 : Int), Value.slice none 0 0, Value.slice none 0 0]) rfl rfl (wl_s (o_extract (vI (451 : Int)) rfl rfl (wl_n (o_store (vs := [vI (0 : Int), vI (0 : Int), vI (0 : Int), Value.slice none 0 0, Value.slice none 0 0]) (.agg #[vI (0 : Int), vI (0 : Int), vI (0 : Int), Value.slice none 0 0, Value.slice none 0 0]) rfl rfl rfl s_25 (fun u hu => by simp only [List.mem_cons, List.not_mem_nil, or_false] at hu; rcases hu with rfl | rfl | rfl | rfl | rfl <;> first | rfl) (by repeat (first | assumption | constructor)) bx2007 (of_decide_eq_true rfl) s2237 fun w2242 s2243 m2244 k2245 bx2246 => (?_))))))
        refine wl_s (o_assign (vI (451 : Int)) rfl (wl_nil (thenQ_n (?_))))
        refine cw_ret (end_r rfl (resv2 rfl (rv_A (vs := [vI (0 : Int), vI (0 : Int), vI (0 : Int), Value.slice none 0 0, Value.slice none 0 0]) rfl Try.underlying25 rfl s_25 rfl bx2246 rfl) (rv_t rfl rfl)) (?_))
        have e2247 : ((gAct c no (fFinish c day)).1) = (⟨(0 : Int), (0 : Int), (0 : Int), [], []⟩ : Circle) := by first | exact congrArg (fun p => p.1) (show gAct c no (fFinish c day) = _ from fin_no hok (by omega)) | exact congrArg (fun p => p.1) (show gAct c no (fFinish c day) = _ from fin_day hok (by omega) (by omega) (by assumption) (by assumption)) | exact congrArg (fun p => p.1) (show gAct c no (fFinish c day) = _ from fin_few hok (by omega) (by omega) (by assumption) (by assumption) (by assumption)) | exact congrArg (fun p => p.1) (show gAct c no (fFinish c day) = _ from fin_wait hok (by omega) (by omega) (by assumption) (by assumption) (by assumption) (by omega)) | exact congrArg (fun p => p.1) (show gAct c no (fFinish c day) = _ from fin_open hok (by omega) (by omega) (by assumption) (by assumption) (by assumption) (by omega))
        have e2248 : ((gAct c no (fFinish c day)).2) = (451 : Int) := by first | exact congrArg (fun p => p.2) (show gAct c no (fFinish c day) = _ from fin_no hok (by omega)) | exact congrArg (fun p => p.2) (show gAct c no (fFinish c day) = _ from fin_day hok (by omega) (by omega) (by assumption) (by assumption)) | exact congrArg (fun p => p.2) (show gAct c no (fFinish c day) = _ from fin_few hok (by omega) (by omega) (by assumption) (by assumption) (by assumption)) | exact congrArg (fun p => p.2) (show gAct c no (fFinish c day) = _ from fin_wait hok (by omega) (by omega) (by assumption) (by assumption) (by assumption) (by omega)) | exact congrArg (fun p => p.2) (show gAct c no (fFinish c day) = _ from fin_open hok (by omega) (by omega) (by assumption) (by assumption) (by assumption) (by omega))
        exact ⟨_, rfl, s2243.keep, by rw [e2247, e2248]; exact ⟨[vI (0 : Int), vI (0 : Int), vI (0 : Int), Value.slice none 0 0, Value.slice none 0 0], rfl, Enc.out (B := (b2123 :: (b2112 :: (b2101 :: (b2026 :: (b2018 :: (b2002 :: []))))))) ⟨.slice none 0 0, .slice none 0 0, rfl, (RdL.nil _ _ _), (RdL.nil _ _ _)⟩⟩⟩
       ·have hp2249 : (c.recs[no.toNat]!).asked + c.wait ≤ day := by first | simpa using hc2234 | (have e := hc2234; simp at e; omega)
        refine cw_skip (end_n rfl (res0 rfl) (both_r (?_)))
        refine wl_nil (thenQ_n (?_))
        refine cw_region (by kernel_rfl) (wl_s (o_loadBx Try.underlying64 rfl (Value.pointer (some ⟨b2101, 0, none⟩)) rfl bx2117 rfl (wl_s (o_nilCheck ⟨b2101, 0, none⟩ rfl (wl_s (o_fieldL 0 f_74_0 rfl (wl_s (o_fieldL 2 f_47_2 rfl (wl_n (o_store1 (vI (1 : Int)) rfl rfl rfl s_3 (by repeat (first | assumption | constructor)) bx2106 (of_decide_eq_true rfl) s2230 fun w2250 s2251 m2252 k2253 bx2254 => (?_)))))))))))
        have hp2017 := hp2017.mv m2252
        have hd2098 := hd2098.mv m2252
        have hd2100 := hd2100.mv m2252
        have bx2007 := bx2007.keep k2253 (nin1 ne2108)
        have bx2023 := bx2023.keep k2253 (nin1 ne2109)
        have bx2031 := bx2031.keep k2253 (nin1 ne2110)
        have bx2117 := bx2117.keep k2253 (nin1 (Ne.symm ne2122))
        have bx2149 := bx2149.keep k2253 (nin1 (Ne.symm ne2133))
        refine wl_nil (end_n rfl (res0 rfl) (both_r (?_)))
        refine wl_nil (end_n rfl (res0 rfl) (both_r (?_)))
        refine wl_nil (end_n rfl (res0 rfl) (both_r (?_)))
        refine wl_nil (thenQ_n (?_))
        refine cw_seq (?_)
        refine cw_region (by kernel_rfl) (wl_s (o_loadS Try.underlying25 rfl s_25 rfl hp2017 fun cs2255 hs2256 => (?_)))
        obtain ⟨d2262, d2264, rfl, hd2263, hd2265⟩ := hs2256
        have := hd2263.len_le
        have := hd2265.len_le
        refine wl_n (o_store (vs := [vI c.epoch, vI c.threshold, vI c.wait, d2262, d2264]) (.agg #[vI c.epoch, vI c.threshold, vI c.wait, d2262, d2264]) rfl rfl rfl s_25 (fun u hu => by simp only [List.mem_cons, List.not_mem_nil, or_false] at hu; rcases hu with rfl | rfl | rfl | rfl | rfl <;> first | rfl | exact hd2263.oneCell | exact hd2265.oneCell) (by repeat (first | assumption | constructor)) bx2023 (of_decide_eq_true rfl) s2251 fun w2257 s2258 m2259 k2260 bx2261 => (?_))
        have hp2017 := hp2017.mv m2259
        have hd2098 := hd2098.mv m2259
        have hd2100 := hd2100.mv m2259
        have hd2263 := hd2263.mv m2259
        have bx2007 := bx2007.keep k2260 (nin1 ne2025)
        have bx2031 := bx2031.keep k2260 (nin1 (Ne.symm ne2034))
        have bx2254 := bx2254.keep k2260 (nin1 (Ne.symm ne2109))
        have bx2117 := bx2117.keep k2260 (nin1 (Ne.symm ne2120))
        have bx2149 := bx2149.keep k2260 (nin1 (Ne.symm ne2131))
        refine wl_nil (thenQ_n (?_))
        refine cw_seq (?_)
        refine cw_region (by kernel_rfl) (wl_s (o_fieldR 4 f_25_4 (c.recs) rfl hp2017 (fun _ _ _ h => Enc_circle_f4 h) fun a2266 hp2267 => (wl_s (o_loadL Try.underlying23 rfl rfl hp2267 fun v2268 hl2269 => (?_)))))
        have := hl2269.len_le
        refine wl_s (o_call [v2268] _ enter_31 rfl (calls_of_cw 8 Try.func31 rfl rfl (of_decide_eq_true rfl) (fun F2270 => ?_)) (fun _ _ h => h))
        refine cw_seq (?_)
        refine cw_region (by kernel_rfl) (wl_s (o_assign (Value.slice none 0 0) rfl (wl_nil (thenQ_n (?_)))))
        refine cw_seq (?_)
        refine cw_seq (?_)
        refine cw_region (by kernel_rfl) (wl_s (o_move (v2268) rfl (wl_s (o_eqlNilF Try.underlying23 rfl rfl hl2269 (by omega) (wl_nil (thenQ_n (?_)))))))
        refine cw_cond false rfl rfl (fun h => by cases h) (fun _ => ?_)
        refine cw_skip (thenQ_n (?_))
        refine cw_seq (?_)
        refine cw_region (by kernel_rfl) (wl_s (o_litO (E := Enc.recovery) (xs := []) Try.underlying23 s_47 z_47 (by decide) [] [] [] rfl rfl rfl (Parts.nil _ _ _) (of_decide_eq_true rfl) s2258 fun v2275 b2277 w2271 e2278 hb2279 s2272 m2273 k2274 hl2276 => (?_)))
        have ne2280 : ∀ b, v2275.ownBlock = some b → b ≠ b2002 := fun b hb => by have := bx2007.lt; rw [hb2279] at hb; cases hb; omega
        have ne2281 : ∀ b, v2275.ownBlock = some b → b ≠ b2018 := fun b hb => by have := bx2261.lt; rw [hb2279] at hb; cases hb; omega
        have ne2282 : ∀ b, v2275.ownBlock = some b → b ≠ b2026 := fun b hb => by have := bx2031.lt; rw [hb2279] at hb; cases hb; omega
        have ne2283 : ∀ b, v2275.ownBlock = some b → b ≠ b2101 := fun b hb => by have := bx2254.lt; rw [hb2279] at hb; cases hb; omega
        have ne2284 : ∀ b, v2275.ownBlock = some b → b ≠ b2112 := fun b hb => by have := bx2117.lt; rw [hb2279] at hb; cases hb; omega
        have ne2285 : ∀ b, v2275.ownBlock = some b → b ≠ b2123 := fun b hb => by have := bx2149.lt; rw [hb2279] at hb; cases hb; omega
        have hB2286 : ∀ b, v2275.ownBlock = some b → b ∈ (b2277 :: (b2123 :: (b2112 :: (b2101 :: (b2026 :: (b2018 :: (b2002 :: []))))))) := fun b hb => by rw [hb2279] at hb; cases hb; simp
        clear e2278 hb2279
        have hl2269 := hl2269.mv m2273
        have hd2098 := hd2098.mv m2273
        have hd2100 := hd2100.mv m2273
        have hd2263 := hd2263.mv m2273
        have bx2007 := bx2007.keep k2274 (by simp)
        have bx2261 := bx2261.keep k2274 (by simp)
        have bx2031 := bx2031.keep k2274 (by simp)
        have bx2254 := bx2254.keep k2274 (by simp)
        have bx2117 := bx2117.keep k2274 (by simp)
        have bx2149 := bx2149.keep k2274 (by simp)
        refine wl_s (o_move (v2268) rfl (wl_s (o_append (E := Enc.recovery) (l := []) (m := c.recs) Try.underlying23 i_47 rfl (by decide) rfl rfl hl2276 hl2269 (fun _ hb => .inl hb) hB2286 (by simp; omega) (by simp [maxLen]; omega) s2272 fun v2291 w2287 B2293 hB2294 at2295 sub2296 s2288 m2289 k2290 ho2292 => (?_))))
        rw [List.nil_append] at ho2292
        have ne2297 : ∀ b, v2291.ownBlock = some b → b ≠ b2002 := fun b hb => by rcases at2295 with e1 | e1 <;> rw [e1] at hb <;> first | (simp [Value.ownBlock] at hb; done) | (cases hb; have := bx2007.lt; omega) | (exact ne2280 b hb)
        have ne2298 : ∀ b, v2291.ownBlock = some b → b ≠ b2018 := fun b hb => by rcases at2295 with e1 | e1 <;> rw [e1] at hb <;> first | (simp [Value.ownBlock] at hb; done) | (cases hb; have := bx2261.lt; omega) | (exact ne2281 b hb)
        have ne2299 : ∀ b, v2291.ownBlock = some b → b ≠ b2026 := fun b hb => by rcases at2295 with e1 | e1 <;> rw [e1] at hb <;> first | (simp [Value.ownBlock] at hb; done) | (cases hb; have := bx2031.lt; omega) | (exact ne2282 b hb)
        have ne2300 : ∀ b, v2291.ownBlock = some b → b ≠ b2101 := fun b hb => by rcases at2295 with e1 | e1 <;> rw [e1] at hb <;> first | (simp [Value.ownBlock] at hb; done) | (cases hb; have := bx2254.lt; omega) | (exact ne2283 b hb)
        have ne2301 : ∀ b, v2291.ownBlock = some b → b ≠ b2112 := fun b hb => by rcases at2295 with e1 | e1 <;> rw [e1] at hb <;> first | (simp [Value.ownBlock] at hb; done) | (cases hb; have := bx2117.lt; omega) | (exact ne2284 b hb)
        have ne2302 : ∀ b, v2291.ownBlock = some b → b ≠ b2123 := fun b hb => by rcases at2295 with e1 | e1 <;> rw [e1] at hb <;> first | (simp [Value.ownBlock] at hb; done) | (cases hb; have := bx2149.lt; omega) | (exact ne2285 b hb)
        have hin_b2002 : b2002 ∈ B2293 := sub2296 b2002 (by repeat (first | assumption | constructor))
        have hin_b2018 : b2018 ∈ B2293 := sub2296 b2018 (by repeat (first | assumption | constructor))
        have hin_b2026 : b2026 ∈ B2293 := sub2296 b2026 (by repeat (first | assumption | constructor))
        have hin_b2101 : b2101 ∈ B2293 := sub2296 b2101 (by repeat (first | assumption | constructor))
        have hin_b2112 : b2112 ∈ B2293 := sub2296 b2112 (by repeat (first | assumption | constructor))
        have hin_b2123 : b2123 ∈ B2293 := sub2296 b2123 (by repeat (first | assumption | constructor))
        have hd2098 := hd2098.mv m2289
        have hd2100 := hd2100.mv m2289
        have hd2263 := hd2263.mv m2289
        have bx2007 := bx2007.keep k2290 (by simp only [Option.mem_toList]; first | (simp [Value.ownBlock]; done) | exact fun e => absurd rfl (ne2280 _ e))
        have bx2261 := bx2261.keep k2290 (by simp only [Option.mem_toList]; first | (simp [Value.ownBlock]; done) | exact fun e => absurd rfl (ne2281 _ e))
        have bx2031 := bx2031.keep k2290 (by simp only [Option.mem_toList]; first | (simp [Value.ownBlock]; done) | exact fun e => absurd rfl (ne2282 _ e))
        have bx2254 := bx2254.keep k2290 (by simp only [Option.mem_toList]; first | (simp [Value.ownBlock]; done) | exact fun e => absurd rfl (ne2283 _ e))
        refine wl_s (o_assign (v2291) rfl (wl_nil (thenQ_n (?_))))
        refine cw_ret (end_r rfl (res1 rfl rfl rfl) (Exists.intro _ (And.intro rfl (?_))))
        refine wl_s (o_fieldL 4 f_25_4 rfl (wl_n (o_store1 (v2291) rfl rfl ho2292.oneCell s_23 (by repeat (first | assumption | constructor)) bx2261 (of_decide_eq_true rfl) s2288 fun w2303 s2304 m2305 k2306 bx2307 => (?_))))
        have hd2098 := hd2098.mv m2305
        have hd2100 := hd2100.mv m2305
        have hd2263 := hd2263.mv m2305
        have ho2292 := ho2292.mv m2305 k2306 (fun b hb => nin1 (ne2298 b hb))
        have bx2007 := bx2007.keep k2306 (nin1 ne2025)
        have bx2031 := bx2031.keep k2306 (nin1 (Ne.symm ne2034))
        have bx2254 := bx2254.keep k2306 (nin1 (Ne.symm ne2109))
        refine wl_nil (thenQ_n (?_))
        refine cw_seq (?_)
        refine cw_draw' 7 _ _ [isV (Value.pointer (some ⟨b2018, 4, none⟩)), isV v2291, isV (vI no), isV (Value.pointer (some ⟨b2101, 0, none⟩)), isV (Value.pointer (some ⟨b2101, 0, none⟩)), isV (Value.pointer (some ⟨b2101, 0, none⟩)), isV (Value.agg #[vI ((c.recs[no.toNat]!).no), vI ((c.recs[no.toNat]!).asked), vI (1 : Int), d2097, d2099])] (by kernel_rfl) (by kernel_rfl) (by kernel_rfl) (by kernel_rfl) rfl rfl ⟨kI, kI, kI, kI, kI, kI, kI, trivial⟩ ⟨?_, ?_, ?_, ?_, ?_, ?_, ?_, trivial⟩ ?_
        ·intro F1 w1 k1 hf hd
         obtain ⟨F2, rfl⟩ := lit_of (F := F1) [(6, Value.pointer (some ⟨b2018, 0, none⟩))] ⟨hf 6 (by kernel_rfl), trivial⟩
         exact sp_plain rfl ((o_fieldL 4 f_25_4 rfl (⟨(Keep.refl _ _), rfl⟩)))
        ·intro F1 w1 k1 hf hd
         have k0 := (Keep.drew [] w2303).trans k1
         have bx2307 := bx2307.keep k0 (by simp)
         obtain ⟨F2, rfl⟩ := lit_of (F := F1) [(42, Value.pointer (some ⟨b2018, 4, none⟩))] ⟨hd 0 42 (by kernel_rfl), trivial⟩
         exact sp_plain rfl ((o_loadBx Try.underlying23 rfl (v2291) rfl bx2307 rfl (⟨(Keep.refl _ _), rfl⟩)))
        ·intro F1 w1 k1 hf hd
         obtain ⟨F2, rfl⟩ := lit_of (F := F1) [(1, vI no)] ⟨hf 1 (by kernel_rfl), trivial⟩
         exact sp_plain rfl ((o_move (vI no) rfl (⟨(Keep.refl _ _), rfl⟩)))
        ·intro F1 w1 k1 hf hd
         obtain ⟨F2, rfl⟩ := lit_of (F := F1) [(9, Value.pointer (some ⟨b2101, 0, none⟩))] ⟨hf 9 (by kernel_rfl), trivial⟩
         exact sp_plain rfl ((o_move (Value.pointer (some ⟨b2101, 0, none⟩)) rfl (⟨(Keep.refl _ _), rfl⟩)))
        ·intro F1 w1 k1 hf hd
         obtain ⟨F2, rfl⟩ := lit_of (F := F1) [(45, Value.pointer (some ⟨b2101, 0, none⟩))] ⟨hd 3 45 (by kernel_rfl), trivial⟩
         exact sp_plain rfl ((o_nilCheck ⟨b2101, 0, none⟩ rfl (⟨(Keep.refl _ _), rfl⟩)))
        ·intro F1 w1 k1 hf hd
         obtain ⟨F2, rfl⟩ := lit_of (F := F1) [(46, Value.pointer (some ⟨b2101, 0, none⟩))] ⟨hd 4 46 (by kernel_rfl), trivial⟩
         exact sp_plain rfl ((o_fieldL 0 f_74_0 rfl (⟨(Keep.refl _ _), rfl⟩)))
        ·intro F1 w1 k1 hf hd
         have k0 := (Keep.drew [] w2303).trans k1
         have bx2254 := bx2254.keep k0 (by simp)
         obtain ⟨F2, rfl⟩ := lit_of (F := F1) [(47, Value.pointer (some ⟨b2101, 0, none⟩))] ⟨hd 5 47 (by kernel_rfl), trivial⟩
         exact sp_plain rfl ((o_loadBxA (vs := [vI ((c.recs[no.toNat]!).no), vI ((c.recs[no.toNat]!).asked), vI (1 : Int), d2097, d2099]) Try.underlying47 rfl s_47 rfl bx2254 rfl (⟨(Keep.refl _ _), rfl⟩)))
        intro F2309 w2310 k2308 hT2311 hF2312
        have s2313 := s2304.call k2308
        have m2314 : Mv B2293 w2303 B2293 w2310 := Mv.of_keep k2308
        have hd2098 := hd2098.mv m2314
        have hd2100 := hd2100.mv m2314
        have hd2263 := hd2263.mv m2314
        have ho2292 := ho2292.mv m2314 k2308 (by simp)
        have bx2007 := bx2007.keep k2308 (by simp)
        have bx2307 := bx2307.keep k2308 (by simp)
        have bx2031 := bx2031.keep k2308 (by simp)
        obtain ⟨F2, rfl⟩ := lit_of (F := F2309) [(6, Value.pointer (some ⟨b2018, 0, none⟩)), (7, Value.pointer (some ⟨b2026, 0, none⟩)), (51, .tuple #[Value.func (.func 59) #[] #[Value.pointer (some ⟨b2018, 0, none⟩), Value.pointer (some ⟨b2026, 0, none⟩)]]), (43, v2291), (44, vI no), (48, Value.agg #[vI ((c.recs[no.toNat]!).no), vI ((c.recs[no.toNat]!).asked), vI (1 : Int), d2097, d2099])] ⟨hF2312 6 (by kernel_rfl), hF2312 7 (by kernel_rfl), hF2312 51 (by kernel_rfl), hT2311 1 43 (by kernel_rfl) (by decide), hT2311 2 44 (by kernel_rfl) (by decide), hT2311 6 48 (by kernel_rfl) (by decide), trivial⟩
        clear hT2311 hF2312
        refine wl_s (o_indexO Try.underlying23 s_47 .i64 no no.toNat rfl rfl (by omega) ho2292 (by first | omega | (simp; omega)) fun b2316 hb2317 => (wl_n (o_storeOA (⟨(c.recs[no.toNat]!).no, (c.recs[no.toNat]!).asked, (1 : Int), (c.recs[no.toNat]!).approved, (c.recs[no.toNat]!).vetoed⟩ : Recovery) (by decide) s_47 rfl rfl ho2292 hb2317 (hB2294 _ hb2317) (by first | omega | (simp; omega)) ⟨_, _, rfl, hd2098, hd2100⟩ s2313 fun w2318 s2319 m2320 k2321 bx2322 => (?_))))
        have bx2007 := bx2007.keep k2321 (by simp only [List.mem_singleton]; exact fun e => absurd e.symm (ne2297 _ hb2317))
        have hd2263 := hd2263.mv m2320
        have bx2307 := bx2307.keep k2321 (by simp only [List.mem_singleton]; exact fun e => absurd e.symm (ne2298 _ hb2317))
        have bx2031 := bx2031.keep k2321 (by simp only [List.mem_singleton]; exact fun e => absurd e.symm (ne2299 _ hb2317))
        refine wl_nil (thenQ_n (?_))
        refine cw_seq (?_)
        refine cw_region (by kernel_rfl) (wl_s (o_loadBxA (vs := [vI c.epoch, vI c.threshold, vI c.wait, d2262, v2291]) Try.underlying25 rfl s_25 rfl bx2307 rfl (wl_n (o_store (vs := [vI c.epoch, vI c.threshold, vI c.wait, d2262, v2291]) (.agg #[vI c.epoch, vI c.threshold, vI c.wait, d2262, v2291]) rfl rfl rfl s_25 (fun u hu => by simp only [List.mem_cons, List.not_mem_nil, or_false] at hu; rcases hu with rfl | rfl | rfl | rfl | rfl <;> first | rfl | exact hd2263.oneCell | exact bx2322.oneCell) (by repeat (first | assumption | constructor)) bx2307 (of_decide_eq_true rfl) s2319 fun w2323 s2324 m2325 k2326 bx2327 => (?_)))))
        have bx2322 := bx2322.mv m2325 k2326 (fun b hb => nin1 (ne2298 b hb))
        have hd2263 := hd2263.mv m2325
        have bx2007 := bx2007.keep k2326 (nin1 ne2025)
        have bx2031 := bx2031.keep k2326 (nin1 (Ne.symm ne2034))
        refine wl_n (o_store1 (vI (0 : Int)) rfl rfl rfl s_28 (by repeat (first | assumption | constructor)) bx2031 (of_decide_eq_true rfl) s2324 fun w2328 s2329 m2330 k2331 bx2332 => (?_))
        have bx2322 := bx2322.mv m2330 k2331 (fun b hb => nin1 (ne2299 b hb))
        have hd2263 := hd2263.mv m2330
        have bx2007 := bx2007.keep k2331 (nin1 ne2033)
        have bx2327 := bx2327.keep k2331 (nin1 ne2034)
        refine wl_nil (thenQ_n (?_))
        refine cw_ret (endD_rl (leave_rec [Value.pointer (some ⟨b2018, 0, none⟩), Value.pointer (some ⟨b2026, 0, none⟩)] 19 .returning rfl (fun h => by cases h) rfl enter_59 Try.func59 rfl rfl (of_decide_eq_true rfl) rfl rfl (fun F2333 => ?_)))
        refine cw_seq (?_)
        refine cw_region (by kernel_rfl) (wl_s (o_move (Value.nilIface) rfl (wl_s (o_neqNil' Try.underlying20 rfl (wl_nil (thenQ_n (?_)))))))
        refine cw_cond false rfl rfl (fun h => by cases h) (fun _ => ?_)
        refine cw_skip (end_n rfl (res0 rfl) (Exists.intro _ (And.intro (resv2 rfl (rv_A (vs := [vI c.epoch, vI c.threshold, vI c.wait, d2262, v2291]) rfl Try.underlying25 rfl s_25 rfl bx2327 rfl) (rv_c rfl Try.underlying28 rfl rfl bx2332 rfl)) (both_r (?_)))))
        refine wl_s (o_extract (Value.agg #[vI c.epoch, vI c.threshold, vI c.wait, d2262, v2291]) rfl rfl (wl_s (o_extract (vI (0 : Int)) rfl rfl (wl_n (o_store (vs := [vI c.epoch, vI c.threshold, vI c.wait, d2262, v2291]) (.agg #[vI c.epoch, vI c.threshold, vI c.wait, d2262, v2291]) rfl rfl rfl s_25 (fun u hu => by simp only [List.mem_cons, List.not_mem_nil, or_false] at hu; rcases hu with rfl | rfl | rfl | rfl | rfl <;> first | rfl | exact hd2263.oneCell | exact bx2322.oneCell) (by repeat (first | assumption | constructor)) bx2007 (of_decide_eq_true rfl) s2329 fun w2334 s2335 m2336 k2337 bx2338 => (?_))))))
        have hd2263 := hd2263.mv m2336
        have bx2322 := bx2322.mv m2336 k2337 (fun b hb => nin1 (ne2297 b hb))
        refine wl_s (o_assign (vI (0 : Int)) rfl (wl_nil (thenQ_n (?_))))
        refine cw_ret (end_r rfl (resv2 rfl (rv_A (vs := [vI c.epoch, vI c.threshold, vI c.wait, d2262, v2291]) rfl Try.underlying25 rfl s_25 rfl bx2338 rfl) (rv_t rfl rfl)) (?_))
        have e2339 : ((gAct c no (fFinish c day)).1) = (⟨c.epoch, c.threshold, c.wait, c.guardians, c.recs.set no.toNat (⟨(c.recs[no.toNat]!).no, (c.recs[no.toNat]!).asked, (1 : Int), (c.recs[no.toNat]!).approved, (c.recs[no.toNat]!).vetoed⟩ : Recovery)⟩ : Circle) := by first | exact congrArg (fun p => p.1) (show gAct c no (fFinish c day) = _ from fin_no hok (by omega)) | exact congrArg (fun p => p.1) (show gAct c no (fFinish c day) = _ from fin_day hok (by omega) (by omega) (by assumption) (by assumption)) | exact congrArg (fun p => p.1) (show gAct c no (fFinish c day) = _ from fin_few hok (by omega) (by omega) (by assumption) (by assumption) (by assumption)) | exact congrArg (fun p => p.1) (show gAct c no (fFinish c day) = _ from fin_wait hok (by omega) (by omega) (by assumption) (by assumption) (by assumption) (by omega)) | exact congrArg (fun p => p.1) (show gAct c no (fFinish c day) = _ from fin_open hok (by omega) (by omega) (by assumption) (by assumption) (by assumption) (by omega))
        have e2340 : ((gAct c no (fFinish c day)).2) = (0 : Int) := by first | exact congrArg (fun p => p.2) (show gAct c no (fFinish c day) = _ from fin_no hok (by omega)) | exact congrArg (fun p => p.2) (show gAct c no (fFinish c day) = _ from fin_day hok (by omega) (by omega) (by assumption) (by assumption)) | exact congrArg (fun p => p.2) (show gAct c no (fFinish c day) = _ from fin_few hok (by omega) (by omega) (by assumption) (by assumption) (by assumption)) | exact congrArg (fun p => p.2) (show gAct c no (fFinish c day) = _ from fin_wait hok (by omega) (by omega) (by assumption) (by assumption) (by assumption) (by omega)) | exact congrArg (fun p => p.2) (show gAct c no (fFinish c day) = _ from fin_open hok (by omega) (by omega) (by assumption) (by assumption) (by assumption) (by omega))
        exact ⟨_, rfl, s2335.keep, by rw [e2339, e2340]; exact ⟨[vI c.epoch, vI c.threshold, vI c.wait, d2262, v2291], rfl, ⟨_, _, rfl, hd2263.out, (bx2322.pub s2335)⟩⟩⟩
    ·refine wl_s (o_lookupF (k := 1) (Value.func (.func 55) #[] #[Value.pointer (some ⟨b2112, 0, none⟩)]) Try.underlying68 Try.underlying3 rfl (congrArg vI hs2151) bx2149 rfl (wl_s (o_move (Value.tuple #[Value.func (.func 55) #[] #[Value.pointer (some ⟨b2112, 0, none⟩)], Value.bool true]) rfl (wl_s (o_extract (Value.func (.func 55) #[] #[Value.pointer (some ⟨b2112, 0, none⟩)]) rfl rfl (wl_s (o_extract (Value.bool true) rfl rfl (wl_s (o_assign (Value.func (.func 55) #[] #[Value.pointer (some ⟨b2112, 0, none⟩)]) rfl (wl_s (o_assign (Value.bool true) rfl (wl_nil (thenQ_n (?_))))))))))))))
     refine cw_seq (?_)
     refine cw_region (by kernel_rfl) (wl_s (o_move (Value.bool true) rfl (wl_nil (thenQ_n (?_)))))
     refine cw_cond true rfl rfl (fun _ => ?_) (fun h => by cases h)
     refine cw_region (by kernel_rfl) (wl_s (o_move (Value.func (.func 55) #[] #[Value.pointer (some ⟨b2112, 0, none⟩)]) rfl (wl_s (o_callvX [] [Value.pointer (some ⟨b2112, 0, none⟩)] [] enter_55 rfl rfl (calls_of_cw 3 Try.func55 rfl rfl (of_decide_eq_true rfl) (fun F2341 => ?_))))))
     refine cw_region (by kernel_rfl) (wl_s (o_loadBx Try.underlying64 rfl (Value.pointer (some ⟨b2101, 0, none⟩)) rfl bx2117 rfl (wl_s (o_callX [Value.pointer (some ⟨b2101, 0, none⟩), Value.bool false, vI (1 : Int)] enter_41 rfl (calls_of_cw 11 Try.func41 rfl rfl (of_decide_eq_true rfl) (fun F2342 => ?_))))))
     refine cw_seq (?_)
     refine cw_region (by kernel_rfl) (wl_s (o_move (Value.bool false) rfl (wl_s (o_not false rfl (wl_nil (thenQ_n (?_)))))))
     refine cw_cond true rfl rfl (fun _ => ?_) (fun h => by cases h)
     refine cw_region (by kernel_rfl) (wl_s (o_move (vI (1 : Int)) rfl (wl_s (o_build (l := [(0, .tmp 8)]) pl_78 z_78 rfl [(0, vI (1 : Int), [vI (1 : Int)])] [vI (1 : Int)] rfl ⟨_, rfl, rfl, (of_decide_eq_true rfl), rfl⟩ (wl_s (o_iface (Value.agg #[vI (1 : Int)]) Try.underlying78 rfl rfl (wl_n (o_panic rfl (end_p rfl (both_p (?_)))))))))))
     refine end_p rfl (both_p (?_))
     refine end_p rfl (both_p (?_))
     refine end_p rfl (both_p (?_))
     refine thenQ_p (endD_pl (leave_con [Value.pointer (some ⟨b2018, 0, none⟩), Value.pointer (some ⟨b2026, 0, none⟩)] (.panicking [{ v := Value.iface 78 (Value.agg #[vI (1 : Int)]), recovered := false }]) rfl (fun h => by cases h) rfl enter_59 (c_on1p (1 : Int) b2018 b2026 s2146 bx2023 bx2031 (by repeat (first | assumption | constructor)) (by repeat (first | assumption | constructor)) ne2034) (fun e_ w2343 hR_ => ?_)))
     obtain ⟨v_, rfl, s2344, m2345, k2346, bx2347, bx2348⟩ := hR_
     have bx2007 := bx2007.keep k2346 (nin2 ne2025 ne2033)
     refine Exists.intro _ (And.intro (resv2 rfl (rv_A (vs := [vI (0 : Int), vI (0 : Int), vI (0 : Int), Value.slice none 0 0, Value.slice none 0 0]) rfl Try.underlying25 rfl s_25 rfl bx2347 rfl) (rv_c rfl Try.underlying28 rfl rfl bx2348 rfl)) (both_r (?_)))
     refine wl_s (o_extract (Value.agg #[vI (0 : Int), vI (0 : Int), vI (0 : Int), Value.slice none 0 0, Value.slice none 0 0]) rfl rfl (wl_s (o_extract (vI (1 : Int)) rfl rfl (wl_n (o_store (vs := [vI (0 : Int), vI (0 : Int), vI (0 : Int), Value.slice none 0 0, Value.slice none 0 0]) (.agg #[vI (0 : Int), vI (0 : Int), vI (0 : Int), Value.slice none 0 0, Value.slice none 0 0]) rfl rfl rfl s_25 (fun u hu => by simp only [List.mem_cons, List.not_mem_nil, or_false] at hu; rcases hu with rfl | rfl | rfl | rfl | rfl <;> first | rfl) (by repeat (first | assumption | constructor)) bx2007 (of_decide_eq_true rfl) s2344 fun w2349 s2350 m2351 k2352 bx2353 => (?_))))))
     refine wl_s (o_assign (vI (1 : Int)) rfl (wl_nil (thenQ_n (?_))))
     refine cw_ret (end_r rfl (resv2 rfl (rv_A (vs := [vI (0 : Int), vI (0 : Int), vI (0 : Int), Value.slice none 0 0, Value.slice none 0 0]) rfl Try.underlying25 rfl s_25 rfl bx2353 rfl) (rv_t rfl rfl)) (?_))
     have e2354 : ((gAct c no (fFinish c day)).1) = (⟨(0 : Int), (0 : Int), (0 : Int), [], []⟩ : Circle) := by first | exact congrArg (fun p => p.1) (show gAct c no (fFinish c day) = _ from fin_no hok (by omega)) | exact congrArg (fun p => p.1) (show gAct c no (fFinish c day) = _ from fin_done hok (by omega) (by omega) (by assumption))
     have e2355 : ((gAct c no (fFinish c day)).2) = (1 : Int) := by first | exact congrArg (fun p => p.2) (show gAct c no (fFinish c day) = _ from fin_no hok (by omega)) | exact congrArg (fun p => p.2) (show gAct c no (fFinish c day) = _ from fin_done hok (by omega) (by omega) (by assumption))
     exact ⟨_, rfl, s2350.keep, by rw [e2354, e2355]; exact ⟨[vI (0 : Int), vI (0 : Int), vI (0 : Int), Value.slice none 0 0, Value.slice none 0 0], rfl, Enc.out (B := (b2123 :: (b2112 :: (b2101 :: (b2026 :: (b2018 :: (b2002 :: []))))))) ⟨.slice none 0 0, .slice none 0 0, rfl, (RdL.nil _ _ _), (RdL.nil _ _ _)⟩⟩⟩
    ·refine wl_s (o_lookupF (k := 2) (Value.func (.func 54) #[] #[Value.pointer (some ⟨b2112, 0, none⟩)]) Try.underlying68 Try.underlying3 rfl (congrArg vI hs2151) bx2149 rfl (wl_s (o_move (Value.tuple #[Value.func (.func 54) #[] #[Value.pointer (some ⟨b2112, 0, none⟩)], Value.bool true]) rfl (wl_s (o_extract (Value.func (.func 54) #[] #[Value.pointer (some ⟨b2112, 0, none⟩)]) rfl rfl (wl_s (o_extract (Value.bool true) rfl rfl (wl_s (o_assign (Value.func (.func 54) #[] #[Value.pointer (some ⟨b2112, 0, none⟩)]) rfl (wl_s (o_assign (Value.bool true) rfl (wl_nil (thenQ_n (?_))))))))))))))
     refine cw_seq (?_)
     refine cw_region (by kernel_rfl) (wl_s (o_move (Value.bool true) rfl (wl_nil (thenQ_n (?_)))))
     refine cw_cond true rfl rfl (fun _ => ?_) (fun h => by cases h)
     refine cw_region (by kernel_rfl) (wl_s (o_move (Value.func (.func 54) #[] #[Value.pointer (some ⟨b2112, 0, none⟩)]) rfl (wl_s (o_callvX [] [Value.pointer (some ⟨b2112, 0, none⟩)] [] enter_54 rfl rfl (calls_of_cw 3 Try.func54 rfl rfl (of_decide_eq_true rfl) (fun F2356 => ?_))))))
     refine cw_region (by kernel_rfl) (wl_s (o_loadBx Try.underlying64 rfl (Value.pointer (some ⟨b2101, 0, none⟩)) rfl bx2117 rfl (wl_s (o_callX [Value.pointer (some ⟨b2101, 0, none⟩), Value.bool false, vI (452 : Int)] enter_41 rfl (calls_of_cw 11 Try.func41 rfl rfl (of_decide_eq_true rfl) (fun F2357 => ?_))))))
     refine cw_seq (?_)
     refine cw_region (by kernel_rfl) (wl_s (o_move (Value.bool false) rfl (wl_s (o_not false rfl (wl_nil (thenQ_n (?_)))))))
     refine cw_cond true rfl rfl (fun _ => ?_) (fun h => by cases h)
     refine cw_region (by kernel_rfl) (wl_s (o_move (vI (452 : Int)) rfl (wl_s (o_build (l := [(0, .tmp 8)]) pl_78 z_78 rfl [(0, vI (452 : Int), [vI (452 : Int)])] [vI (452 : Int)] rfl ⟨_, rfl, rfl, (of_decide_eq_true rfl), rfl⟩ (wl_s (o_iface (Value.agg #[vI (452 : Int)]) Try.underlying78 rfl rfl (wl_n (o_panic rfl (end_p rfl (both_p (?_)))))))))))
     refine end_p rfl (both_p (?_))
     refine end_p rfl (both_p (?_))
     refine end_p rfl (both_p (?_))
     refine thenQ_p (endD_pl (leave_con [Value.pointer (some ⟨b2018, 0, none⟩), Value.pointer (some ⟨b2026, 0, none⟩)] (.panicking [{ v := Value.iface 78 (Value.agg #[vI (452 : Int)]), recovered := false }]) rfl (fun h => by cases h) rfl enter_59 (c_on1p (452 : Int) b2018 b2026 s2146 bx2023 bx2031 (by repeat (first | assumption | constructor)) (by repeat (first | assumption | constructor)) ne2034) (fun e_ w2358 hR_ => ?_)))
     obtain ⟨v_, rfl, s2359, m2360, k2361, bx2362, bx2363⟩ := hR_
     have bx2007 := bx2007.keep k2361 (nin2 ne2025 ne2033)
     refine Exists.intro _ (And.intro (resv2 rfl (rv_A (vs := [vI (0 : Int), vI (0 : Int), vI (0 : Int), Value.slice none 0 0, Value.slice none 0 0]) rfl Try.underlying25 rfl s_25 rfl bx2362 rfl) (rv_c rfl Try.underlying28 rfl rfl bx2363 rfl)) (both_r (?_)))
     refine wl_s (o_extract (Value.agg #[vI (0 : Int), vI (0 : Int), vI (0 : Int), Value.slice none 0 0, Value.slice none 0 0]) rfl rfl (wl_s (o_extract (vI (452 : Int)) rfl rfl (wl_n (o_store (vs := [vI (0 : Int), vI (0 : Int), vI (0 : Int), Value.slice none 0 0, Value.slice none 0 0]) (.agg #[vI (0 : Int), vI (0 : Int), vI (0 : Int), Value.slice none 0 0, Value.slice none 0 0]) rfl rfl rfl s_25 (fun u hu => by simp only [List.mem_cons, List.not_mem_nil, or_false] at hu; rcases hu with rfl | rfl | rfl | rfl | rfl <;> first | rfl) (by repeat (first | assumption | constructor)) bx2007 (of_decide_eq_true rfl) s2359 fun w2364 s2365 m2366 k2367 bx2368 => (?_))))))
     refine wl_s (o_assign (vI (452 : Int)) rfl (wl_nil (thenQ_n (?_))))
     refine cw_ret (end_r rfl (resv2 rfl (rv_A (vs := [vI (0 : Int), vI (0 : Int), vI (0 : Int), Value.slice none 0 0, Value.slice none 0 0]) rfl Try.underlying25 rfl s_25 rfl bx2368 rfl) (rv_t rfl rfl)) (?_))
     have e2369 : ((gAct c no (fFinish c day)).1) = (⟨(0 : Int), (0 : Int), (0 : Int), [], []⟩ : Circle) := by first | exact congrArg (fun p => p.1) (show gAct c no (fFinish c day) = _ from fin_no hok (by omega)) | exact congrArg (fun p => p.1) (show gAct c no (fFinish c day) = _ from fin_dead hok (by omega) (by omega) (by assumption))
     have e2370 : ((gAct c no (fFinish c day)).2) = (452 : Int) := by first | exact congrArg (fun p => p.2) (show gAct c no (fFinish c day) = _ from fin_no hok (by omega)) | exact congrArg (fun p => p.2) (show gAct c no (fFinish c day) = _ from fin_dead hok (by omega) (by omega) (by assumption))
     exact ⟨_, rfl, s2365.keep, by rw [e2369, e2370]; exact ⟨[vI (0 : Int), vI (0 : Int), vI (0 : Int), Value.slice none 0 0, Value.slice none 0 0], rfl, Enc.out (B := (b2123 :: (b2112 :: (b2101 :: (b2026 :: (b2018 :: (b2002 :: []))))))) ⟨.slice none 0 0, .slice none 0 0, rfl, (RdL.nil _ _ _), (RdL.nil _ _ _)⟩⟩⟩
  ·have hp2371 : no < (0 : Int) := by first | simpa using hb2063 | (have e := hb2063; simp at e; omega)
   refine wl_k rfl (wl_k rfl (wl_k rfl (wl_k rfl (wl_k rfl (wl_s (o_pickT (Value.bool true) rfl rfl (wl_nil (thenQ_n (?_)))))))))
   refine cw_cond true rfl rfl (fun _ => ?_) (fun h => by cases h)
   refine cw_seq (?_)
   refine cw_region (by kernel_rfl) (wl_s (o_loadBxA (vs := [vI (0 : Int), vI (0 : Int), vI (0 : Int), Value.slice none 0 0, Value.slice none 0 0]) Try.underlying25 rfl s_25 rfl bx2023 rfl (wl_n (o_store (vs := [vI (0 : Int), vI (0 : Int), vI (0 : Int), Value.slice none 0 0, Value.slice none 0 0]) (.agg #[vI (0 : Int), vI (0 : Int), vI (0 : Int), Value.slice none 0 0, Value.slice none 0 0]) rfl rfl rfl s_25 (fun u hu => by simp only [List.mem_cons, List.not_mem_nil, or_false] at hu; rcases hu with rfl | rfl | rfl | rfl | rfl <;> first | rfl) (by repeat (first | assumption | constructor)) bx2023 (of_decide_eq_true rfl) s2039 fun w2372 s2373 m2374 k2375 bx2376 => (?_)))))
   have bx2007 := bx2007.keep k2375 (nin1 ne2025)
   have bx2031 := bx2031.keep k2375 (nin1 (Ne.symm ne2034))
   refine wl_n (o_store1 (vI (1 : Int)) rfl rfl rfl s_28 (by repeat (first | assumption | constructor)) bx2031 (of_decide_eq_true rfl) s2373 fun w2377 s2378 m2379 k2380 bx2381 => (?_))
   have bx2007 := bx2007.keep k2380 (nin1 ne2033)
   have bx2376 := bx2376.keep k2380 (nin1 ne2034)
   refine wl_nil (thenQ_n (?_))
   refine cw_ret (thenQ_r (endD_r rfl (resv2 rfl (rv_A (vs := [vI (0 : Int), vI (0 : Int), vI (0 : Int), Value.slice none 0 0, Value.slice none 0 0]) rfl Try.underlying25 rfl s_25 rfl bx2376 rfl) (rv_c rfl Try.underlying28 rfl rfl bx2381 rfl)) (both_r (?_))))
   refine wl_s (o_extract (Value.agg #[vI (0 : Int), vI (0 : Int), vI (0 : Int), Value.slice none 0 0, Value.slice none 0 0]) rfl rfl (wl_s (o_extract (vI (1 : Int)) rfl rfl (wl_n (o_store (vs := [vI (0 : Int), vI (0 : Int), vI (0 : Int), Value.slice none 0 0, Value.slice none 0 0]) (.agg #[vI (0 : Int), vI (0 : Int), vI (0 : Int), Value.slice none 0 0, Value.slice none 0 0]) rfl rfl rfl s_25 (fun u hu => by simp only [List.mem_cons, List.not_mem_nil, or_false] at hu; rcases hu with rfl | rfl | rfl | rfl | rfl <;> first | rfl) (by repeat (first | assumption | constructor)) bx2007 (of_decide_eq_true rfl) s2378 fun w2382 s2383 m2384 k2385 bx2386 => (?_))))))
   refine wl_s (o_assign (vI (1 : Int)) rfl (wl_nil (thenQ_n (?_))))
   refine cw_ret (end_r rfl (resv2 rfl (rv_A (vs := [vI (0 : Int), vI (0 : Int), vI (0 : Int), Value.slice none 0 0, Value.slice none 0 0]) rfl Try.underlying25 rfl s_25 rfl bx2386 rfl) (rv_t rfl rfl)) (?_))
   have e2387 : ((gAct c no (fFinish c day)).1) = (⟨(0 : Int), (0 : Int), (0 : Int), [], []⟩ : Circle) := by exact congrArg (fun p => p.1) (show gAct c no (fFinish c day) = _ from fin_no hok (by omega))
   have e2388 : ((gAct c no (fFinish c day)).2) = (1 : Int) := by exact congrArg (fun p => p.2) (show gAct c no (fFinish c day) = _ from fin_no hok (by omega))
   exact ⟨_, rfl, s2383.keep, by rw [e2387, e2388]; exact ⟨[vI (0 : Int), vI (0 : Int), vI (0 : Int), Value.slice none 0 0, Value.slice none 0 0], rfl, Enc.out (B := (b2026 :: (b2018 :: (b2002 :: [])))) ⟨.slice none 0 0, .slice none 0 0, rfl, (RdL.nil _ _ _), (RdL.nil _ _ _)⟩⟩⟩

end Go.Proofs.Ytpdekmknnpkmgaa
