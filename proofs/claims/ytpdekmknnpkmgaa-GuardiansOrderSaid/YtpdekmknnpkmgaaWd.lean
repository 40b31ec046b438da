/- Walks, printed by gen.py. -/
import Derived.Test.YtpdekmknnpkmgaaWo
set_option linter.unusedSimpArgs false
set_option linter.unusedVariables false
namespace Go.Proofs.Ytpdekmknnpkmgaa
open Go.Fw Go.RowKit

set_option maxHeartbeats 4000000 in
set_option maxRecDepth 100000 in
theorem c_veto {O : List Nat} (c_cs : List Value) (c : Circle) (no : Int) (day : Int) (w : World) (h_c : Enc.circle.rd w O c_cs c) (hO : ∀ b ∈ O, b < w.heap.size) : CallsK Try.prog 20 [.agg c_cs.toArray, vI no, vI day] w (fun v w' => ∃ (x0 : List Value), v = .tuple #[.agg x0.toArray, vI ((gAct c no (fVeto day)).2)] ∧ Enc.circle.rd w' (O) x0 ((gAct c no (fVeto day)).1)) :=  by
 have h_c : Enc.circle.rd w ([] ++ O) c_cs c := h_c
 have s0 : St w O w [] := St.start hO
 refine callsK_of 14 Try.func20 rfl rfl (of_decide_eq_true rfl) (fun F0 => ?_)
 refine cw_seq (?_)
 refine cw_region (by kernel_rfl) (wl_s (o_boxR (E := Enc.circle) (Value.agg c_cs.toArray) (c_cs) c rfl rfl h_c s0 fun a926 w927 s928 m929 k930 hp931 => (?_)))
 refine wl_s (o_boxR (E := Enc.int) (vI day) ([vI day]) day rfl rfl rfl s928 fun a932 w933 s934 m935 k936 hp937 => (?_))
 have hp931 := hp931.mv m935
 refine wl_s (o_alloc [vI (0 : Int), vI (0 : Int), vI (0 : Int), Value.slice none 0 0, Value.slice none 0 0] z_25 rfl s934 fun b938 w939 e944 s940 m941 k942 bx943 => (?_))
 clear e944
 have hp931 := hp931.mv m941
 have hp937 := hp937.mv m941
 refine wl_s (o_assign (vI (0 : Int)) rfl (wl_nil (thenQ_n (?_))))
 refine cw_seq (?_)
 refine cw_region (by kernel_rfl) (wl_s (o_loadS Try.underlying25 rfl s_25 rfl hp931 fun cs945 hs946 => (wl_s (o_move (vI no) rfl (wl_s (o_makeFunc (first := []) (captured := [.tmp 5]) [] [Value.pointer (some a932)] rfl rfl (wl_s (o_callX [Value.agg cs945.toArray, vI no, Value.func (.func 49) #[] #[Value.pointer (some a932)]] enter_37 rfl (calls_of_cwD 51 Try.func37 rfl rfl (of_decide_eq_true rfl) (fun F947 => ?_))))))))))
 refine cw_seq (?_)
 refine cw_region (by kernel_rfl) (wl_s (o_boxR (E := Enc.circle) (Value.agg cs945.toArray) (cs945) c rfl rfl hs946 s940 fun a948 w949 s950 m951 k952 hp953 => (?_)))
 have hp937 := hp937.mv m951
 have bx943 := bx943.keep k952 (by simp)
 refine wl_s (o_alloc [vI (0 : Int), vI (0 : Int), vI (0 : Int), Value.slice none 0 0, Value.slice none 0 0] z_25 rfl s950 fun b954 w955 e960 s956 m957 k958 bx959 => (?_))
 have ne961 : b938 ≠ b954 := by have := bx943.lt; omega
 clear e960
 have hp937 := hp937.mv m957
 have hp953 := hp953.mv m957
 have bx943 := bx943.keep k958 (by simp)
 refine wl_s (o_alloc [vI (0 : Int)] z_28 rfl s956 fun b962 w963 e968 s964 m965 k966 bx967 => (?_))
 have ne969 : b938 ≠ b962 := by have := bx943.lt; omega
 have ne970 : b954 ≠ b962 := by have := bx959.lt; omega
 clear e968
 have hp937 := hp937.mv m965
 have hp953 := hp953.mv m965
 have bx943 := bx943.keep k966 (by simp)
 have bx959 := bx959.keep k966 (by simp)
 refine wl_nil (thenQ_n (?_))
 refine cw_seq (?_)
 refine cw_seq (?_)
 refine cw_region (by kernel_rfl) (wl_s (o_loadS Try.underlying25 rfl s_25 rfl hp953 fun cs971 hs972 => (wl_s (o_callK (vs := [Value.agg cs971.toArray]) enter_16 (c_check (O := (b962 :: (b954 :: (b938 :: []))) ++ O) cs971 c w963 hs972 s964.lt) rfl s964 fun v973 w974 s975 m976 k977 r978 => (?_)))))
 obtain rfl := r978
 have hp937 := hp937.mv m976
 have hp953 := hp953.mv m976
 have bx943 := bx943.keep k977 (by simp)
 have bx959 := bx959.keep k977 (by simp)
 have bx967 := bx967.keep k977 (by simp)
 refine wl_s (o_assign (vI (gCheck c)) rfl (wl_nil (thenQ_n (?_))))
 refine cw_seq (?_)
 refine cw_region (by kernel_rfl) (wl_s (o_move (vI (gCheck c)) rfl (wl_s (o_neq .i64 (gCheck c) (0 : Int) rfl rfl (wl_nil (thenQ_n (?_)))))))
 refine cw_cond ((gCheck c) != (0 : Int)) rfl rfl (fun hc979 => ?_) (fun hc979 => ?_)
 ·have hp980 : gCheck c ≠ (0 : Int) := by first | simpa using hc979 | (have e := hc979; simp at e; omega)
  refine cw_seq (?_)
  refine cw_region (by kernel_rfl) (wl_s (o_loadBxA (vs := [vI (0 : Int), vI (0 : Int), vI (0 : Int), Value.slice none 0 0, Value.slice none 0 0]) Try.underlying25 rfl s_25 rfl bx959 rfl (wl_s (o_move (vI (gCheck c)) rfl (wl_n (o_store (vs := [vI (0 : Int), vI (0 : Int), vI (0 : Int), Value.slice none 0 0, Value.slice none 0 0]) (.agg #[vI (0 : Int), vI (0 : Int), vI (0 : Int), Value.slice none 0 0, Value.slice none 0 0]) rfl rfl rfl s_25 (fun u hu => by simp only [List.mem_cons, List.not_mem_nil, or_false] at hu; rcases hu with rfl | rfl | rfl | rfl | rfl <;> first | rfl) (by repeat (first | assumption | constructor)) bx959 (of_decide_eq_true rfl) s975 fun w981 s982 m983 k984 bx985 => (?_)))))))
  have bx943 := bx943.keep k984 (nin1 ne961)
  have bx967 := bx967.keep k984 (nin1 (Ne.symm ne970))
  refine wl_n (o_store1 (vI (gCheck c)) rfl rfl rfl s_28 (by repeat (first | assumption | constructor)) bx967 (of_decide_eq_true rfl) s982 fun w986 s987 m988 k989 bx990 => (?_))
  have bx943 := bx943.keep k989 (nin1 ne969)
  have bx985 := bx985.keep k989 (nin1 ne970)
  refine wl_nil (thenQ_n (?_))
  refine cw_ret (thenQ_r (endD_r rfl (resv2 rfl (rv_A (vs := [vI (0 : Int), vI (0 : Int), vI (0 : Int), Value.slice none 0 0, Value.slice none 0 0]) rfl Try.underlying25 rfl s_25 rfl bx985 rfl) (rv_c rfl Try.underlying28 rfl rfl bx990 rfl)) (both_r (?_))))
  refine wl_s (o_extract (Value.agg #[vI (0 : Int), vI (0 : Int), vI (0 : Int), Value.slice none 0 0, Value.slice none 0 0]) rfl rfl (wl_s (o_extract (vI (gCheck c)) rfl rfl (wl_n (o_store (vs := [vI (0 : Int), vI (0 : Int), vI (0 : Int), Value.slice none 0 0, Value.slice none 0 0]) (.agg #[vI (0 : Int), vI (0 : Int), vI (0 : Int), Value.slice none 0 0, Value.slice none 0 0]) rfl rfl rfl s_25 (fun u hu => by simp only [List.mem_cons, List.not_mem_nil, or_false] at hu; rcases hu with rfl | rfl | rfl | rfl | rfl <;> first | rfl) (by repeat (first | assumption | constructor)) bx943 (of_decide_eq_true rfl) s987 fun w991 s992 m993 k994 bx995 => (?_))))))
  refine wl_s (o_assign (vI (gCheck c)) rfl (wl_nil (thenQ_n (?_))))
  refine cw_ret (end_r rfl (resv2 rfl (rv_A (vs := [vI (0 : Int), vI (0 : Int), vI (0 : Int), Value.slice none 0 0, Value.slice none 0 0]) rfl Try.underlying25 rfl s_25 rfl bx995 rfl) (rv_t rfl rfl)) (?_))
  have e996 : ((gAct c no (fVeto day)).1) = (⟨(0 : Int), (0 : Int), (0 : Int), [], []⟩ : Circle) := by exact congrArg (fun p => p.1) (show gAct c no (fVeto day) = _ from veto_bad (by assumption))
  have e997 : ((gAct c no (fVeto day)).2) = (gCheck c) := by exact congrArg (fun p => p.2) (show gAct c no (fVeto day) = _ from veto_bad (by assumption))
  exact ⟨_, rfl, s992.keep, by rw [e996, e997]; exact ⟨[vI (0 : Int), vI (0 : Int), vI (0 : Int), Value.slice none 0 0, Value.slice none 0 0], rfl, Enc.out (B := (b962 :: (b954 :: (b938 :: [])))) ⟨.slice none 0 0, .slice none 0 0, rfl, (RdL.nil _ _ _), (RdL.nil _ _ _)⟩⟩⟩
 ·have hp998 : gCheck c = (0 : Int) := by first | simpa using hc979 | (have e := hc979; simp at e; omega)
  have hok : gCheck c = 0 := hp998
  have hrl := recs_le hok
  refine cw_skip (thenQ_n (?_))
  refine cw_seq (?_)
  refine cw_seq (?_)
  refine cw_region (by kernel_rfl) (wl_s (o_move (vI no) rfl (wl_s (o_lss .i64 no (0 : Int) rfl rfl (wl_s (o_move (Value.bool (decide (no < (0 : Int)))) rfl (?_)))))))
  cases hb999 : (decide (no < (0 : Int)))
  ·have hp1000 : (0 : Int) ≤ no := by first | simpa using hb999 | (have e := hb999; simp at e; omega)
   refine wl_t rfl (o_move (vI no) rfl (wl_t rfl (o_fieldR 4 f_25_4 (c.recs) rfl hp953 (fun _ _ _ h => Enc_circle_f4 h) fun a1001 hp1002 => (wl_t rfl (o_loadL Try.underlying23 rfl rfl hp1002 fun v1003 hl1004 => (?_))))))
   have := hl1004.len_le
   refine wl_t rfl (o_lenR Try.underlying23 rfl hl1004 (wl_t rfl (o_geq .i64 no (c.recs.length : Int) rfl rfl (wl_s (o_pickF (Value.bool (decide ((c.recs.length : Int) ≤ no))) rfl rfl (wl_nil (thenQ_n (?_))))))))
   refine cw_cond (decide ((c.recs.length : Int) ≤ no)) rfl rfl (fun hc1005 => ?_) (fun hc1005 => ?_)
   ·have hp1006 : (c.recs.length : Int) ≤ no := by first | simpa using hc1005 | (have e := hc1005; simp at e; omega)
    refine cw_seq (?_)
    refine cw_region (by kernel_rfl) (wl_s (o_loadBxA (vs := [vI (0 : Int), vI (0 : Int), vI (0 : Int), Value.slice none 0 0, Value.slice none 0 0]) Try.underlying25 rfl s_25 rfl bx959 rfl (wl_n (o_store (vs := [vI (0 : Int), vI (0 : Int), vI (0 : Int), Value.slice none 0 0, Value.slice none 0 0]) (.agg #[vI (0 : Int), vI (0 : Int), vI (0 : Int), Value.slice none 0 0, Value.slice none 0 0]) rfl rfl rfl s_25 (fun u hu => by simp only [List.mem_cons, List.not_mem_nil, or_false] at hu; rcases hu with rfl | rfl | rfl | rfl | rfl <;> first | rfl) (by repeat (first | assumption | constructor)) bx959 (of_decide_eq_true rfl) s975 fun w1007 s1008 m1009 k1010 bx1011 => (?_)))))
    have bx943 := bx943.keep k1010 (nin1 ne961)
    have bx967 := bx967.keep k1010 (nin1 (Ne.symm ne970))
    refine wl_n (o_store1 (vI (1 : Int)) rfl rfl rfl s_28 (by repeat (first | assumption | constructor)) bx967 (of_decide_eq_true rfl) s1008 fun w1012 s1013 m1014 k1015 bx1016 => (?_))
    have bx943 := bx943.keep k1015 (nin1 ne969)
    have bx1011 := bx1011.keep k1015 (nin1 ne970)
    refine wl_nil (thenQ_n (?_))
    refine cw_ret (thenQ_r (endD_r rfl (resv2 rfl (rv_A (vs := [vI (0 : Int), vI (0 : Int), vI (0 : Int), Value.slice none 0 0, Value.slice none 0 0]) rfl Try.underlying25 rfl s_25 rfl bx1011 rfl) (rv_c rfl Try.underlying28 rfl rfl bx1016 rfl)) (both_r (?_))))
    refine wl_s (o_extract (Value.agg #[vI (0 : Int), vI (0 : Int), vI (0 : Int), Value.slice none 0 0, Value.slice none 0 0]) rfl rfl (wl_s (o_extract (vI (1 : Int)) rfl rfl (wl_n (o_store (vs := [vI (0 : Int), vI (0 : Int), vI (0 : Int), Value.slice none 0 0, Value.slice none 0 0]) (.agg #[vI (0 : Int), vI (0 : Int), vI (0 : Int), Value.slice none 0 0, Value.slice none 0 0]) rfl rfl rfl s_25 (fun u hu => by simp only [List.mem_cons, List.not_mem_nil, or_false] at hu; rcases hu with rfl | rfl | rfl | rfl | rfl <;> first | rfl) (by repeat (first | assumption | constructor)) bx943 (of_decide_eq_true rfl) s1013 fun w1017 s1018 m1019 k1020 bx1021 => (?_))))))
    refine wl_s (o_assign (vI (1 : Int)) rfl (wl_nil (thenQ_n (?_))))
    refine cw_ret (end_r rfl (resv2 rfl (rv_A (vs := [vI (0 : Int), vI (0 : Int), vI (0 : Int), Value.slice none 0 0, Value.slice none 0 0]) rfl Try.underlying25 rfl s_25 rfl bx1021 rfl) (rv_t rfl rfl)) (?_))
    have e1022 : ((gAct c no (fVeto day)).1) = (⟨(0 : Int), (0 : Int), (0 : Int), [], []⟩ : Circle) := by first | exact congrArg (fun p => p.1) (show gAct c no (fVeto day) = _ from veto_no hok (by omega)) | exact congrArg (fun p => p.1) (show gAct c no (fVeto day) = _ from veto_day hok (by omega) (by omega) (by assumption))
    have e1023 : ((gAct c no (fVeto day)).2) = (1 : Int) := by first | exact congrArg (fun p => p.2) (show gAct c no (fVeto day) = _ from veto_no hok (by omega)) | exact congrArg (fun p => p.2) (show gAct c no (fVeto day) = _ from veto_day hok (by omega) (by omega) (by assumption))
    exact ⟨_, rfl, s1018.keep, by rw [e1022, e1023]; exact ⟨[vI (0 : Int), vI (0 : Int), vI (0 : Int), Value.slice none 0 0, Value.slice none 0 0], rfl, Enc.out (B := (b962 :: (b954 :: (b938 :: [])))) ⟨.slice none 0 0, .slice none 0 0, rfl, (RdL.nil _ _ _), (RdL.nil _ _ _)⟩⟩⟩
   ·have hp1024 : no < (c.recs.length : Int) := by first | simpa using hc1005 | (have e := hc1005; simp at e; omega)
    refine cw_skip (thenQ_n (?_))
    refine cw_seq (?_)
    refine cw_defer [Value.pointer (some ⟨b954, 0, none⟩), Value.pointer (some ⟨b962, 0, none⟩)] rfl rfl rfl rfl (thenQ_n (?_))
    refine cw_seq (?_)
    refine cw_region (by kernel_rfl) (wl_s (o_fieldR 4 f_25_4 (c.recs) rfl hp953 (fun _ _ _ h => Enc_circle_f4 h) fun a1025 hp1026 => (wl_s (o_loadL Try.underlying23 rfl rfl hp1026 fun v1027 hl1028 => (?_)))))
    have := hl1028.len_le
    refine wl_s (o_move (vI no) rfl (wl_s (o_idx Try.underlying23 s_47 .i64 no no.toNat rfl rfl (by omega) hl1028 (by first | omega | (simp; omega)) fun a1029 hp1030 => (wl_s (o_loadS Try.underlying47 rfl s_47 rfl hp1030 fun cs1031 hs1032 => (?_))))))
    obtain ⟨d1033, d1035, rfl, hd1034, hd1036⟩ := hs1032
    have := hd1034.len_le
    have := hd1036.len_le
    refine wl_s (o_build (l := [(0, .tmp 31)]) pl_74 z_74 rfl [(0, Value.agg #[vI ((c.recs[no.toNat]!).no), vI ((c.recs[no.toNat]!).asked), vI ((c.recs[no.toNat]!).state), d1033, d1035], [vI ((c.recs[no.toNat]!).no), vI ((c.recs[no.toNat]!).asked), vI ((c.recs[no.toNat]!).state), d1033, d1035])] [vI ((c.recs[no.toNat]!).no), vI ((c.recs[no.toNat]!).asked), vI ((c.recs[no.toNat]!).state), d1033, d1035] rfl ⟨_, rfl, rfl, (of_decide_eq_true rfl), rfl⟩ (wl_s (o_box (Value.agg #[vI ((c.recs[no.toNat]!).no), vI ((c.recs[no.toNat]!).asked), vI ((c.recs[no.toNat]!).state), d1033, d1035]) [vI ((c.recs[no.toNat]!).no), vI ((c.recs[no.toNat]!).asked), vI ((c.recs[no.toNat]!).state), d1033, d1035] rfl rfl s975 fun b1037 w1038 e1043 s1039 m1040 k1041 bx1042 => (?_))))
    have ne1044 : b938 ≠ b1037 := by have := bx943.lt; omega
    have ne1045 : b954 ≠ b1037 := by have := bx959.lt; omega
    have ne1046 : b962 ≠ b1037 := by have := bx967.lt; omega
    clear e1043
    have hp937 := hp937.mv m1040
    have hp953 := hp953.mv m1040
    have hd1034 := hd1034.mv m1040
    have hd1036 := hd1036.mv m1040
    have bx943 := bx943.keep k1041 (by simp)
    have bx959 := bx959.keep k1041 (by simp)
    have bx967 := bx967.keep k1041 (by simp)
    refine wl_s (o_assign (Value.pointer (some ⟨b1037, 0, none⟩)) rfl (wl_nil (thenQ_n (?_))))
    refine cw_seq (?_)
    refine cw_region (by kernel_rfl) (wl_s (o_move (Value.func (.func 49) #[] #[Value.pointer (some a932)]) rfl (wl_s (o_move (Value.pointer (some ⟨b1037, 0, none⟩)) rfl (wl_s (o_callvX [] [Value.pointer (some a932)] [Value.pointer (some ⟨b1037, 0, none⟩)] enter_49 rfl rfl (calls_of_cw 18 Try.func49 rfl rfl (of_decide_eq_true rfl) (fun F1047 => ?_))))))))
    refine cw_seq (?_)
    refine cw_region (by kernel_rfl) (wl_s (o_box (Value.pointer (some ⟨b1037, 0, none⟩)) [Value.pointer (some ⟨b1037, 0, none⟩)] rfl rfl s1039 fun b1048 w1049 e1054 s1050 m1051 k1052 bx1053 => (?_)))
    have ne1055 : b938 ≠ b1048 := by have := bx943.lt; omega
    have ne1056 : b954 ≠ b1048 := by have := bx959.lt; omega
    have ne1057 : b962 ≠ b1048 := by have := bx967.lt; omega
    have ne1058 : b1037 ≠ b1048 := by have := bx1042.lt; omega
    clear e1054
    have hp937 := hp937.mv m1051
    have hp953 := hp953.mv m1051
    have hd1034 := hd1034.mv m1051
    have hd1036 := hd1036.mv m1051
    have bx943 := bx943.keep k1052 (by simp)
    have bx959 := bx959.keep k1052 (by simp)
    have bx967 := bx967.keep k1052 (by simp)
    have bx1042 := bx1042.keep k1052 (by simp)
    refine wl_nil (thenQ_n (?_))
    refine cw_seq (?_)
    refine cw_draw' 8 _ _ [isV (Value.pointer (some ⟨b1037, 0, none⟩)), isV (vI day), isV (Value.pointer (some ⟨b1037, 0, none⟩)), isV (Value.pointer (some ⟨b1037, 0, none⟩)), isV (Value.pointer (some ⟨b1037, 0, none⟩)), isV (Value.pointer (some ⟨b1037, 1, none⟩)), isV (vI ((c.recs[no.toNat]!).asked)), isV (Value.bool (isDayM day ((c.recs[no.toNat]!).asked)))] (by kernel_rfl) (by kernel_rfl) (by kernel_rfl) (by kernel_rfl) rfl rfl ⟨kI, kI, kI, kI, kI, kI, kI, kI, trivial⟩ ⟨?_, ?_, ?_, ?_, ?_, ?_, ?_, ?_, trivial⟩ ?_
    ·intro F1 w1 k1 hf hd
     have k0 := (Keep.drew [] w1049).trans k1
     have bx1053 := bx1053.keep k0 (by simp)
     obtain ⟨F2, rfl⟩ := lit_of (F := F1) [(2, Value.pointer (some ⟨b1048, 0, none⟩))] ⟨hf 2 (by kernel_rfl), trivial⟩
     exact sp_plain rfl ((o_loadBx Try.underlying64 rfl (Value.pointer (some ⟨b1037, 0, none⟩)) rfl bx1053 rfl (⟨(Keep.refl _ _), rfl⟩)))
    ·intro F1 w1 k1 hf hd
     have k0 := (Keep.drew [] w1049).trans k1
     have m1 : Mv (b1048 :: (b1037 :: (b962 :: (b954 :: (b938 :: []))))) w1049 (b1048 :: (b1037 :: (b962 :: (b954 :: (b938 :: []))))) w1 := Mv.of_keep k0
     have hp937 := hp937.mv m1
     obtain ⟨F2, rfl⟩ := lit_of (F := F1) [(1, Value.pointer (some a932))] ⟨hf 1 (by kernel_rfl), trivial⟩
     exact sp_plain rfl ((o_loadI Try.underlying3 rfl rfl hp937 (⟨(Keep.refl _ _), rfl⟩)))
    ·intro F1 w1 k1 hf hd
     have k0 := (Keep.drew [] w1049).trans k1
     have bx1053 := bx1053.keep k0 (by simp)
     obtain ⟨F2, rfl⟩ := lit_of (F := F1) [(2, Value.pointer (some ⟨b1048, 0, none⟩))] ⟨hf 2 (by kernel_rfl), trivial⟩
     exact sp_plain rfl ((o_loadBx Try.underlying64 rfl (Value.pointer (some ⟨b1037, 0, none⟩)) rfl bx1053 rfl (⟨(Keep.refl _ _), rfl⟩)))
    ·intro F1 w1 k1 hf hd
     obtain ⟨F2, rfl⟩ := lit_of (F := F1) [(5, Value.pointer (some ⟨b1037, 0, none⟩))] ⟨hd 2 5 (by kernel_rfl), trivial⟩
     exact sp_plain rfl ((o_nilCheck ⟨b1037, 0, none⟩ rfl (⟨(Keep.refl _ _), rfl⟩)))
    ·intro F1 w1 k1 hf hd
     obtain ⟨F2, rfl⟩ := lit_of (F := F1) [(6, Value.pointer (some ⟨b1037, 0, none⟩))] ⟨hd 3 6 (by kernel_rfl), trivial⟩
     exact sp_plain rfl ((o_fieldL 0 f_74_0 rfl (⟨(Keep.refl _ _), rfl⟩)))
    ·intro F1 w1 k1 hf hd
     obtain ⟨F2, rfl⟩ := lit_of (F := F1) [(7, Value.pointer (some ⟨b1037, 0, none⟩))] ⟨hd 4 7 (by kernel_rfl), trivial⟩
     exact sp_plain rfl ((o_fieldL 1 f_47_1 rfl (⟨(Keep.refl _ _), rfl⟩)))
    ·intro F1 w1 k1 hf hd
     have k0 := (Keep.drew [] w1049).trans k1
     have bx1042 := bx1042.keep k0 (by simp)
     obtain ⟨F2, rfl⟩ := lit_of (F := F1) [(8, Value.pointer (some ⟨b1037, 1, none⟩))] ⟨hd 5 8 (by kernel_rfl), trivial⟩
     exact sp_plain rfl ((o_loadBx Try.underlying3 rfl (vI ((c.recs[no.toNat]!).asked)) rfl bx1042 rfl (⟨(Keep.refl _ _), rfl⟩)))
    ·intro F1 w1 k1 hf hd
     have k0 := (Keep.drew [] w1049).trans k1
     have s1 := s1050.call k0
     obtain ⟨F2, rfl⟩ := lit_of (F := F1) [(4, vI day), (9, vI ((c.recs[no.toNat]!).asked))] ⟨hd 1 4 (by kernel_rfl), hd 6 9 (by kernel_rfl), trivial⟩
     refine sp_plain rfl ((o_callK (vs := [vI day, vI ((c.recs[no.toNat]!).asked)]) enter_30 (c_isDay (O := (b1048 :: (b1037 :: (b962 :: (b954 :: (b938 :: []))))) ++ O) day ((c.recs[no.toNat]!).asked) w1 s1.lt) rfl s1 fun v1059 w1060 s1061 m1062 k1063 r1064 => (?_)))
     obtain rfl := r1064
     exact ⟨k1063, rfl⟩
    intro F1066 w1067 k1065 hT1068 hF1069
    have s1070 := s1050.call k1065
    have m1071 : Mv (b1048 :: (b1037 :: (b962 :: (b954 :: (b938 :: []))))) w1049 (b1048 :: (b1037 :: (b962 :: (b954 :: (b938 :: []))))) w1067 := Mv.of_keep k1065
    have hp937 := hp937.mv m1071
    have hp953 := hp953.mv m1071
    have hd1034 := hd1034.mv m1071
    have hd1036 := hd1036.mv m1071
    have bx943 := bx943.keep k1065 (by simp)
    have bx959 := bx959.keep k1065 (by simp)
    have bx967 := bx967.keep k1065 (by simp)
    have bx1042 := bx1042.keep k1065 (by simp)
    have bx1053 := bx1053.keep k1065 (by simp)
    obtain ⟨F2, rfl⟩ := lit_of (F := F1066) [(1, Value.pointer (some a932)), (2, Value.pointer (some ⟨b1048, 0, none⟩)), (18, undef), (3, Value.pointer (some ⟨b1037, 0, none⟩)), (10, Value.bool (isDayM day ((c.recs[no.toNat]!).asked)))] ⟨hF1069 1 (by kernel_rfl), hF1069 2 (by kernel_rfl), hF1069 18 (by kernel_rfl), hT1068 0 3 (by kernel_rfl) (by decide), hT1068 7 10 (by kernel_rfl) (by decide), trivial⟩
    clear hT1068 hF1069
    refine wl_s (o_callX [Value.pointer (some ⟨b1037, 0, none⟩), Value.bool (isDayM day ((c.recs[no.toNat]!).asked)), vI (1 : Int)] enter_41 rfl (calls_of_cw 11 Try.func41 rfl rfl (of_decide_eq_true rfl) (fun F1073 => ?_)))
    refine cw_seq (?_)
    refine cw_region (by kernel_rfl) (wl_s (o_move (Value.bool (isDayM day ((c.recs[no.toNat]!).asked))) rfl (wl_s (o_not (isDayM day ((c.recs[no.toNat]!).asked)) rfl (wl_nil (thenQ_n (?_)))))))
    refine cw_cond (!(isDayM day ((c.recs[no.toNat]!).asked))) rfl rfl (fun hc1074 => ?_) (fun hc1074 => ?_)
    ·have hp1075 : (isDayM day ((c.recs[no.toNat]!).asked)) = false := by first | simpa using hc1074 | (have e := hc1074; simp at e; omega)
     refine cw_region (by kernel_rfl) (wl_s (o_move (vI (1 : Int)) rfl (wl_s (o_build (l := [(0, .tmp 8)]) pl_78 z_78 rfl [(0, vI (1 : Int), [vI (1 : Int)])] [vI (1 : Int)] rfl ⟨_, rfl, rfl, (of_decide_eq_true rfl), rfl⟩ (wl_s (o_iface (Value.agg #[vI (1 : Int)]) Try.underlying78 rfl rfl (wl_n (o_panic rfl (end_p rfl (both_p (?_)))))))))))
     refine thenQ_p (end_p rfl (both_p (?_)))
     refine thenQ_p (endD_pl (leave_con [Value.pointer (some ⟨b954, 0, none⟩), Value.pointer (some ⟨b962, 0, none⟩)] (.panicking [{ v := Value.iface 78 (Value.agg #[vI (1 : Int)]), recovered := false }]) rfl (fun h => by cases h) rfl enter_59 (c_on1p (1 : Int) b954 b962 s1070 bx959 bx967 (by repeat (first | assumption | constructor)) (by repeat (first | assumption | constructor)) ne970) (fun e_ w1076 hR_ => ?_)))
     obtain ⟨v_, rfl, s1077, m1078, k1079, bx1080, bx1081⟩ := hR_
     have bx943 := bx943.keep k1079 (nin2 ne961 ne969)
     refine Exists.intro _ (And.intro (resv2 rfl (rv_A (vs := [vI (0 : Int), vI (0 : Int), vI (0 : Int), Value.slice none 0 0, Value.slice none 0 0]) rfl Try.underlying25 rfl s_25 rfl bx1080 rfl) (rv_c rfl Try.underlying28 rfl rfl bx1081 rfl)) (both_r (?_)))
     refine wl_s (o_extract (Value.agg #[vI (0 : Int), vI (0 : Int), vI (0 : Int), Value.slice none 0 0, Value.slice none 0 0]) rfl rfl (wl_s (o_extract (vI (1 : Int)) rfl rfl (wl_n (o_store (vs := [vI (0 : Int), vI (0 : Int), vI (0 : Int), Value.slice none 0 0, Value.slice none 0 0]) (.agg #[vI (0 : Int), vI (0 : Int), vI (0 : Int), Value.slice none 0 0, Value.slice none 0 0]) rfl rfl rfl s_25 (fun u hu => by simp only [List.mem_cons, List.not_mem_nil, or_false] at hu; rcases hu with rfl | rfl | rfl | rfl | rfl <;> first | rfl) (by repeat (first | assumption | constructor)) bx943 (of_decide_eq_true rfl) s1077 fun w1082 s1083 m1084 k1085 bx1086 => (?_))))))
     refine wl_s (o_assign (vI (1 : Int)) rfl (wl_nil (thenQ_n (?_))))
     refine cw_ret (end_r rfl (resv2 rfl (rv_A (vs := [vI (0 : Int), vI (0 : Int), vI (0 : Int), Value.slice none 0 0, Value.slice none 0 0]) rfl Try.underlying25 rfl s_25 rfl bx1086 rfl) (rv_t rfl rfl)) (?_))
     have e1087 : ((gAct c no (fVeto day)).1) = (⟨(0 : Int), (0 : Int), (0 : Int), [], []⟩ : Circle) := by first | exact congrArg (fun p => p.1) (show gAct c no (fVeto day) = _ from veto_no hok (by omega)) | exact congrArg (fun p => p.1) (show gAct c no (fVeto day) = _ from veto_day hok (by omega) (by omega) (by assumption))
     have e1088 : ((gAct c no (fVeto day)).2) = (1 : Int) := by first | exact congrArg (fun p => p.2) (show gAct c no (fVeto day) = _ from veto_no hok (by omega)) | exact congrArg (fun p => p.2) (show gAct c no (fVeto day) = _ from veto_day hok (by omega) (by omega) (by assumption))
     exact ⟨_, rfl, s1083.keep, by rw [e1087, e1088]; exact ⟨[vI (0 : Int), vI (0 : Int), vI (0 : Int), Value.slice none 0 0, Value.slice none 0 0], rfl, Enc.out (B := (b1048 :: (b1037 :: (b962 :: (b954 :: (b938 :: [])))))) ⟨.slice none 0 0, .slice none 0 0, rfl, (RdL.nil _ _ _), (RdL.nil _ _ _)⟩⟩⟩
    ·have hp1089 : (isDayM day ((c.recs[no.toNat]!).asked)) = true := by first | simpa using hc1074 | (have e := hc1074; simp at e; omega)
     refine cw_skip (end_n rfl (res0 rfl) (both_r (?_)))
     refine wl_nil (thenQ_n (?_))
     refine cw_region (by kernel_rfl) (wl_s (o_loadBx Try.underlying64 rfl (Value.pointer (some ⟨b1037, 0, none⟩)) rfl bx1053 rfl (wl_s (o_makeMapF s1070 fun b1090 w1091 e1096 s1092 m1093 k1094 bx1095 => (?_)))))
     have ne1097 : b938 ≠ b1090 := by have := bx943.lt; omega
     have ne1098 : b954 ≠ b1090 := by have := bx959.lt; omega
     have ne1099 : b962 ≠ b1090 := by have := bx967.lt; omega
     have ne1100 : b1037 ≠ b1090 := by have := bx1042.lt; omega
     have ne1101 : b1048 ≠ b1090 := by have := bx1053.lt; omega
     clear e1096
     have hp937 := hp937.mv m1093
     have hp953 := hp953.mv m1093
     have hd1034 := hd1034.mv m1093
     have hd1036 := hd1036.mv m1093
     have bx943 := bx943.keep k1094 (by simp)
     have bx959 := bx959.keep k1094 (by simp)
     have bx967 := bx967.keep k1094 (by simp)
     have bx1042 := bx1042.keep k1094 (by simp)
     have bx1053 := bx1053.keep k1094 (by simp)
     refine wl_s (o_makeFunc (first := []) (captured := [.tmp 2]) [] [Value.pointer (some ⟨b1048, 0, none⟩)] rfl rfl (wl_n (o_insertF Try.underlying68 Try.underlying3 rfl rfl rfl bx1095 (by repeat (first | assumption | constructor)) s1092 rfl fun w1102 s1103 m1104 k1105 bx1106 => (?_))))
     have hp937 := hp937.mv m1104
     have hp953 := hp953.mv m1104
     have hd1034 := hd1034.mv m1104
     have hd1036 := hd1036.mv m1104
     have bx943 := bx943.keep k1105 (nin1 ne1097)
     have bx959 := bx959.keep k1105 (nin1 ne1098)
     have bx967 := bx967.keep k1105 (nin1 ne1099)
     have bx1042 := bx1042.keep k1105 (nin1 ne1100)
     have bx1053 := bx1053.keep k1105 (nin1 ne1101)
     refine wl_s (o_makeFunc (first := []) (captured := [.tmp 2, .tmp 1]) [] [Value.pointer (some ⟨b1048, 0, none⟩), Value.pointer (some a932)] rfl rfl (wl_n (o_insertF Try.underlying68 Try.underlying3 rfl rfl rfl bx1106 (by repeat (first | assumption | constructor)) s1103 rfl fun w1107 s1108 m1109 k1110 bx1111 => (?_))))
     have hp937 := hp937.mv m1109
     have hp953 := hp953.mv m1109
     have hd1034 := hd1034.mv m1109
     have hd1036 := hd1036.mv m1109
     have bx943 := bx943.keep k1110 (nin1 ne1097)
     have bx959 := bx959.keep k1110 (nin1 ne1098)
     have bx967 := bx967.keep k1110 (nin1 ne1099)
     have bx1042 := bx1042.keep k1110 (nin1 ne1100)
     have bx1053 := bx1053.keep k1110 (nin1 ne1101)
     refine wl_s (o_move (Value.map (some b1090)) rfl (wl_s (o_callX [Value.pointer (some ⟨b1037, 0, none⟩), Value.map (some b1090)] enter_39 rfl (calls_of_cw 19 Try.func39 rfl rfl (of_decide_eq_true rfl) (fun F1112 => ?_)))))
     refine cw_seq (?_)
     refine cw_region (by kernel_rfl) (wl_s (o_move (Value.map (some b1090)) rfl (wl_s (o_move (Value.pointer (some ⟨b1037, 0, none⟩)) rfl (wl_s (o_nilCheck ⟨b1037, 0, none⟩ rfl (wl_s (o_fieldL 0 f_74_0 rfl (wl_s (o_fieldL 2 f_47_2 rfl (wl_s (o_loadBx Try.underlying3 rfl (vI ((c.recs[no.toNat]!).state)) rfl bx1042 rfl (?_)))))))))))))
     rcases (state_cases hok (by omega) (by omega) : (c.recs[no.toNat]!).state = 0 ∨ (c.recs[no.toNat]!).state = 1 ∨ (c.recs[no.toNat]!).state = 2) with hs1113 | hs1113 | hs1113
     ·refine wl_s (o_lookupF (k := 0) (Value.func (.func 51) #[] #[Value.pointer (some ⟨b1048, 0, none⟩), Value.pointer (some a932)]) Try.underlying68 Try.underlying3 rfl (congrArg vI hs1113) bx1111 rfl (wl_s (o_move (Value.tuple #[Value.func (.func 51) #[] #[Value.pointer (some ⟨b1048, 0, none⟩), Value.pointer (some a932)], Value.bool true]) rfl (wl_s (o_extract (Value.func (.func 51) #[] #[Value.pointer (some ⟨b1048, 0, none⟩), Value.pointer (some a932)]) rfl rfl (wl_s (o_extract (Value.bool true) rfl rfl (wl_s (o_assign (Value.func (.func 51) #[] #[Value.pointer (some ⟨b1048, 0, none⟩), Value.pointer (some a932)]) rfl (wl_s (o_assign (Value.bool true) rfl (wl_nil (thenQ_n (?_))))))))))))))
      refine cw_seq (?_)
      refine cw_region (by kernel_rfl) (wl_s (o_move (Value.bool true) rfl (wl_nil (thenQ_n (?_)))))
      refine cw_cond true rfl rfl (fun _ => ?_) (fun h => by cases h)
      refine cw_region (by kernel_rfl) (wl_s (o_move (Value.func (.func 51) #[] #[Value.pointer (some ⟨b1048, 0, none⟩), Value.pointer (some a932)]) rfl (wl_s (o_callvX [] [Value.pointer (some ⟨b1048, 0, none⟩), Value.pointer (some a932)] [] enter_51 rfl rfl (calls_of_cw 5 Try.func51 rfl rfl (of_decide_eq_true rfl) (fun F1114 => ?_))))))
      refine cw_region (by kernel_rfl) (wl_s (o_loadBx Try.underlying64 rfl (Value.pointer (some ⟨b1037, 0, none⟩)) rfl bx1053 rfl (wl_s (o_loadI Try.underlying3 rfl rfl hp937 (wl_s (o_call [Value.pointer (some ⟨b1037, 0, none⟩), vI day] _ enter_52 rfl (calls_of_cw 14 Try.func52 rfl rfl (of_decide_eq_true rfl) (fun F1115 => ?_)) (fun _ _ h => h)))))))
      refine cw_region (by kernel_rfl) (wl_s (o_move (Value.pointer (some ⟨b1037, 0, none⟩)) rfl (wl_s (o_move (Value.pointer (some ⟨b1037, 0, none⟩)) rfl (wl_s (o_move (vI day) rfl (wl_s (o_lit (E := Enc.int) (xs := [.tmp 6]) Try.underlying22 s_3 z_3 (by decide) [vI day] [[vI day]] [day] rfl rfl rfl (Parts.cons rfl rfl (Parts.nil _ _ _)) (of_decide_eq_true rfl) s1108 fun v1120 w1116 s1117 m1118 k1119 hl1121 => (?_)))))))))
      have hp953 := hp953.mv m1118
      have hd1034 := hd1034.mv m1118
      have bx943 := bx943.keep k1119 (by simp)
      have bx959 := bx959.keep k1119 (by simp)
      have bx967 := bx967.keep k1119 (by simp)
      have bx1042 := bx1042.keep k1119 (by simp)
      have bx1053 := bx1053.keep k1119 (by simp)
      have bx1111 := bx1111.keep k1119 (by simp)
      have := hl1121.len_le
      refine wl_s (o_nilCheck ⟨b1037, 0, none⟩ rfl (wl_s (o_fieldL 0 f_74_0 rfl (wl_s (o_fieldL 2 f_47_2 rfl (wl_n (o_store1 (vI (2 : Int)) rfl rfl rfl s_3 (by repeat (first | assumption | constructor)) bx1042 (of_decide_eq_true rfl) s1117 fun w1122 s1123 m1124 k1125 bx1126 => (?_))))))))
      have hl1121 := hl1121.mv m1124
      have hp953 := hp953.mv m1124
      have hd1034 := hd1034.mv m1124
      have bx943 := bx943.keep k1125 (nin1 ne1044)
      have bx959 := bx959.keep k1125 (nin1 ne1045)
      have bx967 := bx967.keep k1125 (nin1 ne1046)
      have bx1053 := bx1053.keep k1125 (nin1 (Ne.symm ne1058))
      have bx1111 := bx1111.keep k1125 (nin1 (Ne.symm ne1100))
      refine wl_s (o_nilCheck ⟨b1037, 0, none⟩ rfl (wl_s (o_fieldL 0 f_74_0 rfl (wl_s (o_fieldL 4 f_47_4 rfl (wl_n (o_store1 (v1120) rfl rfl hl1121.oneCell s_22 (by repeat (first | assumption | constructor)) bx1126 (of_decide_eq_true rfl) s1123 fun w1127 s1128 m1129 k1130 bx1131 => (?_))))))))
      have hl1121 := hl1121.mv m1129
      have hp953 := hp953.mv m1129
      have hd1034 := hd1034.mv m1129
      have bx943 := bx943.keep k1130 (nin1 ne1044)
      have bx959 := bx959.keep k1130 (nin1 ne1045)
      have bx967 := bx967.keep k1130 (nin1 ne1046)
      have bx1053 := bx1053.keep k1130 (nin1 (Ne.symm ne1058))
      have bx1111 := bx1111.keep k1130 (nin1 (Ne.symm ne1100))
      refine wl_nil (end_n rfl (res0 rfl) (Exists.intro _ (And.intro rfl (?_))))
      refine wl_nil (end_n rfl (res0 rfl) (both_r (?_)))
      refine wl_nil (end_n rfl (res0 rfl) (both_r (?_)))
      refine wl_nil (end_n rfl (res0 rfl) (both_r (?_)))
      refine wl_nil (thenQ_n (?_))
      refine cw_seq (?_)
      refine cw_region (by kernel_rfl) (wl_s (o_loadS Try.underlying25 rfl s_25 rfl hp953 fun cs1132 hs1133 => (?_)))
      obtain ⟨d1139, d1141, rfl, hd1140, hd1142⟩ := hs1133
      have := hd1140.len_le
      have := hd1142.len_le
      refine wl_n (o_store (vs := [vI c.epoch, vI c.threshold, vI c.wait, d1139, d1141]) (.agg #[vI c.epoch, vI c.threshold, vI c.wait, d1139, d1141]) rfl rfl rfl s_25 (fun u hu => by simp only [List.mem_cons, List.not_mem_nil, or_false] at hu; rcases hu with rfl | rfl | rfl | rfl | rfl <;> first | rfl | exact hd1140.oneCell | exact hd1142.oneCell) (by repeat (first | assumption | constructor)) bx959 (of_decide_eq_true rfl) s1128 fun w1134 s1135 m1136 k1137 bx1138 => (?_))
      have hp953 := hp953.mv m1136
      have hd1034 := hd1034.mv m1136
      have hd1140 := hd1140.mv m1136
      have bx943 := bx943.keep k1137 (nin1 ne961)
      have bx967 := bx967.keep k1137 (nin1 (Ne.symm ne970))
      have hl1121 := hl1121.mv m1136
      have bx1131 := bx1131.keep k1137 (nin1 (Ne.symm ne1045))
      have bx1053 := bx1053.keep k1137 (nin1 (Ne.symm ne1056))
      have bx1111 := bx1111.keep k1137 (nin1 (Ne.symm ne1098))
      refine wl_nil (thenQ_n (?_))
      refine cw_seq (?_)
      refine cw_region (by kernel_rfl) (wl_s (o_fieldR 4 f_25_4 (c.recs) rfl hp953 (fun _ _ _ h => Enc_circle_f4 h) fun a1143 hp1144 => (wl_s (o_loadL Try.underlying23 rfl rfl hp1144 fun v1145 hl1146 => (?_)))))
      have := hl1146.len_le
      refine wl_s (o_call [v1145] _ enter_31 rfl (calls_of_cw 8 Try.func31 rfl rfl (of_decide_eq_true rfl) (fun F1147 => ?_)) (fun _ _ h => h))
      refine cw_seq (?_)
      refine cw_region (by kernel_rfl) (wl_s (o_assign (Value.slice none 0 0) rfl (wl_nil (thenQ_n (?_)))))
      refine cw_seq (?_)
      refine cw_seq (?_)
      refine cw_region (by kernel_rfl) (wl_s (o_move (v1145) rfl (wl_s (o_eqlNilF Try.underlying23 rfl rfl hl1146 (by omega) (wl_nil (thenQ_n (?_)))))))
      refine cw_cond false rfl rfl (fun h => by cases h) (fun _ => ?_)
      refine cw_skip (thenQ_n (?_))
      refine cw_seq (?_)
      refine cw_region (by kernel_rfl) (wl_s (o_litO (E := Enc.recovery) (xs := []) Try.underlying23 s_47 z_47 (by decide) [] [] [] rfl rfl rfl (Parts.nil _ _ _) (of_decide_eq_true rfl) s1135 fun v1152 b1154 w1148 e1155 hb1156 s1149 m1150 k1151 hl1153 => (?_)))
      have ne1157 : ∀ b, v1152.ownBlock = some b → b ≠ b938 := fun b hb => by have := bx943.lt; rw [hb1156] at hb; cases hb; omega
      have ne1158 : ∀ b, v1152.ownBlock = some b → b ≠ b954 := fun b hb => by have := bx1138.lt; rw [hb1156] at hb; cases hb; omega
      have ne1159 : ∀ b, v1152.ownBlock = some b → b ≠ b962 := fun b hb => by have := bx967.lt; rw [hb1156] at hb; cases hb; omega
      have ne1160 : ∀ b, v1152.ownBlock = some b → b ≠ b1037 := fun b hb => by have := bx1131.lt; rw [hb1156] at hb; cases hb; omega
      have ne1161 : ∀ b, v1152.ownBlock = some b → b ≠ b1048 := fun b hb => by have := bx1053.lt; rw [hb1156] at hb; cases hb; omega
      have ne1162 : ∀ b, v1152.ownBlock = some b → b ≠ b1090 := fun b hb => by have := bx1111.lt; rw [hb1156] at hb; cases hb; omega
      have hB1163 : ∀ b, v1152.ownBlock = some b → b ∈ (b1154 :: (b1090 :: (b1048 :: (b1037 :: (b962 :: (b954 :: (b938 :: []))))))) := fun b hb => by rw [hb1156] at hb; cases hb; simp
      clear e1155 hb1156
      have hl1146 := hl1146.mv m1150
      have hd1034 := hd1034.mv m1150
      have hd1140 := hd1140.mv m1150
      have bx943 := bx943.keep k1151 (by simp)
      have bx1138 := bx1138.keep k1151 (by simp)
      have bx967 := bx967.keep k1151 (by simp)
      have hl1121 := hl1121.mv m1150
      have bx1131 := bx1131.keep k1151 (by simp)
      have bx1053 := bx1053.keep k1151 (by simp)
      have bx1111 := bx1111.keep k1151 (by simp)
      refine wl_s (o_move (v1145) rfl (wl_s (o_append (E := Enc.recovery) (l := []) (m := c.recs) Try.underlying23 i_47 rfl (by decide) rfl rfl hl1153 hl1146 (fun _ hb => .inl hb) hB1163 (by simp; omega) (by simp [maxLen]; omega) s1149 fun v1168 w1164 B1170 hB1171 at1172 sub1173 s1165 m1166 k1167 ho1169 => (?_))))
      rw [List.nil_append] at ho1169
      have ne1174 : ∀ b, v1168.ownBlock = some b → b ≠ b938 := fun b hb => by rcases at1172 with e1 | e1 <;> rw [e1] at hb <;> first | (simp [Value.ownBlock] at hb; done) | (cases hb; have := bx943.lt; omega) | (exact ne1157 b hb)
      have ne1175 : ∀ b, v1168.ownBlock = some b → b ≠ b954 := fun b hb => by rcases at1172 with e1 | e1 <;> rw [e1] at hb <;> first | (simp [Value.ownBlock] at hb; done) | (cases hb; have := bx1138.lt; omega) | (exact ne1158 b hb)
      have ne1176 : ∀ b, v1168.ownBlock = some b → b ≠ b962 := fun b hb => by rcases at1172 with e1 | e1 <;> rw [e1] at hb <;> first | (simp [Value.ownBlock] at hb; done) | (cases hb; have := bx967.lt; omega) | (exact ne1159 b hb)
      have ne1177 : ∀ b, v1168.ownBlock = some b → b ≠ b1037 := fun b hb => by rcases at1172 with e1 | e1 <;> rw [e1] at hb <;> first | (simp [Value.ownBlock] at hb; done) | (cases hb; have := bx1131.lt; omega) | (exact ne1160 b hb)
      have ne1178 : ∀ b, v1168.ownBlock = some b → b ≠ b1048 := fun b hb => by rcases at1172 with e1 | e1 <;> rw [e1] at hb <;> first | (simp [Value.ownBlock] at hb; done) | (cases hb; have := bx1053.lt; omega) | (exact ne1161 b hb)
      have ne1179 : ∀ b, v1168.ownBlock = some b → b ≠ b1090 := fun b hb => by rcases at1172 with e1 | e1 <;> rw [e1] at hb <;> first | (simp [Value.ownBlock] at hb; done) | (cases hb; have := bx1111.lt; omega) | (exact ne1162 b hb)
      have hin_b938 : b938 ∈ B1170 := sub1173 b938 (by repeat (first | assumption | constructor))
      have hin_b954 : b954 ∈ B1170 := sub1173 b954 (by repeat (first | assumption | constructor))
      have hin_b962 : b962 ∈ B1170 := sub1173 b962 (by repeat (first | assumption | constructor))
      have hin_b1037 : b1037 ∈ B1170 := sub1173 b1037 (by repeat (first | assumption | constructor))
      have hin_b1048 : b1048 ∈ B1170 := sub1173 b1048 (by repeat (first | assumption | constructor))
      have hin_b1090 : b1090 ∈ B1170 := sub1173 b1090 (by repeat (first | assumption | constructor))
      have hd1034 := hd1034.mv m1166
      have hd1140 := hd1140.mv m1166
      have bx943 := bx943.keep k1167 (by simp only [Option.mem_toList]; first | (simp [Value.ownBlock]; done) | exact fun e => absurd rfl (ne1157 _ e))
      have bx1138 := bx1138.keep k1167 (by simp only [Option.mem_toList]; first | (simp [Value.ownBlock]; done) | exact fun e => absurd rfl (ne1158 _ e))
      have bx967 := bx967.keep k1167 (by simp only [Option.mem_toList]; first | (simp [Value.ownBlock]; done) | exact fun e => absurd rfl (ne1159 _ e))
      have hl1121 := hl1121.mv m1166
      have bx1131 := bx1131.keep k1167 (by simp only [Option.mem_toList]; first | (simp [Value.ownBlock]; done) | exact fun e => absurd rfl (ne1160 _ e))
      refine wl_s (o_assign (v1168) rfl (wl_nil (thenQ_n (?_))))
      refine cw_ret (end_r rfl (res1 rfl rfl rfl) (Exists.intro _ (And.intro rfl (?_))))
      refine wl_s (o_fieldL 4 f_25_4 rfl (wl_n (o_store1 (v1168) rfl rfl ho1169.oneCell s_23 (by repeat (first | assumption | constructor)) bx1138 (of_decide_eq_true rfl) s1165 fun w1180 s1181 m1182 k1183 bx1184 => (?_))))
      have hd1034 := hd1034.mv m1182
      have hd1140 := hd1140.mv m1182
      have ho1169 := ho1169.mv m1182 k1183 (fun b hb => nin1 (ne1175 b hb))
      have bx943 := bx943.keep k1183 (nin1 ne961)
      have bx967 := bx967.keep k1183 (nin1 (Ne.symm ne970))
      have hl1121 := hl1121.mv m1182
      have bx1131 := bx1131.keep k1183 (nin1 (Ne.symm ne1045))
      refine wl_nil (thenQ_n (?_))
      refine cw_seq (?_)
      refine cw_draw' 7 _ _ [isV (Value.pointer (some ⟨b954, 4, none⟩)), isV v1168, isV (vI no), isV (Value.pointer (some ⟨b1037, 0, none⟩)), isV (Value.pointer (some ⟨b1037, 0, none⟩)), isV (Value.pointer (some ⟨b1037, 0, none⟩)), isV (Value.agg #[vI ((c.recs[no.toNat]!).no), vI ((c.recs[no.toNat]!).asked), vI (2 : Int), d1033, v1120])] (by kernel_rfl) (by kernel_rfl) (by kernel_rfl) (by kernel_rfl) rfl rfl ⟨kI, kI, kI, kI, kI, kI, kI, trivial⟩ ⟨?_, ?_, ?_, ?_, ?_, ?_, ?_, trivial⟩ ?_
      ·intro F1 w1 k1 hf hd
       obtain ⟨F2, rfl⟩ := lit_of (F := F1) [(6, Value.pointer (some ⟨b954, 0, none⟩))] ⟨hf 6 (by kernel_rfl), trivial⟩
       exact sp_plain rfl ((o_fieldL 4 f_25_4 rfl (⟨(Keep.refl _ _), rfl⟩)))
      ·intro F1 w1 k1 hf hd
       have k0 := (Keep.drew [] w1180).trans k1
       have bx1184 := bx1184.keep k0 (by simp)
       obtain ⟨F2, rfl⟩ := lit_of (F := F1) [(42, Value.pointer (some ⟨b954, 4, none⟩))] ⟨hd 0 42 (by kernel_rfl), trivial⟩
       exact sp_plain rfl ((o_loadBx Try.underlying23 rfl (v1168) rfl bx1184 rfl (⟨(Keep.refl _ _), rfl⟩)))
      ·intro F1 w1 k1 hf hd
       obtain ⟨F2, rfl⟩ := lit_of (F := F1) [(1, vI no)] ⟨hf 1 (by kernel_rfl), trivial⟩
       exact sp_plain rfl ((o_move (vI no) rfl (⟨(Keep.refl _ _), rfl⟩)))
      ·intro F1 w1 k1 hf hd
       obtain ⟨F2, rfl⟩ := lit_of (F := F1) [(9, Value.pointer (some ⟨b1037, 0, none⟩))] ⟨hf 9 (by kernel_rfl), trivial⟩
       exact sp_plain rfl ((o_move (Value.pointer (some ⟨b1037, 0, none⟩)) rfl (⟨(Keep.refl _ _), rfl⟩)))
      ·intro F1 w1 k1 hf hd
       obtain ⟨F2, rfl⟩ := lit_of (F := F1) [(45, Value.pointer (some ⟨b1037, 0, none⟩))] ⟨hd 3 45 (by kernel_rfl), trivial⟩
       exact sp_plain rfl ((o_nilCheck ⟨b1037, 0, none⟩ rfl (⟨(Keep.refl _ _), rfl⟩)))
      ·intro F1 w1 k1 hf hd
       obtain ⟨F2, rfl⟩ := lit_of (F := F1) [(46, Value.pointer (some ⟨b1037, 0, none⟩))] ⟨hd 4 46 (by kernel_rfl), trivial⟩
       exact sp_plain rfl ((o_fieldL 0 f_74_0 rfl (⟨(Keep.refl _ _), rfl⟩)))
      ·intro F1 w1 k1 hf hd
       have k0 := (Keep.drew [] w1180).trans k1
       have bx1131 := bx1131.keep k0 (by simp)
       obtain ⟨F2, rfl⟩ := lit_of (F := F1) [(47, Value.pointer (some ⟨b1037, 0, none⟩))] ⟨hd 5 47 (by kernel_rfl), trivial⟩
       exact sp_plain rfl ((o_loadBxA (vs := [vI ((c.recs[no.toNat]!).no), vI ((c.recs[no.toNat]!).asked), vI (2 : Int), d1033, v1120]) Try.underlying47 rfl s_47 rfl bx1131 rfl (⟨(Keep.refl _ _), rfl⟩)))
      intro F1186 w1187 k1185 hT1188 hF1189
      have s1190 := s1181.call k1185
      have m1191 : Mv B1170 w1180 B1170 w1187 := Mv.of_keep k1185
      have hd1034 := hd1034.mv m1191
      have hd1140 := hd1140.mv m1191
      have ho1169 := ho1169.mv m1191 k1185 (by simp)
      have bx943 := bx943.keep k1185 (by simp)
      have bx1184 := bx1184.keep k1185 (by simp)
      have bx967 := bx967.keep k1185 (by simp)
      have hl1121 := hl1121.mv m1191
      obtain ⟨F2, rfl⟩ := lit_of (F := F1186) [(6, Value.pointer (some ⟨b954, 0, none⟩)), (7, Value.pointer (some ⟨b962, 0, none⟩)), (51, .tuple #[Value.func (.func 59) #[] #[Value.pointer (some ⟨b954, 0, none⟩), Value.pointer (some ⟨b962, 0, none⟩)]]), (43, v1168), (44, vI no), (48, Value.agg #[vI ((c.recs[no.toNat]!).no), vI ((c.recs[no.toNat]!).asked), vI (2 : Int), d1033, v1120])] ⟨hF1189 6 (by kernel_rfl), hF1189 7 (by kernel_rfl), hF1189 51 (by kernel_rfl), hT1188 1 43 (by kernel_rfl) (by decide), hT1188 2 44 (by kernel_rfl) (by decide), hT1188 6 48 (by kernel_rfl) (by decide), trivial⟩
      clear hT1188 hF1189
      refine wl_s (o_indexO Try.underlying23 s_47 .i64 no no.toNat rfl rfl (by omega) ho1169 (by first | omega | (simp; omega)) fun b1193 hb1194 => (wl_n (o_storeOA (⟨(c.recs[no.toNat]!).no, (c.recs[no.toNat]!).asked, (2 : Int), (c.recs[no.toNat]!).approved, [day]⟩ : Recovery) (by decide) s_47 rfl rfl ho1169 hb1194 (hB1171 _ hb1194) (by first | omega | (simp; omega)) ⟨_, _, rfl, hd1034, hl1121⟩ s1190 fun w1195 s1196 m1197 k1198 bx1199 => (?_))))
      have bx943 := bx943.keep k1198 (by simp only [List.mem_singleton]; exact fun e => absurd e.symm (ne1174 _ hb1194))
      have hd1140 := hd1140.mv m1197
      have bx1184 := bx1184.keep k1198 (by simp only [List.mem_singleton]; exact fun e => absurd e.symm (ne1175 _ hb1194))
      have bx967 := bx967.keep k1198 (by simp only [List.mem_singleton]; exact fun e => absurd e.symm (ne1176 _ hb1194))
      refine wl_nil (thenQ_n (?_))
      refine cw_seq (?_)
      refine cw_region (by kernel_rfl) (wl_s (o_loadBxA (vs := [vI c.epoch, vI c.threshold, vI c.wait, d1139, v1168]) Try.underlying25 rfl s_25 rfl bx1184 rfl (wl_n (o_store (vs := [vI c.epoch, vI c.threshold, vI c.wait, d1139, v1168]) (.agg #[vI c.epoch, vI c.threshold, vI c.wait, d1139, v1168]) rfl rfl rfl s_25 (fun u hu => by simp only [List.mem_cons, List.not_mem_nil, or_false] at hu; rcases hu with rfl | rfl | rfl | rfl | rfl <;> first | rfl | exact hd1140.oneCell | exact bx1199.oneCell) (by repeat (first | assumption | constructor)) bx1184 (of_decide_eq_true rfl) s1196 fun w1200 s1201 m1202 k1203 bx1204 => (?_)))))
      have bx1199 := bx1199.mv m1202 k1203 (fun b hb => nin1 (ne1175 b hb))
      have hd1140 := hd1140.mv m1202
      have bx943 := bx943.keep k1203 (nin1 ne961)
      have bx967 := bx967.keep k1203 (nin1 (Ne.symm ne970))
      refine wl_n (o_store1 (vI (0 : Int)) rfl rfl rfl s_28 (by repeat (first | assumption | constructor)) bx967 (of_decide_eq_true rfl) s1201 fun w1205 s1206 m1207 k1208 bx1209 => (?_))
      have bx1199 := bx1199.mv m1207 k1208 (fun b hb => nin1 (ne1176 b hb))
      have hd1140 := hd1140.mv m1207
      have bx943 := bx943.keep k1208 (nin1 ne969)
      have bx1204 := bx1204.keep k1208 (nin1 ne970)
      refine wl_nil (thenQ_n (?_))
      refine cw_ret (endD_rl (leave_rec [Value.pointer (some ⟨b954, 0, none⟩), Value.pointer (some ⟨b962, 0, none⟩)] 19 .returning rfl (fun h => by cases h) rfl enter_59 Try.func59 rfl rfl (of_decide_eq_true rfl) rfl rfl (fun F1210 => ?_)))
      refine cw_seq (?_)
      refine cw_region (by kernel_rfl) (wl_s (o_move (Value.nilIface) rfl (wl_s (o_neqNil' Try.underlying20 rfl (wl_nil (thenQ_n (?_)))))))
      refine cw_cond false rfl rfl (fun h => by cases h) (fun _ => ?_)
      refine cw_skip (end_n rfl (res0 rfl) (Exists.intro _ (And.intro (resv2 rfl (rv_A (vs := [vI c.epoch, vI c.threshold, vI c.wait, d1139, v1168]) rfl Try.underlying25 rfl s_25 rfl bx1204 rfl) (rv_c rfl Try.underlying28 rfl rfl bx1209 rfl)) (both_r (?_)))))
      refine wl_s (o_extract (Value.agg #[vI c.epoch, vI c.threshold, vI c.wait, d1139, v1168]) rfl rfl (wl_s (o_extract (vI (0 : Int)) rfl rfl (wl_n (o_store (vs := [vI c.epoch, vI c.threshold, vI c.wait, d1139, v1168]) (.agg #[vI c.epoch, vI c.threshold, vI c.wait, d1139, v1168]) rfl rfl rfl s_25 (fun u hu => by simp only [List.mem_cons, List.not_mem_nil, or_false] at hu; rcases hu with rfl | rfl | rfl | rfl | rfl <;> first | rfl | exact hd1140.oneCell | exact bx1199.oneCell) (by repeat (first | assumption | constructor)) bx943 (of_decide_eq_true rfl) s1206 fun w1211 s1212 m1213 k1214 bx1215 => (?_))))))
      have hd1140 := hd1140.mv m1213
      have bx1199 := bx1199.mv m1213 k1214 (fun b hb => nin1 (ne1174 b hb))
      refine wl_s (o_assign (vI (0 : Int)) rfl (wl_nil (thenQ_n (?_))))
      refine cw_ret (end_r rfl (resv2 rfl (rv_A (vs := [vI c.epoch, vI c.threshold, vI c.wait, d1139, v1168]) rfl Try.underlying25 rfl s_25 rfl bx1215 rfl) (rv_t rfl rfl)) (?_))
      have e1216 : ((gAct c no (fVeto day)).1) = (⟨c.epoch, c.threshold, c.wait, c.guardians, c.recs.set no.toNat (⟨(c.recs[no.toNat]!).no, (c.recs[no.toNat]!).asked, (2 : Int), (c.recs[no.toNat]!).approved, [day]⟩ : Recovery)⟩ : Circle) := by first | exact congrArg (fun p => p.1) (show gAct c no (fVeto day) = _ from veto_no hok (by omega)) | exact congrArg (fun p => p.1) (show gAct c no (fVeto day) = _ from veto_day hok (by omega) (by omega) (by assumption)) | exact congrArg (fun p => p.1) (show gAct c no (fVeto day) = _ from veto_open hok (by omega) (by omega) (by assumption) (by assumption))
      have e1217 : ((gAct c no (fVeto day)).2) = (0 : Int) := by first | exact congrArg (fun p => p.2) (show gAct c no (fVeto day) = _ from veto_no hok (by omega)) | exact congrArg (fun p => p.2) (show gAct c no (fVeto day) = _ from veto_day hok (by omega) (by omega) (by assumption)) | exact congrArg (fun p => p.2) (show gAct c no (fVeto day) = _ from veto_open hok (by omega) (by omega) (by assumption) (by assumption))
      exact ⟨_, rfl, s1212.keep, by rw [e1216, e1217]; exact ⟨[vI c.epoch, vI c.threshold, vI c.wait, d1139, v1168], rfl, ⟨_, _, rfl, hd1140.out, (bx1199.pub s1212)⟩⟩⟩
     ·refine wl_s (o_lookupF (k := 1) (Value.func (.func 50) #[] #[Value.pointer (some ⟨b1048, 0, none⟩)]) Try.underlying68 Try.underlying3 rfl (congrArg vI hs1113) bx1111 rfl (wl_s (o_move (Value.tuple #[Value.func (.func 50) #[] #[Value.pointer (some ⟨b1048, 0, none⟩)], Value.bool true]) rfl (wl_s (o_extract (Value.func (.func 50) #[] #[Value.pointer (some ⟨b1048, 0, none⟩)]) rfl rfl (wl_s (o_extract (Value.bool true) rfl rfl (wl_s (o_assign (Value.func (.func 50) #[] #[Value.pointer (some ⟨b1048, 0, none⟩)]) rfl (wl_s (o_assign (Value.bool true) rfl (wl_nil (thenQ_n (?_))))))))))))))
      refine cw_seq (?_)
      refine cw_region (by kernel_rfl) (wl_s (o_move (Value.bool true) rfl (wl_nil (thenQ_n (?_)))))
      refine cw_cond true rfl rfl (fun _ => ?_) (fun h => by cases h)
      refine cw_region (by kernel_rfl) (wl_s (o_move (Value.func (.func 50) #[] #[Value.pointer (some ⟨b1048, 0, none⟩)]) rfl (wl_s (o_callvX [] [Value.pointer (some ⟨b1048, 0, none⟩)] [] enter_50 rfl rfl (calls_of_cw 3 Try.func50 rfl rfl (of_decide_eq_true rfl) (fun F1218 => ?_))))))
      refine cw_region (by kernel_rfl) (wl_s (o_loadBx Try.underlying64 rfl (Value.pointer (some ⟨b1037, 0, none⟩)) rfl bx1053 rfl (wl_s (o_callX [Value.pointer (some ⟨b1037, 0, none⟩), Value.bool false, vI (1 : Int)] enter_41 rfl (calls_of_cw 11 Try.func41 rfl rfl (of_decide_eq_true rfl) (fun F1219 => ?_))))))
      refine cw_seq (?_)
      refine cw_region (by kernel_rfl) (wl_s (o_move (Value.bool false) rfl (wl_s (o_not false rfl (wl_nil (thenQ_n (?_)))))))
      refine cw_cond true rfl rfl (fun _ => ?_) (fun h => by cases h)
      refine cw_region (by kernel_rfl) (wl_s (o_move (vI (1 : Int)) rfl (wl_s (o_build (l := [(0, .tmp 8)]) pl_78 z_78 rfl [(0, vI (1 : Int), [vI (1 : Int)])] [vI (1 : Int)] rfl ⟨_, rfl, rfl, (of_decide_eq_true rfl), rfl⟩ (wl_s (o_iface (Value.agg #[vI (1 : Int)]) Try.underlying78 rfl rfl (wl_n (o_panic rfl (end_p rfl (both_p (?_)))))))))))
      refine end_p rfl (both_p (?_))
      refine end_p rfl (both_p (?_))
      refine end_p rfl (both_p (?_))
      refine thenQ_p (endD_pl (leave_con [Value.pointer (some ⟨b954, 0, none⟩), Value.pointer (some ⟨b962, 0, none⟩)] (.panicking [{ v := Value.iface 78 (Value.agg #[vI (1 : Int)]), recovered := false }]) rfl (fun h => by cases h) rfl enter_59 (c_on1p (1 : Int) b954 b962 s1108 bx959 bx967 (by repeat (first | assumption | constructor)) (by repeat (first | assumption | constructor)) ne970) (fun e_ w1220 hR_ => ?_)))
      obtain ⟨v_, rfl, s1221, m1222, k1223, bx1224, bx1225⟩ := hR_
      have bx943 := bx943.keep k1223 (nin2 ne961 ne969)
      refine Exists.intro _ (And.intro (resv2 rfl (rv_A (vs := [vI (0 : Int), vI (0 : Int), vI (0 : Int), Value.slice none 0 0, Value.slice none 0 0]) rfl Try.underlying25 rfl s_25 rfl bx1224 rfl) (rv_c rfl Try.underlying28 rfl rfl bx1225 rfl)) (both_r (?_)))
      refine wl_s (o_extract (Value.agg #[vI (0 : Int), vI (0 : Int), vI (0 : Int), Value.slice none 0 0, Value.slice none 0 0]) rfl rfl (wl_s (o_extract (vI (1 : Int)) rfl rfl (wl_n (o_store (vs := [vI (0 : Int), vI (0 : Int), vI (0 : Int), Value.slice none 0 0, Value.slice none 0 0]) (.agg #[vI (0 : Int), vI (0 : Int), vI (0 : Int), Value.slice none 0 0, Value.slice none 0 0]) rfl rfl rfl s_25 (fun u hu => by simp only [List.mem_cons, List.not_mem_nil, or_false] at hu; rcases hu with rfl | rfl | rfl | rfl | rfl <;> first | rfl) (by repeat (first | assumption | constructor)) bx943 (of_decide_eq_true rfl) s1221 fun w1226 s1227 m1228 k1229 bx1230 => (?_))))))
      refine wl_s (o_assign (vI (1 : Int)) rfl (wl_nil (thenQ_n (?_))))
      refine cw_ret (end_r rfl (resv2 rfl (rv_A (vs := [vI (0 : Int), vI (0 : Int), vI (0 : Int), Value.slice none 0 0, Value.slice none 0 0]) rfl Try.underlying25 rfl s_25 rfl bx1230 rfl) (rv_t rfl rfl)) (?_))
      have e1231 : ((gAct c no (fVeto day)).1) = (⟨(0 : Int), (0 : Int), (0 : Int), [], []⟩ : Circle) := by first | exact congrArg (fun p => p.1) (show gAct c no (fVeto day) = _ from veto_no hok (by omega)) | exact congrArg (fun p => p.1) (show gAct c no (fVeto day) = _ from veto_day hok (by omega) (by omega) (by assumption)) | exact congrArg (fun p => p.1) (show gAct c no (fVeto day) = _ from veto_done hok (by omega) (by omega) (by assumption) (by assumption))
      have e1232 : ((gAct c no (fVeto day)).2) = (1 : Int) := by first | exact congrArg (fun p => p.2) (show gAct c no (fVeto day) = _ from veto_no hok (by omega)) | exact congrArg (fun p => p.2) (show gAct c no (fVeto day) = _ from veto_day hok (by omega) (by omega) (by assumption)) | exact congrArg (fun p => p.2) (show gAct c no (fVeto day) = _ from veto_done hok (by omega) (by omega) (by assumption) (by assumption))
      exact ⟨_, rfl, s1227.keep, by rw [e1231, e1232]; exact ⟨[vI (0 : Int), vI (0 : Int), vI (0 : Int), Value.slice none 0 0, Value.slice none 0 0], rfl, Enc.out (B := (b1090 :: (b1048 :: (b1037 :: (b962 :: (b954 :: (b938 :: []))))))) ⟨.slice none 0 0, .slice none 0 0, rfl, (RdL.nil _ _ _), (RdL.nil _ _ _)⟩⟩⟩
     ·refine wl_s (o_lookupN (k := 2) (z := .nilFunc) Try.underlying68 Try.underlying3 (by kernel_rfl) rfl (congrArg vI hs1113) bx1111 rfl (wl_s (o_move (Value.tuple #[Value.nilFunc, Value.bool false]) rfl (wl_s (o_extract (Value.nilFunc) rfl rfl (wl_s (o_extract (Value.bool false) rfl rfl (wl_s (o_assign (Value.nilFunc) rfl (wl_s (o_assign (Value.bool false) rfl (wl_nil (thenQ_n (?_))))))))))))))
      refine cw_seq (?_)
      refine cw_region (by kernel_rfl) (wl_s (o_move (Value.bool false) rfl (wl_nil (thenQ_n (?_)))))
      refine cw_cond false rfl rfl (fun h => by cases h) (fun _ => ?_)
      refine cw_skip (end_n rfl (res0 rfl) (both_r (?_)))
      refine wl_nil (end_n rfl (res0 rfl) (both_r (?_)))
      refine wl_nil (thenQ_n (?_))
      refine cw_seq (?_)
      refine cw_region (by kernel_rfl) (wl_s (o_loadS Try.underlying25 rfl s_25 rfl hp953 fun cs1233 hs1234 => (?_)))
      obtain ⟨d1240, d1242, rfl, hd1241, hd1243⟩ := hs1234
      have := hd1241.len_le
      have := hd1243.len_le
      refine wl_n (o_store (vs := [vI c.epoch, vI c.threshold, vI c.wait, d1240, d1242]) (.agg #[vI c.epoch, vI c.threshold, vI c.wait, d1240, d1242]) rfl rfl rfl s_25 (fun u hu => by simp only [List.mem_cons, List.not_mem_nil, or_false] at hu; rcases hu with rfl | rfl | rfl | rfl | rfl <;> first | rfl | exact hd1241.oneCell | exact hd1243.oneCell) (by repeat (first | assumption | constructor)) bx959 (of_decide_eq_true rfl) s1108 fun w1235 s1236 m1237 k1238 bx1239 => (?_))
      have hp953 := hp953.mv m1237
      have hd1034 := hd1034.mv m1237
      have hd1036 := hd1036.mv m1237
      have hd1241 := hd1241.mv m1237
      have bx943 := bx943.keep k1238 (nin1 ne961)
      have bx967 := bx967.keep k1238 (nin1 (Ne.symm ne970))
      have bx1042 := bx1042.keep k1238 (nin1 (Ne.symm ne1045))
      have bx1053 := bx1053.keep k1238 (nin1 (Ne.symm ne1056))
      have bx1111 := bx1111.keep k1238 (nin1 (Ne.symm ne1098))
      refine wl_nil (thenQ_n (?_))
      refine cw_seq (?_)
      refine cw_region (by kernel_rfl) (wl_s (o_fieldR 4 f_25_4 (c.recs) rfl hp953 (fun _ _ _ h => Enc_circle_f4 h) fun a1244 hp1245 => (wl_s (o_loadL Try.underlying23 rfl rfl hp1245 fun v1246 hl1247 => (?_)))))
      have := hl1247.len_le
      refine wl_s (o_call [v1246] _ enter_31 rfl (calls_of_cw 8 Try.func31 rfl rfl (of_decide_eq_true rfl) (fun F1248 => ?_)) (fun _ _ h => h))
      refine cw_seq (?_)
      refine cw_region (by kernel_rfl) (wl_s (o_assign (Value.slice none 0 0) rfl (wl_nil (thenQ_n (?_)))))
      refine cw_seq (?_)
      refine cw_seq (?_)
      refine cw_region (by kernel_rfl) (wl_s (o_move (v1246) rfl (wl_s (o_eqlNilF Try.underlying23 rfl rfl hl1247 (by omega) (wl_nil (thenQ_n (?_)))))))
      refine cw_cond false rfl rfl (fun h => by cases h) (fun _ => ?_)
      refine cw_skip (thenQ_n (?_))
      refine cw_seq (?_)
      refine cw_region (by kernel_rfl) (wl_s (o_litO (E := Enc.recovery) (xs := []) Try.underlying23 s_47 z_47 (by decide) [] [] [] rfl rfl rfl (Parts.nil _ _ _) (of_decide_eq_true rfl) s1236 fun v1253 b1255 w1249 e1256 hb1257 s1250 m1251 k1252 hl1254 => (?_)))
      have ne1258 : ∀ b, v1253.ownBlock = some b → b ≠ b938 := fun b hb => by have := bx943.lt; rw [hb1257] at hb; cases hb; omega
      have ne1259 : ∀ b, v1253.ownBlock = some b → b ≠ b954 := fun b hb => by have := bx1239.lt; rw [hb1257] at hb; cases hb; omega
      have ne1260 : ∀ b, v1253.ownBlock = some b → b ≠ b962 := fun b hb => by have := bx967.lt; rw [hb1257] at hb; cases hb; omega
      have ne1261 : ∀ b, v1253.ownBlock = some b → b ≠ b1037 := fun b hb => by have := bx1042.lt; rw [hb1257] at hb; cases hb; omega
      have ne1262 : ∀ b, v1253.ownBlock = some b → b ≠ b1048 := fun b hb => by have := bx1053.lt; rw [hb1257] at hb; cases hb; omega
      have ne1263 : ∀ b, v1253.ownBlock = some b → b ≠ b1090 := fun b hb => by have := bx1111.lt; rw [hb1257] at hb; cases hb; omega
      have hB1264 : ∀ b, v1253.ownBlock = some b → b ∈ (b1255 :: (b1090 :: (b1048 :: (b1037 :: (b962 :: (b954 :: (b938 :: []))))))) := fun b hb => by rw [hb1257] at hb; cases hb; simp
      clear e1256 hb1257
      have hl1247 := hl1247.mv m1251
      have hd1034 := hd1034.mv m1251
      have hd1036 := hd1036.mv m1251
      have hd1241 := hd1241.mv m1251
      have bx943 := bx943.keep k1252 (by simp)
      have bx1239 := bx1239.keep k1252 (by simp)
      have bx967 := bx967.keep k1252 (by simp)
      have bx1042 := bx1042.keep k1252 (by simp)
      have bx1053 := bx1053.keep k1252 (by simp)
      have bx1111 := bx1111.keep k1252 (by simp)
      refine wl_s (o_move (v1246) rfl (wl_s (o_append (E := Enc.recovery) (l := []) (m := c.recs) Try.underlying23 i_47 rfl (by decide) rfl rfl hl1254 hl1247 (fun _ hb => .inl hb) hB1264 (by simp; omega) (by simp [maxLen]; omega) s1250 fun v1269 w1265 B1271 hB1272 at1273 sub1274 s1266 m1267 k1268 ho1270 => (?_))))
      rw [List.nil_append] at ho1270
      have ne1275 : ∀ b, v1269.ownBlock = some b → b ≠ b938 := fun b hb => by rcases at1273 with e1 | e1 <;> rw [e1] at hb <;> first | (simp [Value.ownBlock] at hb; done) | (cases hb; have := bx943.lt; omega) | (exact ne1258 b hb)
      have ne1276 : ∀ b, v1269.ownBlock = some b → b ≠ b954 := fun b hb => by rcases at1273 with e1 | e1 <;> rw [e1] at hb <;> first | (simp [Value.ownBlock] at hb; done) | (cases hb; have := bx1239.lt; omega) | (exact ne1259 b hb)
      have ne1277 : ∀ b, v1269.ownBlock = some b → b ≠ b962 := fun b hb => by rcases at1273 with e1 | e1 <;> rw [e1] at hb <;> first | (simp [Value.ownBlock] at hb; done) | (cases hb; have := bx967.lt; omega) | (exact ne1260 b hb)
      have ne1278 : ∀ b, v1269.ownBlock = some b → b ≠ b1037 := fun b hb => by rcases at1273 with e1 | e1 <;> rw [e1] at hb <;> first | (simp [Value.ownBlock] at hb; done) | (cases hb; have := bx1042.lt; omega) | (exact ne1261 b hb)
      have ne1279 : ∀ b, v1269.ownBlock = some b → b ≠ b1048 := fun b hb => by rcases at1273 with e1 | e1 <;> rw [e1] at hb <;> first | (simp [Value.ownBlock] at hb; done) | (cases hb; have := bx1053.lt; omega) | (exact ne1262 b hb)
      have ne1280 : ∀ b, v1269.ownBlock = some b → b ≠ b1090 := fun b hb => by rcases at1273 with e1 | e1 <;> rw [e1] at hb <;> first | (simp [Value.ownBlock] at hb; done) | (cases hb; have := bx1111.lt; omega) | (exact ne1263 b hb)
      have hin_b938 : b938 ∈ B1271 := sub1274 b938 (by repeat (first | assumption | constructor))
      have hin_b954 : b954 ∈ B1271 := sub1274 b954 (by repeat (first | assumption | constructor))
      have hin_b962 : b962 ∈ B1271 := sub1274 b962 (by repeat (first | assumption | constructor))
      have hin_b1037 : b1037 ∈ B1271 := sub1274 b1037 (by repeat (first | assumption | constructor))
      have hin_b1048 : b1048 ∈ B1271 := sub1274 b1048 (by repeat (first | assumption | constructor))
      have hin_b1090 : b1090 ∈ B1271 := sub1274 b1090 (by repeat (first | assumption | constructor))
      have hd1034 := hd1034.mv m1267
      have hd1036 := hd1036.mv m1267
      have hd1241 := hd1241.mv m1267
      have bx943 := bx943.keep k1268 (by simp only [Option.mem_toList]; first | (simp [Value.ownBlock]; done) | exact fun e => absurd rfl (ne1258 _ e))
      have bx1239 := bx1239.keep k1268 (by simp only [Option.mem_toList]; first | (simp [Value.ownBlock]; done) | exact fun e => absurd rfl (ne1259 _ e))
      have bx967 := bx967.keep k1268 (by simp only [Option.mem_toList]; first | (simp [Value.ownBlock]; done) | exact fun e => absurd rfl (ne1260 _ e))
      have bx1042 := bx1042.keep k1268 (by simp only [Option.mem_toList]; first | (simp [Value.ownBlock]; done) | exact fun e => absurd rfl (ne1261 _ e))
      refine wl_s (o_assign (v1269) rfl (wl_nil (thenQ_n (?_))))
      refine cw_ret (end_r rfl (res1 rfl rfl rfl) (Exists.intro _ (And.intro rfl (?_))))
      refine wl_s (o_fieldL 4 f_25_4 rfl (wl_n (o_store1 (v1269) rfl rfl ho1270.oneCell s_23 (by repeat (first | assumption | constructor)) bx1239 (of_decide_eq_true rfl) s1266 fun w1281 s1282 m1283 k1284 bx1285 => (?_))))
      have hd1034 := hd1034.mv m1283
      have hd1036 := hd1036.mv m1283
      have hd1241 := hd1241.mv m1283
      have ho1270 := ho1270.mv m1283 k1284 (fun b hb => nin1 (ne1276 b hb))
      have bx943 := bx943.keep k1284 (nin1 ne961)
      have bx967 := bx967.keep k1284 (nin1 (Ne.symm ne970))
      have bx1042 := bx1042.keep k1284 (nin1 (Ne.symm ne1045))
      refine wl_nil (thenQ_n (?_))
      refine cw_seq (?_)
      refine cw_draw' 7 _ _ [isV (Value.pointer (some ⟨b954, 4, none⟩)), isV v1269, isV (vI no), isV (Value.pointer (some ⟨b1037, 0, none⟩)), isV (Value.pointer (some ⟨b1037, 0, none⟩)), isV (Value.pointer (some ⟨b1037, 0, none⟩)), isV (Value.agg #[vI ((c.recs[no.toNat]!).no), vI ((c.recs[no.toNat]!).asked), vI ((c.recs[no.toNat]!).state), d1033, d1035])] (by kernel_rfl) (by kernel_rfl) (by kernel_rfl) (by kernel_rfl) rfl rfl ⟨kI, kI, kI, kI, kI, kI, kI, trivial⟩ ⟨?_, ?_, ?_, ?_, ?_, ?_, ?_, trivial⟩ ?_
      ·intro F1 w1 k1 hf hd
       obtain ⟨F2, rfl⟩ := lit_of (F := F1) [(6, Value.pointer (some ⟨b954, 0, none⟩))] ⟨hf 6 (by kernel_rfl), trivial⟩
       exact sp_plain rfl ((o_fieldL 4 f_25_4 rfl (⟨(Keep.refl _ _), rfl⟩)))
      ·intro F1 w1 k1 hf hd
       have k0 := (Keep.drew [] w1281).trans k1
       have bx1285 := bx1285.keep k0 (by simp)
       obtain ⟨F2, rfl⟩ := lit_of (F := F1) [(42, Value.pointer (some ⟨b954, 4, none⟩))] ⟨hd 0 42 (by kernel_rfl), trivial⟩
       exact sp_plain rfl ((o_loadBx Try.underlying23 rfl (v1269) rfl bx1285 rfl (⟨(Keep.refl _ _), rfl⟩)))
      ·intro F1 w1 k1 hf hd
       obtain ⟨F2, rfl⟩ := lit_of (F := F1) [(1, vI no)] ⟨hf 1 (by kernel_rfl), trivial⟩
       exact sp_plain rfl ((o_move (vI no) rfl (⟨(Keep.refl _ _), rfl⟩)))
      ·intro F1 w1 k1 hf hd
       obtain ⟨F2, rfl⟩ := lit_of (F := F1) [(9, Value.pointer (some ⟨b1037, 0, none⟩))] ⟨hf 9 (by kernel_rfl), trivial⟩
       exact sp_plain rfl ((o_move (Value.pointer (some ⟨b1037, 0, none⟩)) rfl (⟨(Keep.refl _ _), rfl⟩)))
      ·intro F1 w1 k1 hf hd
       obtain ⟨F2, rfl⟩ := lit_of (F := F1) [(45, Value.pointer (some ⟨b1037, 0, none⟩))] ⟨hd 3 45 (by kernel_rfl), trivial⟩
       exact sp_plain rfl ((o_nilCheck ⟨b1037, 0, none⟩ rfl (⟨(Keep.refl _ _), rfl⟩)))
      ·intro F1 w1 k1 hf hd
       obtain ⟨F2, rfl⟩ := lit_of (F := F1) [(46, Value.pointer (some ⟨b1037, 0, none⟩))] ⟨hd 4 46 (by kernel_rfl), trivial⟩
       exact sp_plain rfl ((o_fieldL 0 f_74_0 rfl (⟨(Keep.refl _ _), rfl⟩)))
      ·intro F1 w1 k1 hf hd
       have k0 := (Keep.drew [] w1281).trans k1
       have bx1042 := bx1042.keep k0 (by simp)
       obtain ⟨F2, rfl⟩ := lit_of (F := F1) [(47, Value.pointer (some ⟨b1037, 0, none⟩))] ⟨hd 5 47 (by kernel_rfl), trivial⟩
       exact sp_plain rfl ((o_loadBxA (vs := [vI ((c.recs[no.toNat]!).no), vI ((c.recs[no.toNat]!).asked), vI ((c.recs[no.toNat]!).state), d1033, d1035]) Try.underlying47 rfl s_47 rfl bx1042 rfl (⟨(Keep.refl _ _), rfl⟩)))
      intro F1287 w1288 k1286 hT1289 hF1290
      have s1291 := s1282.call k1286
      have m1292 : Mv B1271 w1281 B1271 w1288 := Mv.of_keep k1286
      have hd1034 := hd1034.mv m1292
      have hd1036 := hd1036.mv m1292
      have hd1241 := hd1241.mv m1292
      have ho1270 := ho1270.mv m1292 k1286 (by simp)
      have bx943 := bx943.keep k1286 (by simp)
      have bx1285 := bx1285.keep k1286 (by simp)
      have bx967 := bx967.keep k1286 (by simp)
      obtain ⟨F2, rfl⟩ := lit_of (F := F1287) [(6, Value.pointer (some ⟨b954, 0, none⟩)), (7, Value.pointer (some ⟨b962, 0, none⟩)), (51, .tuple #[Value.func (.func 59) #[] #[Value.pointer (some ⟨b954, 0, none⟩), Value.pointer (some ⟨b962, 0, none⟩)]]), (43, v1269), (44, vI no), (48, Value.agg #[vI ((c.recs[no.toNat]!).no), vI ((c.recs[no.toNat]!).asked), vI ((c.recs[no.toNat]!).state), d1033, d1035])] ⟨hF1290 6 (by kernel_rfl), hF1290 7 (by kernel_rfl), hF1290 51 (by kernel_rfl), hT1289 1 43 (by kernel_rfl) (by decide), hT1289 2 44 (by kernel_rfl) (by decide), hT1289 6 48 (by kernel_rfl) (by decide), trivial⟩
      clear hT1289 hF1290
      refine wl_s (o_indexO Try.underlying23 s_47 .i64 no no.toNat rfl rfl (by omega) ho1270 (by first | omega | (simp; omega)) fun b1294 hb1295 => (wl_n (o_storeOA (c.recs[no.toNat]!) (by decide) s_47 rfl rfl ho1270 hb1295 (hB1272 _ hb1295) (by first | omega | (simp; omega)) ⟨_, _, rfl, hd1034, hd1036⟩ s1291 fun w1296 s1297 m1298 k1299 bx1300 => (?_))))
      have bx943 := bx943.keep k1299 (by simp only [List.mem_singleton]; exact fun e => absurd e.symm (ne1275 _ hb1295))
      have hd1241 := hd1241.mv m1298
      have bx1285 := bx1285.keep k1299 (by simp only [List.mem_singleton]; exact fun e => absurd e.symm (ne1276 _ hb1295))
      have bx967 := bx967.keep k1299 (by simp only [List.mem_singleton]; exact fun e => absurd e.symm (ne1277 _ hb1295))
      refine wl_nil (thenQ_n (?_))
      refine cw_seq (?_)
      refine cw_region (by kernel_rfl) (wl_s (o_loadBxA (vs := [vI c.epoch, vI c.threshold, vI c.wait, d1240, v1269]) Try.underlying25 rfl s_25 rfl bx1285 rfl (wl_n (o_store (vs := [vI c.epoch, vI c.threshold, vI c.wait, d1240, v1269]) (.agg #[vI c.epoch, vI c.threshold, vI c.wait, d1240, v1269]) rfl rfl rfl s_25 (fun u hu => by simp only [List.mem_cons, List.not_mem_nil, or_false] at hu; rcases hu with rfl | rfl | rfl | rfl | rfl <;> first | rfl | exact hd1241.oneCell | exact bx1300.oneCell) (by repeat (first | assumption | constructor)) bx1285 (of_decide_eq_true rfl) s1297 fun w1301 s1302 m1303 k1304 bx1305 => (?_)))))
      have bx1300 := bx1300.mv m1303 k1304 (fun b hb => nin1 (ne1276 b hb))
      have hd1241 := hd1241.mv m1303
      have bx943 := bx943.keep k1304 (nin1 ne961)
      have bx967 := bx967.keep k1304 (nin1 (Ne.symm ne970))
      refine wl_n (o_store1 (vI (0 : Int)) rfl rfl rfl s_28 (by repeat (first | assumption | constructor)) bx967 (of_decide_eq_true rfl) s1302 fun w1306 s1307 m1308 k1309 bx1310 => (?_))
      have bx1300 := bx1300.mv m1308 k1309 (fun b hb => nin1 (ne1277 b hb))
      have hd1241 := hd1241.mv m1308
      have bx943 := bx943.keep k1309 (nin1 ne969)
      have bx1305 := bx1305.keep k1309 (nin1 ne970)
      refine wl_nil (thenQ_n (?_))
      refine cw_ret (endD_rl (leave_rec [Value.pointer (some ⟨b954, 0, none⟩), Value.pointer (some ⟨b962, 0, none⟩)] 19 .returning rfl (fun h => by cases h) rfl enter_59 Try.func59 rfl rfl (of_decide_eq_true rfl) rfl rfl (fun F1311 => ?_)))
      refine cw_seq (?_)
      refine cw_region (by kernel_rfl) (wl_s (o_move (Value.nilIface) rfl (wl_s (o_neqNil' Try.underlying20 rfl (wl_nil (thenQ_n (?_)))))))
      refine cw_cond false rfl rfl (fun h => by cases h) (fun _ => ?_)
      refine cw_skip (end_n rfl (res0 rfl) (Exists.intro _ (And.intro (resv2 rfl (rv_A (vs := [vI c.epoch, vI c.threshold, vI c.wait, d1240, v1269]) rfl Try.underlying25 rfl s_25 rfl bx1305 rfl) (rv_c rfl Try.underlying28 rfl rfl bx1310 rfl)) (both_r (?_)))))
      refine wl_s (o_extract (Value.agg #[vI c.epoch, vI c.threshold, vI c.wait, d1240, v1269]) rfl rfl (wl_s (o_extract (vI (0 : Int)) rfl rfl (wl_n (o_store (vs := [vI c.epoch, vI c.threshold, vI c.wait, d1240, v1269]) (.agg #[vI c.epoch, vI c.threshold, vI c.wait, d1240, v1269]) rfl rfl rfl s_25 (fun u hu => by simp only [List.mem_cons, List.not_mem_nil, or_false] at hu; rcases hu with rfl | rfl | rfl | rfl | rfl <;> first | rfl | exact hd1241.oneCell | exact bx1300.oneCell) (by repeat (first | assumption | constructor)) bx943 (of_decide_eq_true rfl) s1307 fun w1312 s1313 m1314 k1315 bx1316 => (?_))))))
      have hd1241 := hd1241.mv m1314
      have bx1300 := bx1300.mv m1314 k1315 (fun b hb => nin1 (ne1275 b hb))
      refine wl_s (o_assign (vI (0 : Int)) rfl (wl_nil (thenQ_n (?_))))
      refine cw_ret (end_r rfl (resv2 rfl (rv_A (vs := [vI c.epoch, vI c.threshold, vI c.wait, d1240, v1269]) rfl Try.underlying25 rfl s_25 rfl bx1316 rfl) (rv_t rfl rfl)) (?_))
      have e1317 : ((gAct c no (fVeto day)).1) = (⟨c.epoch, c.threshold, c.wait, c.guardians, c.recs.set no.toNat (c.recs[no.toNat]!)⟩ : Circle) := by first | exact congrArg (fun p => p.1) (show gAct c no (fVeto day) = _ from veto_no hok (by omega)) | exact congrArg (fun p => p.1) (show gAct c no (fVeto day) = _ from veto_day hok (by omega) (by omega) (by assumption)) | exact congrArg (fun p => p.1) (show gAct c no (fVeto day) = _ from veto_dead hok (by omega) (by omega) (by assumption) (by assumption))
      have e1318 : ((gAct c no (fVeto day)).2) = (0 : Int) := by first | exact congrArg (fun p => p.2) (show gAct c no (fVeto day) = _ from veto_no hok (by omega)) | exact congrArg (fun p => p.2) (show gAct c no (fVeto day) = _ from veto_day hok (by omega) (by omega) (by assumption)) | exact congrArg (fun p => p.2) (show gAct c no (fVeto day) = _ from veto_dead hok (by omega) (by omega) (by assumption) (by assumption))
      exact ⟨_, rfl, s1313.keep, by rw [e1317, e1318]; exact ⟨[vI c.epoch, vI c.threshold, vI c.wait, d1240, v1269], rfl, ⟨_, _, rfl, hd1241.out, (bx1300.pub s1313)⟩⟩⟩
  ·have hp1319 : no < (0 : Int) := by first | simpa using hb999 | (have e := hb999; simp at e; omega)
   refine wl_k rfl (wl_k rfl (wl_k rfl (wl_k rfl (wl_k rfl (wl_s (o_pickT (Value.bool true) rfl rfl (wl_nil (thenQ_n (?_)))))))))
   refine cw_cond true rfl rfl (fun _ => ?_) (fun h => by cases h)
   refine cw_seq (?_)
   refine cw_region (by kernel_rfl) (wl_s (o_loadBxA (vs := [vI (0 : Int), vI (0 : Int), vI (0 : Int), Value.slice none 0 0, Value.slice none 0 0]) Try.underlying25 rfl s_25 rfl bx959 rfl (wl_n (o_store (vs := [vI (0 : Int), vI (0 : Int), vI (0 : Int), Value.slice none 0 0, Value.slice none 0 0]) (.agg #[vI (0 : Int), vI (0 : Int), vI (0 : Int), Value.slice none 0 0, Value.slice none 0 0]) rfl rfl rfl s_25 (fun u hu => by simp only [List.mem_cons, List.not_mem_nil, or_false] at hu; rcases hu with rfl | rfl | rfl | rfl | rfl <;> first | rfl) (by repeat (first | assumption | constructor)) bx959 (of_decide_eq_true rfl) s975 fun w1320 s1321 m1322 k1323 bx1324 => (?_)))))
   have bx943 := bx943.keep k1323 (nin1 ne961)
   have bx967 := bx967.keep k1323 (nin1 (Ne.symm ne970))
   refine wl_n (o_store1 (vI (1 : Int)) rfl rfl rfl s_28 (by repeat (first | assumption | constructor)) bx967 (of_decide_eq_true rfl) s1321 fun w1325 s1326 m1327 k1328 bx1329 => (?_))
   have bx943 := bx943.keep k1328 (nin1 ne969)
   have bx1324 := bx1324.keep k1328 (nin1 ne970)
   refine wl_nil (thenQ_n (?_))
   refine cw_ret (thenQ_r (endD_r rfl (resv2 rfl (rv_A (vs := [vI (0 : Int), vI (0 : Int), vI (0 : Int), Value.slice none 0 0, Value.slice none 0 0]) rfl Try.underlying25 rfl s_25 rfl bx1324 rfl) (rv_c rfl Try.underlying28 rfl rfl bx1329 rfl)) (both_r (?_))))
   refine wl_s (o_extract (Value.agg #[vI (0 : Int), vI (0 : Int), vI (0 : Int), Value.slice none 0 0, Value.slice none 0 0]) rfl rfl (wl_s (o_extract (vI (1 : Int)) rfl rfl (wl_n (o_store (vs := [vI (0 : Int), vI (0 : Int), vI (0 : Int), Value.slice none 0 0, Value.slice none 0 0]) (.agg #[vI (0 : Int), vI (0 : Int), vI (0 : Int), Value.slice none 0 0, Value.slice none 0 0]) rfl rfl rfl s_25 (fun u hu => by simp only [List.mem_cons, List.not_mem_nil, or_false] at hu; rcases hu with rfl | rfl | rfl | rfl | rfl <;> first | rfl) (by repeat (first | assumption | constructor)) bx943 (of_decide_eq_true rfl) s1326 fun w1330 s1331 m1332 k1333 bx1334 => (?_))))))
   refine wl_s (o_assign (vI (1 : Int)) rfl (wl_nil (thenQ_n (?_))))
   refine cw_ret (end_r rfl (resv2 rfl (rv_A (vs := [vI (0 : Int), vI (0 : Int), vI (0 : Int), Value.slice none 0 0, Value.slice none 0 0]) rfl Try.underlying25 rfl s_25 rfl bx1334 rfl) (rv_t rfl rfl)) (?_))
   have e1335 : ((gAct c no (fVeto day)).1) = (⟨(0 : Int), (0 : Int), (0 : Int), [], []⟩ : Circle) := by first | exact congrArg (fun p => p.1) (show gAct c no (fVeto day) = _ from veto_no hok (by omega)) | exact congrArg (fun p => p.1) (show gAct c no (fVeto day) = _ from veto_day hok (by omega) (by omega) (by assumption))
   have e1336 : ((gAct c no (fVeto day)).2) = (1 : Int) := by first | exact congrArg (fun p => p.2) (show gAct c no (fVeto day) = _ from veto_no hok (by omega)) | exact congrArg (fun p => p.2) (show gAct c no (fVeto day) = _ from veto_day hok (by omega) (by omega) (by assumption))
   exact ⟨_, rfl, s1331.keep, by rw [e1335, e1336]; exact ⟨[vI (0 : Int), vI (0 : Int), vI (0 : Int), Value.slice none 0 0, Value.slice none 0 0], rfl, Enc.out (B := (b962 :: (b954 :: (b938 :: [])))) ⟨.slice none 0 0, .slice none 0 0, rfl, (RdL.nil _ _ _), (RdL.nil _ _ _)⟩⟩⟩

end Go.Proofs.Ytpdekmknnpkmgaa
