/- Walks, printed by gen.py. -/
import Derived.Test.YtjpniibleelgiaaRows
import Derived.Test.YtjpniibleelgiaaMaA
import Derived.Test.YtjpniibleelgiaaSd
import Derived.Test.YtjpniibleelgiaaFwK
set_option linter.unusedSimpArgs false
set_option linter.unusedVariables false
namespace Go.Proofs.Ytjpniibleelgiaa
open Go.Fw Go.RowKit

theorem s_1 : sizeT Try.prog 1 = some 1 := by kernel_rfl
theorem z_1 : zeroT Try.prog 1 = some (.nilFunc) := by kernel_rfl
theorem i_1 : (Try.prog.info? 1).map (fun i => (i.zero, i.size, i.bytes)) = some (some (.nilFunc), 1, 8) := by kernel_rfl
theorem s_2 : sizeT Try.prog 2 = some 1 := by kernel_rfl
theorem z_2 : zeroT Try.prog 2 = some (.int .i64 0) := by kernel_rfl
theorem i_2 : (Try.prog.info? 2).map (fun i => (i.zero, i.size, i.bytes)) = some (some (.int .i64 0), 1, 8) := by kernel_rfl
theorem s_3 : sizeT Try.prog 3 = some 1 := by kernel_rfl
theorem z_3 : zeroT Try.prog 3 = some (.int .i64 0) := by kernel_rfl
theorem i_3 : (Try.prog.info? 3).map (fun i => (i.zero, i.size, i.bytes)) = some (some (.int .i64 0), 1, 8) := by kernel_rfl
theorem s_4 : sizeT Try.prog 4 = some 1 := by kernel_rfl
theorem z_4 : zeroT Try.prog 4 = some (.bool false) := by kernel_rfl
theorem i_4 : (Try.prog.info? 4).map (fun i => (i.zero, i.size, i.bytes)) = some (some (.bool false), 1, 1) := by kernel_rfl
theorem s_5 : sizeT Try.prog 5 = some 1 := by kernel_rfl
theorem z_5 : zeroT Try.prog 5 = some (.int .u8 0) := by kernel_rfl
theorem i_5 : (Try.prog.info? 5).map (fun i => (i.zero, i.size, i.bytes)) = some (some (.int .u8 0), 1, 1) := by kernel_rfl
theorem s_6 : sizeT Try.prog 6 = some 1 := by kernel_rfl
theorem z_6 : zeroT Try.prog 6 = some (.int .u8 0) := by kernel_rfl
theorem i_6 : (Try.prog.info? 6).map (fun i => (i.zero, i.size, i.bytes)) = some (some (.int .u8 0), 1, 1) := by kernel_rfl
theorem s_7 : sizeT Try.prog 7 = some 4 := by kernel_rfl
theorem z_7 : zeroT Try.prog 7 = some (.agg #[.int .i64 0, .int .i64 0, .bool false, .int .u8 0]) := by kernel_rfl
theorem i_7 : (Try.prog.info? 7).map (fun i => (i.zero, i.size, i.bytes)) = some (some (.agg #[.int .i64 0, .int .i64 0, .bool false, .int .u8 0]), 4, 24) := by kernel_rfl
theorem pl_7 : placesB Try.prog 7 = some [(0, 1), (1, 1), (2, 1), (3, 1)] := by kernel_rfl
theorem f_7_0 : fieldOff Try.prog 7 0 = some 0 := by kernel_rfl
theorem f_7_1 : fieldOff Try.prog 7 1 = some 1 := by kernel_rfl
theorem f_7_2 : fieldOff Try.prog 7 2 = some 2 := by kernel_rfl
theorem f_7_3 : fieldOff Try.prog 7 3 = some 3 := by kernel_rfl
theorem s_8 : sizeT Try.prog 8 = some 4 := by kernel_rfl
theorem z_8 : zeroT Try.prog 8 = some (.agg #[.int .i64 0, .int .i64 0, .bool false, .int .u8 0]) := by kernel_rfl
theorem i_8 : (Try.prog.info? 8).map (fun i => (i.zero, i.size, i.bytes)) = some (some (.agg #[.int .i64 0, .int .i64 0, .bool false, .int .u8 0]), 4, 24) := by kernel_rfl
theorem pl_8 : placesB Try.prog 8 = some [(0, 1), (1, 1), (2, 1), (3, 1)] := by kernel_rfl
theorem f_8_0 : fieldOff Try.prog 8 0 = some 0 := by kernel_rfl
theorem f_8_1 : fieldOff Try.prog 8 1 = some 1 := by kernel_rfl
theorem f_8_2 : fieldOff Try.prog 8 2 = some 2 := by kernel_rfl
theorem f_8_3 : fieldOff Try.prog 8 3 = some 3 := by kernel_rfl
theorem s_9 : sizeT Try.prog 9 = some 1 := by kernel_rfl
theorem s_10 : sizeT Try.prog 10 = some 1 := by kernel_rfl
theorem s_11 : sizeT Try.prog 11 = some 1 := by kernel_rfl
theorem s_12 : sizeT Try.prog 12 = some 1 := by kernel_rfl
theorem z_12 : zeroT Try.prog 12 = some (.int .u64 0) := by kernel_rfl
theorem i_12 : (Try.prog.info? 12).map (fun i => (i.zero, i.size, i.bytes)) = some (some (.int .u64 0), 1, 8) := by kernel_rfl
theorem s_13 : sizeT Try.prog 13 = some 2 := by kernel_rfl
theorem pl_13 : placesB Try.prog 13 = some [(0, 1), (1, 1)] := by kernel_rfl
theorem f_13_0 : fieldOff Try.prog 13 0 = some 0 := by kernel_rfl
theorem f_13_1 : fieldOff Try.prog 13 1 = some 1 := by kernel_rfl
theorem s_14 : sizeT Try.prog 14 = some 2 := by kernel_rfl
theorem pl_14 : placesB Try.prog 14 = some [(0, 1), (1, 1)] := by kernel_rfl
theorem f_14_0 : fieldOff Try.prog 14 0 = some 0 := by kernel_rfl
theorem f_14_1 : fieldOff Try.prog 14 1 = some 1 := by kernel_rfl
theorem s_15 : sizeT Try.prog 15 = some 1 := by kernel_rfl
theorem z_15 : zeroT Try.prog 15 = some (.pointer none) := by kernel_rfl
theorem i_15 : (Try.prog.info? 15).map (fun i => (i.zero, i.size, i.bytes)) = some (some (.pointer none), 1, 8) := by kernel_rfl
theorem s_16 : sizeT Try.prog 16 = some 1 := by kernel_rfl
theorem z_16 : zeroT Try.prog 16 = some (.pointer none) := by kernel_rfl
theorem i_16 : (Try.prog.info? 16).map (fun i => (i.zero, i.size, i.bytes)) = some (some (.pointer none), 1, 8) := by kernel_rfl
theorem s_17 : sizeT Try.prog 17 = some 1 := by kernel_rfl
theorem z_17 : zeroT Try.prog 17 = some (.pointer none) := by kernel_rfl
theorem i_17 : (Try.prog.info? 17).map (fun i => (i.zero, i.size, i.bytes)) = some (some (.pointer none), 1, 8) := by kernel_rfl
theorem s_18 : sizeT Try.prog 18 = some 1 := by kernel_rfl
theorem z_18 : zeroT Try.prog 18 = some (.agg #[.pointer none]) := by kernel_rfl
theorem i_18 : (Try.prog.info? 18).map (fun i => (i.zero, i.size, i.bytes)) = some (some (.agg #[.pointer none]), 1, 8) := by kernel_rfl
theorem pl_18 : placesB Try.prog 18 = some [(0, 1)] := by kernel_rfl
theorem f_18_0 : fieldOff Try.prog 18 0 = some 0 := by kernel_rfl
theorem s_19 : sizeT Try.prog 19 = some 1 := by kernel_rfl
theorem z_19 : zeroT Try.prog 19 = some (.agg #[.pointer none]) := by kernel_rfl
theorem i_19 : (Try.prog.info? 19).map (fun i => (i.zero, i.size, i.bytes)) = some (some (.agg #[.pointer none]), 1, 8) := by kernel_rfl
theorem pl_19 : placesB Try.prog 19 = some [(0, 1)] := by kernel_rfl
theorem f_19_0 : fieldOff Try.prog 19 0 = some 0 := by kernel_rfl
theorem s_21 : sizeT Try.prog 21 = some 1 := by kernel_rfl
theorem z_21 : zeroT Try.prog 21 = some (.int .i32 0) := by kernel_rfl
theorem i_21 : (Try.prog.info? 21).map (fun i => (i.zero, i.size, i.bytes)) = some (some (.int .i32 0), 1, 4) := by kernel_rfl
theorem s_22 : sizeT Try.prog 22 = some 1 := by kernel_rfl
theorem z_22 : zeroT Try.prog 22 = some (.slice none 0 0) := by kernel_rfl
theorem i_22 : (Try.prog.info? 22).map (fun i => (i.zero, i.size, i.bytes)) = some (some (.slice none 0 0), 1, 24) := by kernel_rfl
theorem s_23 : sizeT Try.prog 23 = some 1 := by kernel_rfl
theorem z_23 : zeroT Try.prog 23 = some (.nilFunc) := by kernel_rfl
theorem i_23 : (Try.prog.info? 23).map (fun i => (i.zero, i.size, i.bytes)) = some (some (.nilFunc), 1, 8) := by kernel_rfl
theorem s_24 : sizeT Try.prog 24 = some 1 := by kernel_rfl
theorem z_24 : zeroT Try.prog 24 = some (.slice none 0 0) := by kernel_rfl
theorem i_24 : (Try.prog.info? 24).map (fun i => (i.zero, i.size, i.bytes)) = some (some (.slice none 0 0), 1, 24) := by kernel_rfl
theorem s_25 : sizeT Try.prog 25 = some 1 := by kernel_rfl
theorem z_25 : zeroT Try.prog 25 = some (.slice none 0 0) := by kernel_rfl
theorem i_25 : (Try.prog.info? 25).map (fun i => (i.zero, i.size, i.bytes)) = some (some (.slice none 0 0), 1, 24) := by kernel_rfl
theorem s_26 : sizeT Try.prog 26 = some 1 := by kernel_rfl
theorem z_26 : zeroT Try.prog 26 = some (.slice none 0 0) := by kernel_rfl
theorem i_26 : (Try.prog.info? 26).map (fun i => (i.zero, i.size, i.bytes)) = some (some (.slice none 0 0), 1, 24) := by kernel_rfl
theorem s_27 : sizeT Try.prog 27 = some 1 := by kernel_rfl
theorem z_27 : zeroT Try.prog 27 = some (.slice none 0 0) := by kernel_rfl
theorem i_27 : (Try.prog.info? 27).map (fun i => (i.zero, i.size, i.bytes)) = some (some (.slice none 0 0), 1, 24) := by kernel_rfl
theorem s_28 : sizeT Try.prog 28 = some 4 := by kernel_rfl
theorem z_28 : zeroT Try.prog 28 = some (.agg #[.slice none 0 0, .slice none 0 0, .slice none 0 0, .slice none 0 0]) := by kernel_rfl
theorem i_28 : (Try.prog.info? 28).map (fun i => (i.zero, i.size, i.bytes)) = some (some (.agg #[.slice none 0 0, .slice none 0 0, .slice none 0 0, .slice none 0 0]), 4, 96) := by kernel_rfl
theorem pl_28 : placesB Try.prog 28 = some [(0, 1), (1, 1), (2, 1), (3, 1)] := by kernel_rfl
theorem f_28_0 : fieldOff Try.prog 28 0 = some 0 := by kernel_rfl
theorem f_28_1 : fieldOff Try.prog 28 1 = some 1 := by kernel_rfl
theorem f_28_2 : fieldOff Try.prog 28 2 = some 2 := by kernel_rfl
theorem f_28_3 : fieldOff Try.prog 28 3 = some 3 := by kernel_rfl
theorem s_29 : sizeT Try.prog 29 = some 4 := by kernel_rfl
theorem z_29 : zeroT Try.prog 29 = some (.agg #[.slice none 0 0, .slice none 0 0, .slice none 0 0, .slice none 0 0]) := by kernel_rfl
theorem i_29 : (Try.prog.info? 29).map (fun i => (i.zero, i.size, i.bytes)) = some (some (.agg #[.slice none 0 0, .slice none 0 0, .slice none 0 0, .slice none 0 0]), 4, 96) := by kernel_rfl
theorem pl_29 : placesB Try.prog 29 = some [(0, 1), (1, 1), (2, 1), (3, 1)] := by kernel_rfl
theorem f_29_0 : fieldOff Try.prog 29 0 = some 0 := by kernel_rfl
theorem f_29_1 : fieldOff Try.prog 29 1 = some 1 := by kernel_rfl
theorem f_29_2 : fieldOff Try.prog 29 2 = some 2 := by kernel_rfl
theorem f_29_3 : fieldOff Try.prog 29 3 = some 3 := by kernel_rfl
theorem s_30 : sizeT Try.prog 30 = some 4 := by kernel_rfl
theorem z_30 : zeroT Try.prog 30 = some (.agg #[.int .i64 0, .int .i64 0, .slice none 0 0, .bool false]) := by kernel_rfl
theorem i_30 : (Try.prog.info? 30).map (fun i => (i.zero, i.size, i.bytes)) = some (some (.agg #[.int .i64 0, .int .i64 0, .slice none 0 0, .bool false]), 4, 48) := by kernel_rfl
theorem pl_30 : placesB Try.prog 30 = some [(0, 1), (1, 1), (2, 1), (3, 1)] := by kernel_rfl
theorem f_30_0 : fieldOff Try.prog 30 0 = some 0 := by kernel_rfl
theorem f_30_1 : fieldOff Try.prog 30 1 = some 1 := by kernel_rfl
theorem f_30_2 : fieldOff Try.prog 30 2 = some 2 := by kernel_rfl
theorem f_30_3 : fieldOff Try.prog 30 3 = some 3 := by kernel_rfl
theorem s_31 : sizeT Try.prog 31 = some 4 := by kernel_rfl
theorem z_31 : zeroT Try.prog 31 = some (.agg #[.int .i64 0, .int .i64 0, .slice none 0 0, .bool false]) := by kernel_rfl
theorem i_31 : (Try.prog.info? 31).map (fun i => (i.zero, i.size, i.bytes)) = some (some (.agg #[.int .i64 0, .int .i64 0, .slice none 0 0, .bool false]), 4, 48) := by kernel_rfl
theorem pl_31 : placesB Try.prog 31 = some [(0, 1), (1, 1), (2, 1), (3, 1)] := by kernel_rfl
theorem f_31_0 : fieldOff Try.prog 31 0 = some 0 := by kernel_rfl
theorem f_31_1 : fieldOff Try.prog 31 1 = some 1 := by kernel_rfl
theorem f_31_2 : fieldOff Try.prog 31 2 = some 2 := by kernel_rfl
theorem f_31_3 : fieldOff Try.prog 31 3 = some 3 := by kernel_rfl
theorem s_32 : sizeT Try.prog 32 = some 1 := by kernel_rfl
theorem z_32 : zeroT Try.prog 32 = some (.int .i64 0) := by kernel_rfl
theorem i_32 : (Try.prog.info? 32).map (fun i => (i.zero, i.size, i.bytes)) = some (some (.int .i64 0), 1, 8) := by kernel_rfl
theorem s_34 : sizeT Try.prog 34 = some 1 := by kernel_rfl
theorem z_34 : zeroT Try.prog 34 = some (.nilFunc) := by kernel_rfl
theorem i_34 : (Try.prog.info? 34).map (fun i => (i.zero, i.size, i.bytes)) = some (some (.nilFunc), 1, 8) := by kernel_rfl
theorem s_35 : sizeT Try.prog 35 = some 1 := by kernel_rfl
theorem z_35 : zeroT Try.prog 35 = some (.nilFunc) := by kernel_rfl
theorem i_35 : (Try.prog.info? 35).map (fun i => (i.zero, i.size, i.bytes)) = some (some (.nilFunc), 1, 8) := by kernel_rfl
theorem s_36 : sizeT Try.prog 36 = some 6 := by kernel_rfl
theorem z_36 : zeroT Try.prog 36 = some (.agg #[.int .u8 0, .int .u8 0, .int .u8 0, .int .u8 0, .int .u8 0, .int .u8 0]) := by kernel_rfl
theorem i_36 : (Try.prog.info? 36).map (fun i => (i.zero, i.size, i.bytes)) = some (some (.agg #[.int .u8 0, .int .u8 0, .int .u8 0, .int .u8 0, .int .u8 0, .int .u8 0]), 6, 6) := by kernel_rfl
theorem pl_36 : placesB Try.prog 36 = some [(0, 1), (1, 1), (2, 1), (3, 1), (4, 1), (5, 1)] := by kernel_rfl
theorem f_36_0 : fieldOff Try.prog 36 0 = some 0 := by kernel_rfl
theorem f_36_1 : fieldOff Try.prog 36 1 = some 1 := by kernel_rfl
theorem f_36_2 : fieldOff Try.prog 36 2 = some 2 := by kernel_rfl
theorem f_36_3 : fieldOff Try.prog 36 3 = some 3 := by kernel_rfl
theorem f_36_4 : fieldOff Try.prog 36 4 = some 4 := by kernel_rfl
theorem f_36_5 : fieldOff Try.prog 36 5 = some 5 := by kernel_rfl
theorem s_37 : sizeT Try.prog 37 = some 6 := by kernel_rfl
theorem z_37 : zeroT Try.prog 37 = some (.agg #[.int .u8 0, .int .u8 0, .int .u8 0, .int .u8 0, .int .u8 0, .int .u8 0]) := by kernel_rfl
theorem i_37 : (Try.prog.info? 37).map (fun i => (i.zero, i.size, i.bytes)) = some (some (.agg #[.int .u8 0, .int .u8 0, .int .u8 0, .int .u8 0, .int .u8 0, .int .u8 0]), 6, 6) := by kernel_rfl
theorem pl_37 : placesB Try.prog 37 = some [(0, 1), (1, 1), (2, 1), (3, 1), (4, 1), (5, 1)] := by kernel_rfl
theorem f_37_0 : fieldOff Try.prog 37 0 = some 0 := by kernel_rfl
theorem f_37_1 : fieldOff Try.prog 37 1 = some 1 := by kernel_rfl
theorem f_37_2 : fieldOff Try.prog 37 2 = some 2 := by kernel_rfl
theorem f_37_3 : fieldOff Try.prog 37 3 = some 3 := by kernel_rfl
theorem f_37_4 : fieldOff Try.prog 37 4 = some 4 := by kernel_rfl
theorem f_37_5 : fieldOff Try.prog 37 5 = some 5 := by kernel_rfl
theorem s_38 : sizeT Try.prog 38 = some 1 := by kernel_rfl
theorem z_38 : zeroT Try.prog 38 = some (.nilFunc) := by kernel_rfl
theorem i_38 : (Try.prog.info? 38).map (fun i => (i.zero, i.size, i.bytes)) = some (some (.nilFunc), 1, 8) := by kernel_rfl
theorem s_39 : sizeT Try.prog 39 = some 6 := by kernel_rfl
theorem z_39 : zeroT Try.prog 39 = some (.agg #[.int .i64 0, .int .i64 0, .int .i64 0, .int .i64 0, .int .i64 0, .int .i64 0]) := by kernel_rfl
theorem i_39 : (Try.prog.info? 39).map (fun i => (i.zero, i.size, i.bytes)) = some (some (.agg #[.int .i64 0, .int .i64 0, .int .i64 0, .int .i64 0, .int .i64 0, .int .i64 0]), 6, 48) := by kernel_rfl
theorem pl_39 : placesB Try.prog 39 = some [(0, 1), (1, 1), (2, 1), (3, 1), (4, 1), (5, 1)] := by kernel_rfl
theorem f_39_0 : fieldOff Try.prog 39 0 = some 0 := by kernel_rfl
theorem f_39_1 : fieldOff Try.prog 39 1 = some 1 := by kernel_rfl
theorem f_39_2 : fieldOff Try.prog 39 2 = some 2 := by kernel_rfl
theorem f_39_3 : fieldOff Try.prog 39 3 = some 3 := by kernel_rfl
theorem f_39_4 : fieldOff Try.prog 39 4 = some 4 := by kernel_rfl
theorem f_39_5 : fieldOff Try.prog 39 5 = some 5 := by kernel_rfl
theorem s_40 : sizeT Try.prog 40 = some 6 := by kernel_rfl
theorem z_40 : zeroT Try.prog 40 = some (.agg #[.int .i64 0, .int .i64 0, .int .i64 0, .int .i64 0, .int .i64 0, .int .i64 0]) := by kernel_rfl
theorem i_40 : (Try.prog.info? 40).map (fun i => (i.zero, i.size, i.bytes)) = some (some (.agg #[.int .i64 0, .int .i64 0, .int .i64 0, .int .i64 0, .int .i64 0, .int .i64 0]), 6, 48) := by kernel_rfl
theorem pl_40 : placesB Try.prog 40 = some [(0, 1), (1, 1), (2, 1), (3, 1), (4, 1), (5, 1)] := by kernel_rfl
theorem f_40_0 : fieldOff Try.prog 40 0 = some 0 := by kernel_rfl
theorem f_40_1 : fieldOff Try.prog 40 1 = some 1 := by kernel_rfl
theorem f_40_2 : fieldOff Try.prog 40 2 = some 2 := by kernel_rfl
theorem f_40_3 : fieldOff Try.prog 40 3 = some 3 := by kernel_rfl
theorem f_40_4 : fieldOff Try.prog 40 4 = some 4 := by kernel_rfl
theorem f_40_5 : fieldOff Try.prog 40 5 = some 5 := by kernel_rfl
theorem s_42 : sizeT Try.prog 42 = some 1 := by kernel_rfl
theorem z_42 : zeroT Try.prog 42 = some (.nilFunc) := by kernel_rfl
theorem i_42 : (Try.prog.info? 42).map (fun i => (i.zero, i.size, i.bytes)) = some (some (.nilFunc), 1, 8) := by kernel_rfl
theorem s_43 : sizeT Try.prog 43 = some 1 := by kernel_rfl
theorem z_43 : zeroT Try.prog 43 = some (.slice none 0 0) := by kernel_rfl
theorem i_43 : (Try.prog.info? 43).map (fun i => (i.zero, i.size, i.bytes)) = some (some (.slice none 0 0), 1, 24) := by kernel_rfl
theorem s_45 : sizeT Try.prog 45 = some 1 := by kernel_rfl
theorem z_45 : zeroT Try.prog 45 = some (.nilFunc) := by kernel_rfl
theorem i_45 : (Try.prog.info? 45).map (fun i => (i.zero, i.size, i.bytes)) = some (some (.nilFunc), 1, 8) := by kernel_rfl
theorem s_46 : sizeT Try.prog 46 = some 4 := by kernel_rfl
theorem z_46 : zeroT Try.prog 46 = some (.agg #[.int .i64 0, .int .i64 0, .int .i64 0, .bool false]) := by kernel_rfl
theorem i_46 : (Try.prog.info? 46).map (fun i => (i.zero, i.size, i.bytes)) = some (some (.agg #[.int .i64 0, .int .i64 0, .int .i64 0, .bool false]), 4, 32) := by kernel_rfl
theorem pl_46 : placesB Try.prog 46 = some [(0, 1), (1, 1), (2, 1), (3, 1)] := by kernel_rfl
theorem f_46_0 : fieldOff Try.prog 46 0 = some 0 := by kernel_rfl
theorem f_46_1 : fieldOff Try.prog 46 1 = some 1 := by kernel_rfl
theorem f_46_2 : fieldOff Try.prog 46 2 = some 2 := by kernel_rfl
theorem f_46_3 : fieldOff Try.prog 46 3 = some 3 := by kernel_rfl
theorem s_47 : sizeT Try.prog 47 = some 4 := by kernel_rfl
theorem z_47 : zeroT Try.prog 47 = some (.agg #[.int .i64 0, .int .i64 0, .int .i64 0, .bool false]) := by kernel_rfl
theorem i_47 : (Try.prog.info? 47).map (fun i => (i.zero, i.size, i.bytes)) = some (some (.agg #[.int .i64 0, .int .i64 0, .int .i64 0, .bool false]), 4, 32) := by kernel_rfl
theorem pl_47 : placesB Try.prog 47 = some [(0, 1), (1, 1), (2, 1), (3, 1)] := by kernel_rfl
theorem f_47_0 : fieldOff Try.prog 47 0 = some 0 := by kernel_rfl
theorem f_47_1 : fieldOff Try.prog 47 1 = some 1 := by kernel_rfl
theorem f_47_2 : fieldOff Try.prog 47 2 = some 2 := by kernel_rfl
theorem f_47_3 : fieldOff Try.prog 47 3 = some 3 := by kernel_rfl
theorem s_48 : sizeT Try.prog 48 = some 1 := by kernel_rfl
theorem z_48 : zeroT Try.prog 48 = some (.nilFunc) := by kernel_rfl
theorem i_48 : (Try.prog.info? 48).map (fun i => (i.zero, i.size, i.bytes)) = some (some (.nilFunc), 1, 8) := by kernel_rfl
theorem s_49 : sizeT Try.prog 49 = some 1 := by kernel_rfl
theorem z_49 : zeroT Try.prog 49 = some (.nilFunc) := by kernel_rfl
theorem i_49 : (Try.prog.info? 49).map (fun i => (i.zero, i.size, i.bytes)) = some (some (.nilFunc), 1, 8) := by kernel_rfl
theorem s_50 : sizeT Try.prog 50 = some 1 := by kernel_rfl
theorem z_50 : zeroT Try.prog 50 = some (.nilFunc) := by kernel_rfl
theorem i_50 : (Try.prog.info? 50).map (fun i => (i.zero, i.size, i.bytes)) = some (some (.nilFunc), 1, 8) := by kernel_rfl
theorem s_51 : sizeT Try.prog 51 = some 1 := by kernel_rfl
theorem z_51 : zeroT Try.prog 51 = some (.nilFunc) := by kernel_rfl
theorem i_51 : (Try.prog.info? 51).map (fun i => (i.zero, i.size, i.bytes)) = some (some (.nilFunc), 1, 8) := by kernel_rfl
theorem s_52 : sizeT Try.prog 52 = some 1 := by kernel_rfl
theorem z_52 : zeroT Try.prog 52 = some (.nilFunc) := by kernel_rfl
theorem i_52 : (Try.prog.info? 52).map (fun i => (i.zero, i.size, i.bytes)) = some (some (.nilFunc), 1, 8) := by kernel_rfl
theorem s_53 : sizeT Try.prog 53 = some 1 := by kernel_rfl
theorem z_53 : zeroT Try.prog 53 = some (.nilFunc) := by kernel_rfl
theorem i_53 : (Try.prog.info? 53).map (fun i => (i.zero, i.size, i.bytes)) = some (some (.nilFunc), 1, 8) := by kernel_rfl
theorem s_55 : sizeT Try.prog 55 = some 1 := by kernel_rfl
theorem z_55 : zeroT Try.prog 55 = some (.nilFunc) := by kernel_rfl
theorem i_55 : (Try.prog.info? 55).map (fun i => (i.zero, i.size, i.bytes)) = some (some (.nilFunc), 1, 8) := by kernel_rfl
theorem s_56 : sizeT Try.prog 56 = some 1 := by kernel_rfl
theorem z_56 : zeroT Try.prog 56 = some (.nilFunc) := by kernel_rfl
theorem i_56 : (Try.prog.info? 56).map (fun i => (i.zero, i.size, i.bytes)) = some (some (.nilFunc), 1, 8) := by kernel_rfl
theorem s_57 : sizeT Try.prog 57 = some 1 := by kernel_rfl
theorem z_57 : zeroT Try.prog 57 = some (.nilFunc) := by kernel_rfl
theorem i_57 : (Try.prog.info? 57).map (fun i => (i.zero, i.size, i.bytes)) = some (some (.nilFunc), 1, 8) := by kernel_rfl
theorem s_58 : sizeT Try.prog 58 = some 1 := by kernel_rfl
theorem z_58 : zeroT Try.prog 58 = some (.slice none 0 0) := by kernel_rfl
theorem i_58 : (Try.prog.info? 58).map (fun i => (i.zero, i.size, i.bytes)) = some (some (.slice none 0 0), 1, 24) := by kernel_rfl
theorem s_59 : sizeT Try.prog 59 = some 1 := by kernel_rfl
theorem z_59 : zeroT Try.prog 59 = some (.nilFunc) := by kernel_rfl
theorem i_59 : (Try.prog.info? 59).map (fun i => (i.zero, i.size, i.bytes)) = some (some (.nilFunc), 1, 8) := by kernel_rfl
theorem s_60 : sizeT Try.prog 60 = some 1 := by kernel_rfl
theorem z_60 : zeroT Try.prog 60 = some (.nilFunc) := by kernel_rfl
theorem i_60 : (Try.prog.info? 60).map (fun i => (i.zero, i.size, i.bytes)) = some (some (.nilFunc), 1, 8) := by kernel_rfl
theorem s_61 : sizeT Try.prog 61 = some 1 := by kernel_rfl
theorem z_61 : zeroT Try.prog 61 = some (.nilFunc) := by kernel_rfl
theorem i_61 : (Try.prog.info? 61).map (fun i => (i.zero, i.size, i.bytes)) = some (some (.nilFunc), 1, 8) := by kernel_rfl
theorem s_62 : sizeT Try.prog 62 = some 1 := by kernel_rfl
theorem z_62 : zeroT Try.prog 62 = some (.nilFunc) := by kernel_rfl
theorem i_62 : (Try.prog.info? 62).map (fun i => (i.zero, i.size, i.bytes)) = some (some (.nilFunc), 1, 8) := by kernel_rfl
theorem s_63 : sizeT Try.prog 63 = some 1 := by kernel_rfl
theorem z_63 : zeroT Try.prog 63 = some (.nilFunc) := by kernel_rfl
theorem i_63 : (Try.prog.info? 63).map (fun i => (i.zero, i.size, i.bytes)) = some (some (.nilFunc), 1, 8) := by kernel_rfl
theorem s_64 : sizeT Try.prog 64 = some 1 := by kernel_rfl
theorem z_64 : zeroT Try.prog 64 = some (.nilFunc) := by kernel_rfl
theorem i_64 : (Try.prog.info? 64).map (fun i => (i.zero, i.size, i.bytes)) = some (some (.nilFunc), 1, 8) := by kernel_rfl
theorem s_65 : sizeT Try.prog 65 = some 1 := by kernel_rfl
theorem z_65 : zeroT Try.prog 65 = some (.nilFunc) := by kernel_rfl
theorem i_65 : (Try.prog.info? 65).map (fun i => (i.zero, i.size, i.bytes)) = some (some (.nilFunc), 1, 8) := by kernel_rfl
theorem s_66 : sizeT Try.prog 66 = some 1 := by kernel_rfl
theorem z_66 : zeroT Try.prog 66 = some (.nilFunc) := by kernel_rfl
theorem i_66 : (Try.prog.info? 66).map (fun i => (i.zero, i.size, i.bytes)) = some (some (.nilFunc), 1, 8) := by kernel_rfl
theorem s_67 : sizeT Try.prog 67 = some 1 := by kernel_rfl
theorem z_67 : zeroT Try.prog 67 = some (.nilFunc) := by kernel_rfl
theorem i_67 : (Try.prog.info? 67).map (fun i => (i.zero, i.size, i.bytes)) = some (some (.nilFunc), 1, 8) := by kernel_rfl
theorem s_68 : sizeT Try.prog 68 = some 1 := by kernel_rfl
theorem z_68 : zeroT Try.prog 68 = some (.nilFunc) := by kernel_rfl
theorem i_68 : (Try.prog.info? 68).map (fun i => (i.zero, i.size, i.bytes)) = some (some (.nilFunc), 1, 8) := by kernel_rfl
theorem s_69 : sizeT Try.prog 69 = some 1 := by kernel_rfl
theorem z_69 : zeroT Try.prog 69 = some (.nilFunc) := by kernel_rfl
theorem i_69 : (Try.prog.info? 69).map (fun i => (i.zero, i.size, i.bytes)) = some (some (.nilFunc), 1, 8) := by kernel_rfl
theorem s_70 : sizeT Try.prog 70 = some 1 := by kernel_rfl
theorem z_70 : zeroT Try.prog 70 = some (.nilFunc) := by kernel_rfl
theorem i_70 : (Try.prog.info? 70).map (fun i => (i.zero, i.size, i.bytes)) = some (some (.nilFunc), 1, 8) := by kernel_rfl
theorem s_71 : sizeT Try.prog 71 = some 1 := by kernel_rfl
theorem z_71 : zeroT Try.prog 71 = some (.nilFunc) := by kernel_rfl
theorem i_71 : (Try.prog.info? 71).map (fun i => (i.zero, i.size, i.bytes)) = some (some (.nilFunc), 1, 8) := by kernel_rfl
theorem s_72 : sizeT Try.prog 72 = some 1 := by kernel_rfl
theorem z_72 : zeroT Try.prog 72 = some (.nilFunc) := by kernel_rfl
theorem i_72 : (Try.prog.info? 72).map (fun i => (i.zero, i.size, i.bytes)) = some (some (.nilFunc), 1, 8) := by kernel_rfl
theorem s_73 : sizeT Try.prog 73 = some 1 := by kernel_rfl
theorem z_73 : zeroT Try.prog 73 = some (.nilFunc) := by kernel_rfl
theorem i_73 : (Try.prog.info? 73).map (fun i => (i.zero, i.size, i.bytes)) = some (some (.nilFunc), 1, 8) := by kernel_rfl
theorem s_74 : sizeT Try.prog 74 = some 1 := by kernel_rfl
theorem z_74 : zeroT Try.prog 74 = some (.slice none 0 0) := by kernel_rfl
theorem i_74 : (Try.prog.info? 74).map (fun i => (i.zero, i.size, i.bytes)) = some (some (.slice none 0 0), 1, 24) := by kernel_rfl
theorem s_75 : sizeT Try.prog 75 = some 6 := by kernel_rfl
theorem z_75 : zeroT Try.prog 75 = some (.agg #[.int .i64 0, .int .i64 0, .slice none 0 0, .bool false, .slice none 0 0, .slice none 0 0]) := by kernel_rfl
theorem i_75 : (Try.prog.info? 75).map (fun i => (i.zero, i.size, i.bytes)) = some (some (.agg #[.int .i64 0, .int .i64 0, .slice none 0 0, .bool false, .slice none 0 0, .slice none 0 0]), 6, 96) := by kernel_rfl
theorem pl_75 : placesB Try.prog 75 = some [(0, 4), (4, 1), (5, 1)] := by kernel_rfl
theorem f_75_0 : fieldOff Try.prog 75 0 = some 0 := by kernel_rfl
theorem f_75_1 : fieldOff Try.prog 75 1 = some 4 := by kernel_rfl
theorem f_75_2 : fieldOff Try.prog 75 2 = some 5 := by kernel_rfl
theorem s_76 : sizeT Try.prog 76 = some 6 := by kernel_rfl
theorem z_76 : zeroT Try.prog 76 = some (.agg #[.int .i64 0, .int .i64 0, .slice none 0 0, .bool false, .slice none 0 0, .slice none 0 0]) := by kernel_rfl
theorem i_76 : (Try.prog.info? 76).map (fun i => (i.zero, i.size, i.bytes)) = some (some (.agg #[.int .i64 0, .int .i64 0, .slice none 0 0, .bool false, .slice none 0 0, .slice none 0 0]), 6, 96) := by kernel_rfl
theorem pl_76 : placesB Try.prog 76 = some [(0, 4), (4, 1), (5, 1)] := by kernel_rfl
theorem f_76_0 : fieldOff Try.prog 76 0 = some 0 := by kernel_rfl
theorem f_76_1 : fieldOff Try.prog 76 1 = some 4 := by kernel_rfl
theorem f_76_2 : fieldOff Try.prog 76 2 = some 5 := by kernel_rfl
theorem s_77 : sizeT Try.prog 77 = some 1 := by kernel_rfl
theorem z_77 : zeroT Try.prog 77 = some (.nilFunc) := by kernel_rfl
theorem i_77 : (Try.prog.info? 77).map (fun i => (i.zero, i.size, i.bytes)) = some (some (.nilFunc), 1, 8) := by kernel_rfl
theorem s_78 : sizeT Try.prog 78 = some 6 := by kernel_rfl
theorem z_78 : zeroT Try.prog 78 = some (.agg #[.int .u8 0, .int .u8 0, .int .u8 0, .int .u8 0, .int .u8 0, .bool false]) := by kernel_rfl
theorem i_78 : (Try.prog.info? 78).map (fun i => (i.zero, i.size, i.bytes)) = some (some (.agg #[.int .u8 0, .int .u8 0, .int .u8 0, .int .u8 0, .int .u8 0, .bool false]), 6, 6) := by kernel_rfl
theorem pl_78 : placesB Try.prog 78 = some [(0, 1), (1, 1), (2, 1), (3, 1), (4, 1), (5, 1)] := by kernel_rfl
theorem f_78_0 : fieldOff Try.prog 78 0 = some 0 := by kernel_rfl
theorem f_78_1 : fieldOff Try.prog 78 1 = some 1 := by kernel_rfl
theorem f_78_2 : fieldOff Try.prog 78 2 = some 2 := by kernel_rfl
theorem f_78_3 : fieldOff Try.prog 78 3 = some 3 := by kernel_rfl
theorem f_78_4 : fieldOff Try.prog 78 4 = some 4 := by kernel_rfl
theorem f_78_5 : fieldOff Try.prog 78 5 = some 5 := by kernel_rfl
theorem s_79 : sizeT Try.prog 79 = some 6 := by kernel_rfl
theorem z_79 : zeroT Try.prog 79 = some (.agg #[.int .u8 0, .int .u8 0, .int .u8 0, .int .u8 0, .int .u8 0, .bool false]) := by kernel_rfl
theorem i_79 : (Try.prog.info? 79).map (fun i => (i.zero, i.size, i.bytes)) = some (some (.agg #[.int .u8 0, .int .u8 0, .int .u8 0, .int .u8 0, .int .u8 0, .bool false]), 6, 6) := by kernel_rfl
theorem pl_79 : placesB Try.prog 79 = some [(0, 1), (1, 1), (2, 1), (3, 1), (4, 1), (5, 1)] := by kernel_rfl
theorem f_79_0 : fieldOff Try.prog 79 0 = some 0 := by kernel_rfl
theorem f_79_1 : fieldOff Try.prog 79 1 = some 1 := by kernel_rfl
theorem f_79_2 : fieldOff Try.prog 79 2 = some 2 := by kernel_rfl
theorem f_79_3 : fieldOff Try.prog 79 3 = some 3 := by kernel_rfl
theorem f_79_4 : fieldOff Try.prog 79 4 = some 4 := by kernel_rfl
theorem f_79_5 : fieldOff Try.prog 79 5 = some 5 := by kernel_rfl
theorem s_80 : sizeT Try.prog 80 = some 1 := by kernel_rfl
theorem z_80 : zeroT Try.prog 80 = some (.nilFunc) := by kernel_rfl
theorem i_80 : (Try.prog.info? 80).map (fun i => (i.zero, i.size, i.bytes)) = some (some (.nilFunc), 1, 8) := by kernel_rfl
theorem s_81 : sizeT Try.prog 81 = some 1 := by kernel_rfl
theorem z_81 : zeroT Try.prog 81 = some (.nilFunc) := by kernel_rfl
theorem i_81 : (Try.prog.info? 81).map (fun i => (i.zero, i.size, i.bytes)) = some (some (.nilFunc), 1, 8) := by kernel_rfl
theorem s_82 : sizeT Try.prog 82 = some 1 := by kernel_rfl
theorem z_82 : zeroT Try.prog 82 = some (.nilFunc) := by kernel_rfl
theorem i_82 : (Try.prog.info? 82).map (fun i => (i.zero, i.size, i.bytes)) = some (some (.nilFunc), 1, 8) := by kernel_rfl
theorem s_83 : sizeT Try.prog 83 = some 1 := by kernel_rfl
theorem z_83 : zeroT Try.prog 83 = some (.nilFunc) := by kernel_rfl
theorem i_83 : (Try.prog.info? 83).map (fun i => (i.zero, i.size, i.bytes)) = some (some (.nilFunc), 1, 8) := by kernel_rfl
theorem s_84 : sizeT Try.prog 84 = some 1 := by kernel_rfl
theorem z_84 : zeroT Try.prog 84 = some (.nilFunc) := by kernel_rfl
theorem i_84 : (Try.prog.info? 84).map (fun i => (i.zero, i.size, i.bytes)) = some (some (.nilFunc), 1, 8) := by kernel_rfl
theorem s_85 : sizeT Try.prog 85 = some 1 := by kernel_rfl
theorem z_85 : zeroT Try.prog 85 = some (.nilFunc) := by kernel_rfl
theorem i_85 : (Try.prog.info? 85).map (fun i => (i.zero, i.size, i.bytes)) = some (some (.nilFunc), 1, 8) := by kernel_rfl
theorem s_86 : sizeT Try.prog 86 = some 1 := by kernel_rfl
theorem z_86 : zeroT Try.prog 86 = some (.nilFunc) := by kernel_rfl
theorem i_86 : (Try.prog.info? 86).map (fun i => (i.zero, i.size, i.bytes)) = some (some (.nilFunc), 1, 8) := by kernel_rfl
theorem s_87 : sizeT Try.prog 87 = some 1 := by kernel_rfl
theorem z_87 : zeroT Try.prog 87 = some (.nilFunc) := by kernel_rfl
theorem i_87 : (Try.prog.info? 87).map (fun i => (i.zero, i.size, i.bytes)) = some (some (.nilFunc), 1, 8) := by kernel_rfl
theorem s_88 : sizeT Try.prog 88 = some 1 := by kernel_rfl
theorem z_88 : zeroT Try.prog 88 = some (.nilFunc) := by kernel_rfl
theorem i_88 : (Try.prog.info? 88).map (fun i => (i.zero, i.size, i.bytes)) = some (some (.nilFunc), 1, 8) := by kernel_rfl
theorem s_89 : sizeT Try.prog 89 = some 2 := by kernel_rfl
theorem z_89 : zeroT Try.prog 89 = some (.agg #[.int .i64 0, .int .i64 0]) := by kernel_rfl
theorem i_89 : (Try.prog.info? 89).map (fun i => (i.zero, i.size, i.bytes)) = some (some (.agg #[.int .i64 0, .int .i64 0]), 2, 16) := by kernel_rfl
theorem pl_89 : placesB Try.prog 89 = some [(0, 1), (1, 1)] := by kernel_rfl
theorem f_89_0 : fieldOff Try.prog 89 0 = some 0 := by kernel_rfl
theorem f_89_1 : fieldOff Try.prog 89 1 = some 1 := by kernel_rfl
theorem s_90 : sizeT Try.prog 90 = some 2 := by kernel_rfl
theorem z_90 : zeroT Try.prog 90 = some (.agg #[.int .i64 0, .int .i64 0]) := by kernel_rfl
theorem i_90 : (Try.prog.info? 90).map (fun i => (i.zero, i.size, i.bytes)) = some (some (.agg #[.int .i64 0, .int .i64 0]), 2, 16) := by kernel_rfl
theorem pl_90 : placesB Try.prog 90 = some [(0, 1), (1, 1)] := by kernel_rfl
theorem f_90_0 : fieldOff Try.prog 90 0 = some 0 := by kernel_rfl
theorem f_90_1 : fieldOff Try.prog 90 1 = some 1 := by kernel_rfl
theorem s_91 : sizeT Try.prog 91 = some 1 := by kernel_rfl
theorem z_91 : zeroT Try.prog 91 = some (.nilFunc) := by kernel_rfl
theorem i_91 : (Try.prog.info? 91).map (fun i => (i.zero, i.size, i.bytes)) = some (some (.nilFunc), 1, 8) := by kernel_rfl
theorem s_93 : sizeT Try.prog 93 = some 1 := by kernel_rfl
theorem z_93 : zeroT Try.prog 93 = some (.nilFunc) := by kernel_rfl
theorem i_93 : (Try.prog.info? 93).map (fun i => (i.zero, i.size, i.bytes)) = some (some (.nilFunc), 1, 8) := by kernel_rfl
theorem s_94 : sizeT Try.prog 94 = some 1 := by kernel_rfl
theorem z_94 : zeroT Try.prog 94 = some (.nilFunc) := by kernel_rfl
theorem i_94 : (Try.prog.info? 94).map (fun i => (i.zero, i.size, i.bytes)) = some (some (.nilFunc), 1, 8) := by kernel_rfl
theorem s_95 : sizeT Try.prog 95 = some 1 := by kernel_rfl
theorem z_95 : zeroT Try.prog 95 = some (.nilFunc) := by kernel_rfl
theorem i_95 : (Try.prog.info? 95).map (fun i => (i.zero, i.size, i.bytes)) = some (some (.nilFunc), 1, 8) := by kernel_rfl
theorem s_96 : sizeT Try.prog 96 = some 1 := by kernel_rfl
theorem z_96 : zeroT Try.prog 96 = some (.nilFunc) := by kernel_rfl
theorem i_96 : (Try.prog.info? 96).map (fun i => (i.zero, i.size, i.bytes)) = some (some (.nilFunc), 1, 8) := by kernel_rfl
theorem s_97 : sizeT Try.prog 97 = some 1 := by kernel_rfl
theorem z_97 : zeroT Try.prog 97 = some (.map none) := by kernel_rfl
theorem i_97 : (Try.prog.info? 97).map (fun i => (i.zero, i.size, i.bytes)) = some (some (.map none), 1, 8) := by kernel_rfl
theorem s_99 : sizeT Try.prog 99 = some 1 := by kernel_rfl
theorem z_99 : zeroT Try.prog 99 = some (.nilFunc) := by kernel_rfl
theorem i_99 : (Try.prog.info? 99).map (fun i => (i.zero, i.size, i.bytes)) = some (some (.nilFunc), 1, 8) := by kernel_rfl
theorem s_100 : sizeT Try.prog 100 = some 1 := by kernel_rfl
theorem z_100 : zeroT Try.prog 100 = some (.nilFunc) := by kernel_rfl
theorem i_100 : (Try.prog.info? 100).map (fun i => (i.zero, i.size, i.bytes)) = some (some (.nilFunc), 1, 8) := by kernel_rfl
theorem s_101 : sizeT Try.prog 101 = some 1 := by kernel_rfl
theorem z_101 : zeroT Try.prog 101 = some (.nilFunc) := by kernel_rfl
theorem i_101 : (Try.prog.info? 101).map (fun i => (i.zero, i.size, i.bytes)) = some (some (.nilFunc), 1, 8) := by kernel_rfl
theorem s_102 : sizeT Try.prog 102 = some 1 := by kernel_rfl
theorem z_102 : zeroT Try.prog 102 = some (.nilFunc) := by kernel_rfl
theorem i_102 : (Try.prog.info? 102).map (fun i => (i.zero, i.size, i.bytes)) = some (some (.nilFunc), 1, 8) := by kernel_rfl
theorem s_103 : sizeT Try.prog 103 = some 1 := by kernel_rfl
theorem z_103 : zeroT Try.prog 103 = some (.nilFunc) := by kernel_rfl
theorem i_103 : (Try.prog.info? 103).map (fun i => (i.zero, i.size, i.bytes)) = some (some (.nilFunc), 1, 8) := by kernel_rfl
theorem s_104 : sizeT Try.prog 104 = some 1 := by kernel_rfl
theorem z_104 : zeroT Try.prog 104 = some (.nilFunc) := by kernel_rfl
theorem i_104 : (Try.prog.info? 104).map (fun i => (i.zero, i.size, i.bytes)) = some (some (.nilFunc), 1, 8) := by kernel_rfl
theorem s_105 : sizeT Try.prog 105 = some 1 := by kernel_rfl
theorem z_105 : zeroT Try.prog 105 = some (.nilFunc) := by kernel_rfl
theorem i_105 : (Try.prog.info? 105).map (fun i => (i.zero, i.size, i.bytes)) = some (some (.nilFunc), 1, 8) := by kernel_rfl
theorem s_106 : sizeT Try.prog 106 = some 1 := by kernel_rfl
theorem z_106 : zeroT Try.prog 106 = some (.nilFunc) := by kernel_rfl
theorem i_106 : (Try.prog.info? 106).map (fun i => (i.zero, i.size, i.bytes)) = some (some (.nilFunc), 1, 8) := by kernel_rfl
theorem s_107 : sizeT Try.prog 107 = some 1 := by kernel_rfl
theorem z_107 : zeroT Try.prog 107 = some (.nilFunc) := by kernel_rfl
theorem i_107 : (Try.prog.info? 107).map (fun i => (i.zero, i.size, i.bytes)) = some (some (.nilFunc), 1, 8) := by kernel_rfl
theorem s_108 : sizeT Try.prog 108 = some 1 := by kernel_rfl
theorem z_108 : zeroT Try.prog 108 = some (.nilFunc) := by kernel_rfl
theorem i_108 : (Try.prog.info? 108).map (fun i => (i.zero, i.size, i.bytes)) = some (some (.nilFunc), 1, 8) := by kernel_rfl
theorem s_109 : sizeT Try.prog 109 = some 1 := by kernel_rfl
theorem z_109 : zeroT Try.prog 109 = some (.nilFunc) := by kernel_rfl
theorem i_109 : (Try.prog.info? 109).map (fun i => (i.zero, i.size, i.bytes)) = some (some (.nilFunc), 1, 8) := by kernel_rfl
theorem s_110 : sizeT Try.prog 110 = some 1 := by kernel_rfl
theorem z_110 : zeroT Try.prog 110 = some (.nilFunc) := by kernel_rfl
theorem i_110 : (Try.prog.info? 110).map (fun i => (i.zero, i.size, i.bytes)) = some (some (.nilFunc), 1, 8) := by kernel_rfl
theorem s_111 : sizeT Try.prog 111 = some 4 := by kernel_rfl
theorem z_111 : zeroT Try.prog 111 = some (.agg #[.int .i64 0, .int .i64 0, .slice none 0 0, .bool false]) := by kernel_rfl
theorem i_111 : (Try.prog.info? 111).map (fun i => (i.zero, i.size, i.bytes)) = some (some (.agg #[.int .i64 0, .int .i64 0, .slice none 0 0, .bool false]), 4, 48) := by kernel_rfl
theorem pl_111 : placesB Try.prog 111 = some [(0, 4)] := by kernel_rfl
theorem f_111_0 : fieldOff Try.prog 111 0 = some 0 := by kernel_rfl
theorem s_112 : sizeT Try.prog 112 = some 4 := by kernel_rfl
theorem z_112 : zeroT Try.prog 112 = some (.agg #[.int .i64 0, .int .i64 0, .slice none 0 0, .bool false]) := by kernel_rfl
theorem i_112 : (Try.prog.info? 112).map (fun i => (i.zero, i.size, i.bytes)) = some (some (.agg #[.int .i64 0, .int .i64 0, .slice none 0 0, .bool false]), 4, 48) := by kernel_rfl
theorem pl_112 : placesB Try.prog 112 = some [(0, 4)] := by kernel_rfl
theorem f_112_0 : fieldOff Try.prog 112 0 = some 0 := by kernel_rfl
theorem s_113 : sizeT Try.prog 113 = some 2 := by kernel_rfl
theorem z_113 : zeroT Try.prog 113 = some (.agg #[.nilFunc, .int .i64 0]) := by kernel_rfl
theorem i_113 : (Try.prog.info? 113).map (fun i => (i.zero, i.size, i.bytes)) = some (some (.agg #[.nilFunc, .int .i64 0]), 2, 16) := by kernel_rfl
theorem pl_113 : placesB Try.prog 113 = some [(0, 1), (1, 1)] := by kernel_rfl
theorem f_113_0 : fieldOff Try.prog 113 0 = some 0 := by kernel_rfl
theorem f_113_1 : fieldOff Try.prog 113 1 = some 1 := by kernel_rfl
theorem s_114 : sizeT Try.prog 114 = some 1 := by kernel_rfl
theorem z_114 : zeroT Try.prog 114 = some (.slice none 0 0) := by kernel_rfl
theorem i_114 : (Try.prog.info? 114).map (fun i => (i.zero, i.size, i.bytes)) = some (some (.slice none 0 0), 1, 24) := by kernel_rfl
theorem s_115 : sizeT Try.prog 115 = some 1 := by kernel_rfl
theorem z_115 : zeroT Try.prog 115 = some (.nilFunc) := by kernel_rfl
theorem i_115 : (Try.prog.info? 115).map (fun i => (i.zero, i.size, i.bytes)) = some (some (.nilFunc), 1, 8) := by kernel_rfl
theorem s_116 : sizeT Try.prog 116 = some 1 := by kernel_rfl
theorem z_116 : zeroT Try.prog 116 = some (.nilFunc) := by kernel_rfl
theorem i_116 : (Try.prog.info? 116).map (fun i => (i.zero, i.size, i.bytes)) = some (some (.nilFunc), 1, 8) := by kernel_rfl
theorem s_117 : sizeT Try.prog 117 = some 1 := by kernel_rfl
theorem z_117 : zeroT Try.prog 117 = some (.nilFunc) := by kernel_rfl
theorem i_117 : (Try.prog.info? 117).map (fun i => (i.zero, i.size, i.bytes)) = some (some (.nilFunc), 1, 8) := by kernel_rfl
theorem s_118 : sizeT Try.prog 118 = some 1 := by kernel_rfl
theorem z_118 : zeroT Try.prog 118 = some (.nilFunc) := by kernel_rfl
theorem i_118 : (Try.prog.info? 118).map (fun i => (i.zero, i.size, i.bytes)) = some (some (.nilFunc), 1, 8) := by kernel_rfl
theorem s_119 : sizeT Try.prog 119 = some 1 := by kernel_rfl
theorem z_119 : zeroT Try.prog 119 = some (.int .u64 0) := by kernel_rfl
theorem i_119 : (Try.prog.info? 119).map (fun i => (i.zero, i.size, i.bytes)) = some (some (.int .u64 0), 1, 8) := by kernel_rfl
theorem s_120 : sizeT Try.prog 120 = some 1 := by kernel_rfl
theorem z_120 : zeroT Try.prog 120 = some (.nilFunc) := by kernel_rfl
theorem i_120 : (Try.prog.info? 120).map (fun i => (i.zero, i.size, i.bytes)) = some (some (.nilFunc), 1, 8) := by kernel_rfl
theorem s_121 : sizeT Try.prog 121 = some 1 := by kernel_rfl
theorem z_121 : zeroT Try.prog 121 = some (.nilFunc) := by kernel_rfl
theorem i_121 : (Try.prog.info? 121).map (fun i => (i.zero, i.size, i.bytes)) = some (some (.nilFunc), 1, 8) := by kernel_rfl
theorem s_122 : sizeT Try.prog 122 = some 1 := by kernel_rfl
theorem z_122 : zeroT Try.prog 122 = some (.nilFunc) := by kernel_rfl
theorem i_122 : (Try.prog.info? 122).map (fun i => (i.zero, i.size, i.bytes)) = some (some (.nilFunc), 1, 8) := by kernel_rfl
theorem s_123 : sizeT Try.prog 123 = some 1 := by kernel_rfl
theorem z_123 : zeroT Try.prog 123 = some (.map none) := by kernel_rfl
theorem i_123 : (Try.prog.info? 123).map (fun i => (i.zero, i.size, i.bytes)) = some (some (.map none), 1, 8) := by kernel_rfl
theorem s_124 : sizeT Try.prog 124 = some 1 := by kernel_rfl
theorem z_124 : zeroT Try.prog 124 = some (.nilFunc) := by kernel_rfl
theorem i_124 : (Try.prog.info? 124).map (fun i => (i.zero, i.size, i.bytes)) = some (some (.nilFunc), 1, 8) := by kernel_rfl
theorem s_125 : sizeT Try.prog 125 = some 1 := by kernel_rfl
theorem z_125 : zeroT Try.prog 125 = some (.nilFunc) := by kernel_rfl
theorem i_125 : (Try.prog.info? 125).map (fun i => (i.zero, i.size, i.bytes)) = some (some (.nilFunc), 1, 8) := by kernel_rfl
theorem s_126 : sizeT Try.prog 126 = some 1 := by kernel_rfl
theorem z_126 : zeroT Try.prog 126 = some (.nilFunc) := by kernel_rfl
theorem i_126 : (Try.prog.info? 126).map (fun i => (i.zero, i.size, i.bytes)) = some (some (.nilFunc), 1, 8) := by kernel_rfl
theorem s_127 : sizeT Try.prog 127 = some 1 := by kernel_rfl
theorem z_127 : zeroT Try.prog 127 = some (.nilFunc) := by kernel_rfl
theorem i_127 : (Try.prog.info? 127).map (fun i => (i.zero, i.size, i.bytes)) = some (some (.nilFunc), 1, 8) := by kernel_rfl
theorem s_128 : sizeT Try.prog 128 = some 1 := by kernel_rfl
theorem z_128 : zeroT Try.prog 128 = some (.slice none 0 0) := by kernel_rfl
theorem i_128 : (Try.prog.info? 128).map (fun i => (i.zero, i.size, i.bytes)) = some (some (.slice none 0 0), 1, 24) := by kernel_rfl
theorem s_129 : sizeT Try.prog 129 = some 1 := by kernel_rfl
theorem z_129 : zeroT Try.prog 129 = some (.nilFunc) := by kernel_rfl
theorem i_129 : (Try.prog.info? 129).map (fun i => (i.zero, i.size, i.bytes)) = some (some (.nilFunc), 1, 8) := by kernel_rfl
theorem s_130 : sizeT Try.prog 130 = some 1 := by kernel_rfl
theorem z_130 : zeroT Try.prog 130 = some (.nilFunc) := by kernel_rfl
theorem i_130 : (Try.prog.info? 130).map (fun i => (i.zero, i.size, i.bytes)) = some (some (.nilFunc), 1, 8) := by kernel_rfl
theorem s_131 : sizeT Try.prog 131 = some 1 := by kernel_rfl
theorem z_131 : zeroT Try.prog 131 = some (.nilFunc) := by kernel_rfl
theorem i_131 : (Try.prog.info? 131).map (fun i => (i.zero, i.size, i.bytes)) = some (some (.nilFunc), 1, 8) := by kernel_rfl
theorem s_132 : sizeT Try.prog 132 = some 4 := by kernel_rfl
theorem pl_132 : placesB Try.prog 132 = some [(0, 1), (1, 1), (2, 1), (3, 1)] := by kernel_rfl
theorem f_132_0 : fieldOff Try.prog 132 0 = some 0 := by kernel_rfl
theorem f_132_1 : fieldOff Try.prog 132 1 = some 1 := by kernel_rfl
theorem f_132_2 : fieldOff Try.prog 132 2 = some 2 := by kernel_rfl
theorem f_132_3 : fieldOff Try.prog 132 3 = some 3 := by kernel_rfl
theorem s_133 : sizeT Try.prog 133 = some 4 := by kernel_rfl
theorem pl_133 : placesB Try.prog 133 = some [(0, 1), (1, 1), (2, 1), (3, 1)] := by kernel_rfl
theorem f_133_0 : fieldOff Try.prog 133 0 = some 0 := by kernel_rfl
theorem f_133_1 : fieldOff Try.prog 133 1 = some 1 := by kernel_rfl
theorem f_133_2 : fieldOff Try.prog 133 2 = some 2 := by kernel_rfl
theorem f_133_3 : fieldOff Try.prog 133 3 = some 3 := by kernel_rfl
theorem s_134 : sizeT Try.prog 134 = some 0 := by kernel_rfl
theorem z_134 : zeroT Try.prog 134 = some (.agg #[]) := by kernel_rfl
theorem i_134 : (Try.prog.info? 134).map (fun i => (i.zero, i.size, i.bytes)) = some (some (.agg #[]), 0, 0) := by kernel_rfl
theorem s_135 : sizeT Try.prog 135 = some 0 := by kernel_rfl
theorem z_135 : zeroT Try.prog 135 = some (.agg #[]) := by kernel_rfl
theorem i_135 : (Try.prog.info? 135).map (fun i => (i.zero, i.size, i.bytes)) = some (some (.agg #[]), 0, 0) := by kernel_rfl
theorem pl_135 : placesB Try.prog 135 = some [(0, 0)] := by kernel_rfl
theorem s_136 : sizeT Try.prog 136 = some 0 := by kernel_rfl
theorem z_136 : zeroT Try.prog 136 = some (.agg #[]) := by kernel_rfl
theorem i_136 : (Try.prog.info? 136).map (fun i => (i.zero, i.size, i.bytes)) = some (some (.agg #[]), 0, 0) := by kernel_rfl
theorem pl_136 : placesB Try.prog 136 = some [(0, 0)] := by kernel_rfl
theorem s_137 : sizeT Try.prog 137 = some 1 := by kernel_rfl
theorem z_137 : zeroT Try.prog 137 = some (.nilFunc) := by kernel_rfl
theorem i_137 : (Try.prog.info? 137).map (fun i => (i.zero, i.size, i.bytes)) = some (some (.nilFunc), 1, 8) := by kernel_rfl
theorem s_138 : sizeT Try.prog 138 = some 1 := by kernel_rfl
theorem z_138 : zeroT Try.prog 138 = some (.int .u32 0) := by kernel_rfl
theorem i_138 : (Try.prog.info? 138).map (fun i => (i.zero, i.size, i.bytes)) = some (some (.int .u32 0), 1, 4) := by kernel_rfl
theorem s_139 : sizeT Try.prog 139 = some 1 := by kernel_rfl
theorem z_139 : zeroT Try.prog 139 = some (.int .u8 0) := by kernel_rfl
theorem i_139 : (Try.prog.info? 139).map (fun i => (i.zero, i.size, i.bytes)) = some (some (.int .u8 0), 1, 1) := by kernel_rfl
theorem s_140 : sizeT Try.prog 140 = some 1 := by kernel_rfl
theorem z_140 : zeroT Try.prog 140 = some (.int .u8 0) := by kernel_rfl
theorem i_140 : (Try.prog.info? 140).map (fun i => (i.zero, i.size, i.bytes)) = some (some (.int .u8 0), 1, 1) := by kernel_rfl
theorem s_141 : sizeT Try.prog 141 = some 1 := by kernel_rfl
theorem z_141 : zeroT Try.prog 141 = some (.nilFunc) := by kernel_rfl
theorem i_141 : (Try.prog.info? 141).map (fun i => (i.zero, i.size, i.bytes)) = some (some (.nilFunc), 1, 8) := by kernel_rfl
theorem s_142 : sizeT Try.prog 142 = some 1 := by kernel_rfl
theorem z_142 : zeroT Try.prog 142 = some (.pointer none) := by kernel_rfl
theorem i_142 : (Try.prog.info? 142).map (fun i => (i.zero, i.size, i.bytes)) = some (some (.pointer none), 1, 8) := by kernel_rfl
theorem s_143 : sizeT Try.prog 143 = some 1 := by kernel_rfl
theorem z_143 : zeroT Try.prog 143 = some (.int .i32 0) := by kernel_rfl
theorem i_143 : (Try.prog.info? 143).map (fun i => (i.zero, i.size, i.bytes)) = some (some (.int .i32 0), 1, 4) := by kernel_rfl
theorem s_144 : sizeT Try.prog 144 = some 1 := by kernel_rfl
theorem z_144 : zeroT Try.prog 144 = some (.int .i32 0) := by kernel_rfl
theorem i_144 : (Try.prog.info? 144).map (fun i => (i.zero, i.size, i.bytes)) = some (some (.int .i32 0), 1, 4) := by kernel_rfl
theorem s_145 : sizeT Try.prog 145 = some 11 := by kernel_rfl
theorem z_145 : zeroT Try.prog 145 = some (.agg #[.int .u64 0, .int .u64 0, .int .u32 0, .int .u8 0, .int .u8 0, .int .u8 0, .int .u8 0, .nilFunc, .pointer none, .int .i32 0, .int .i32 0]) := by kernel_rfl
theorem i_145 : (Try.prog.info? 145).map (fun i => (i.zero, i.size, i.bytes)) = some (some (.agg #[.int .u64 0, .int .u64 0, .int .u32 0, .int .u8 0, .int .u8 0, .int .u8 0, .int .u8 0, .nilFunc, .pointer none, .int .i32 0, .int .i32 0]), 11, 48) := by kernel_rfl
theorem pl_145 : placesB Try.prog 145 = some [(0, 1), (1, 1), (2, 1), (3, 1), (4, 1), (5, 1), (6, 1), (7, 1), (8, 1), (9, 1), (10, 1)] := by kernel_rfl
theorem f_145_0 : fieldOff Try.prog 145 0 = some 0 := by kernel_rfl
theorem f_145_1 : fieldOff Try.prog 145 1 = some 1 := by kernel_rfl
theorem f_145_2 : fieldOff Try.prog 145 2 = some 2 := by kernel_rfl
theorem f_145_3 : fieldOff Try.prog 145 3 = some 3 := by kernel_rfl
theorem f_145_4 : fieldOff Try.prog 145 4 = some 4 := by kernel_rfl
theorem f_145_5 : fieldOff Try.prog 145 5 = some 5 := by kernel_rfl
theorem f_145_6 : fieldOff Try.prog 145 6 = some 6 := by kernel_rfl
theorem f_145_7 : fieldOff Try.prog 145 7 = some 7 := by kernel_rfl
theorem f_145_8 : fieldOff Try.prog 145 8 = some 8 := by kernel_rfl
theorem f_145_9 : fieldOff Try.prog 145 9 = some 9 := by kernel_rfl
theorem f_145_10 : fieldOff Try.prog 145 10 = some 10 := by kernel_rfl
theorem s_146 : sizeT Try.prog 146 = some 11 := by kernel_rfl
theorem z_146 : zeroT Try.prog 146 = some (.agg #[.int .u64 0, .int .u64 0, .int .u32 0, .int .u8 0, .int .u8 0, .int .u8 0, .int .u8 0, .nilFunc, .pointer none, .int .i32 0, .int .i32 0]) := by kernel_rfl
theorem i_146 : (Try.prog.info? 146).map (fun i => (i.zero, i.size, i.bytes)) = some (some (.agg #[.int .u64 0, .int .u64 0, .int .u32 0, .int .u8 0, .int .u8 0, .int .u8 0, .int .u8 0, .nilFunc, .pointer none, .int .i32 0, .int .i32 0]), 11, 48) := by kernel_rfl
theorem pl_146 : placesB Try.prog 146 = some [(0, 1), (1, 1), (2, 1), (3, 1), (4, 1), (5, 1), (6, 1), (7, 1), (8, 1), (9, 1), (10, 1)] := by kernel_rfl
theorem f_146_0 : fieldOff Try.prog 146 0 = some 0 := by kernel_rfl
theorem f_146_1 : fieldOff Try.prog 146 1 = some 1 := by kernel_rfl
theorem f_146_2 : fieldOff Try.prog 146 2 = some 2 := by kernel_rfl
theorem f_146_3 : fieldOff Try.prog 146 3 = some 3 := by kernel_rfl
theorem f_146_4 : fieldOff Try.prog 146 4 = some 4 := by kernel_rfl
theorem f_146_5 : fieldOff Try.prog 146 5 = some 5 := by kernel_rfl
theorem f_146_6 : fieldOff Try.prog 146 6 = some 6 := by kernel_rfl
theorem f_146_7 : fieldOff Try.prog 146 7 = some 7 := by kernel_rfl
theorem f_146_8 : fieldOff Try.prog 146 8 = some 8 := by kernel_rfl
theorem f_146_9 : fieldOff Try.prog 146 9 = some 9 := by kernel_rfl
theorem f_146_10 : fieldOff Try.prog 146 10 = some 10 := by kernel_rfl
theorem s_147 : sizeT Try.prog 147 = some 1 := by kernel_rfl
theorem z_147 : zeroT Try.prog 147 = some (.pointer none) := by kernel_rfl
theorem i_147 : (Try.prog.info? 147).map (fun i => (i.zero, i.size, i.bytes)) = some (some (.pointer none), 1, 8) := by kernel_rfl
theorem flat_devop : flatT Try.prog 40 [true, true, true, true, true, true] = true := by kernel_rfl
theorem str_devop : Try.prog.underlying 40 = some (.struct (Try.prog.fieldsOf 40)) := by kernel_rfl
def cl_devop (x : DeviceOp) : List (Int ⊕ Bool) := [.inl x.device, .inl x.no, .inl x.kind, .inl x.copy, .inl x.to, .inl x.token]
theorem cs_devop (x y : DeviceOp) : decide (([.inl x.device, .inl x.no, .inl x.kind, .inl x.copy, .inl x.to, .inl x.token] : List (Int ⊕ Bool)) = [.inl y.device, .inl y.no, .inl y.kind, .inl y.copy, .inl y.to, .inl y.token]) = (x == y) := by
  rw [Bool.eq_iff_iff, decide_eq_true_eq, beq_iff_eq, DeviceOp.ext_iff]
  simp
abbrev encv_devop (x : DeviceOp) : Value := .agg #[vI x.device, vI x.no, vI x.kind, vI x.copy, vI x.to, vI x.token]
theorem key_devop : KeyT Try.prog 40 encv_devop :=
  have h : KeyT Try.prog 40 (fun x : DeviceOp => Value.agg ((cl_devop x).map cellV).toArray) := key_flat (P := Try.prog) (kt := 40) (κ := DeviceOp) cl_devop str_devop flat_devop (fun _ => rfl) (fun a b h => beq_iff_eq.1 ((cs_devop a b).symm.trans (decide_eq_true h)))
  h

theorem flat_holding : flatT Try.prog 47 [true, true, true, false] = true := by kernel_rfl
theorem str_holding : Try.prog.underlying 47 = some (.struct (Try.prog.fieldsOf 47)) := by kernel_rfl
def cl_holding (x : Holding) : List (Int ⊕ Bool) := [.inl x.copy, .inl x.device, .inl x.token, .inr x.shown]
theorem cs_holding (x y : Holding) : decide (([.inl x.copy, .inl x.device, .inl x.token, .inr x.shown] : List (Int ⊕ Bool)) = [.inl y.copy, .inl y.device, .inl y.token, .inr y.shown]) = (x == y) := by
  rw [Bool.eq_iff_iff, decide_eq_true_eq, beq_iff_eq, Holding.ext_iff]
  simp
abbrev encv_holding (x : Holding) : Value := .agg #[vI x.copy, vI x.device, vI x.token, .bool x.shown]
theorem key_holding : KeyT Try.prog 47 encv_holding :=
  have h : KeyT Try.prog 47 (fun x : Holding => Value.agg ((cl_holding x).map cellV).toArray) := key_flat (P := Try.prog) (kt := 47) (κ := Holding) cl_holding str_holding flat_holding (fun _ => rfl) (fun a b h => beq_iff_eq.1 ((cs_holding a b).symm.trans (decide_eq_true h)))
  h

theorem flat_devno : flatT Try.prog 90 [true, true] = true := by kernel_rfl
theorem str_devno : Try.prog.underlying 90 = some (.struct (Try.prog.fieldsOf 90)) := by kernel_rfl
def cl_devno (x : DevNo) : List (Int ⊕ Bool) := [.inl x.device, .inl x.no]
theorem cs_devno (x y : DevNo) : decide (([.inl x.device, .inl x.no] : List (Int ⊕ Bool)) = [.inl y.device, .inl y.no]) = (x == y) := by
  rw [Bool.eq_iff_iff, decide_eq_true_eq, beq_iff_eq, DevNo.ext_iff]
  simp
abbrev encv_devno (x : DevNo) : Value := .agg #[vI x.device, vI x.no]
theorem key_devno : KeyT Try.prog 90 encv_devno :=
  have h : KeyT Try.prog 90 (fun x : DevNo => Value.agg ((cl_devno x).map cellV).toArray) := key_flat (P := Try.prog) (kt := 90) (κ := DevNo) cl_devno str_devno flat_devno (fun _ => rfl) (fun a b h => beq_iff_eq.1 ((cs_devno a b).symm.trans (decide_eq_true h)))
  h

theorem enter_2 (xs : Array Value) (w : World) : (callFunc 2 xs).run Try.prog w = .ok (.enter 2 xs) w := run_enterF Try.func2 (by kernel_rfl) rfl xs w
theorem enter_3 (xs : Array Value) (w : World) : (callFunc 3 xs).run Try.prog w = .ok (.enter 3 xs) w := run_enterF Try.func3 (by kernel_rfl) rfl xs w
theorem enter_4 (xs : Array Value) (w : World) : (callFunc 4 xs).run Try.prog w = .ok (.enter 4 xs) w := run_enterF Try.func4 (by kernel_rfl) rfl xs w
theorem enter_5 (xs : Array Value) (w : World) : (callFunc 5 xs).run Try.prog w = .ok (.enter 5 xs) w := run_enterF Try.func5 (by kernel_rfl) rfl xs w
theorem enter_6 (xs : Array Value) (w : World) : (callFunc 6 xs).run Try.prog w = .ok (.enter 6 xs) w := run_enterF Try.func6 (by kernel_rfl) rfl xs w
theorem enter_7 (xs : Array Value) (w : World) : (callFunc 7 xs).run Try.prog w = .ok (.enter 7 xs) w := run_enterF Try.func7 (by kernel_rfl) rfl xs w
theorem enter_8 (xs : Array Value) (w : World) : (callFunc 8 xs).run Try.prog w = .ok (.enter 8 xs) w := run_enterF Try.func8 (by kernel_rfl) rfl xs w
theorem enter_9 (xs : Array Value) (w : World) : (callFunc 9 xs).run Try.prog w = .ok (.enter 9 xs) w := run_enterF Try.func9 (by kernel_rfl) rfl xs w
theorem enter_10 (xs : Array Value) (w : World) : (callFunc 10 xs).run Try.prog w = .ok (.enter 10 xs) w := run_enterF Try.func10 (by kernel_rfl) rfl xs w
theorem enter_11 (xs : Array Value) (w : World) : (callFunc 11 xs).run Try.prog w = .ok (.enter 11 xs) w := run_enterF Try.func11 (by kernel_rfl) rfl xs w
theorem enter_12 (xs : Array Value) (w : World) : (callFunc 12 xs).run Try.prog w = .ok (.enter 12 xs) w := run_enterF Try.func12 (by kernel_rfl) rfl xs w
theorem enter_13 (xs : Array Value) (w : World) : (callFunc 13 xs).run Try.prog w = .ok (.enter 13 xs) w := run_enterF Try.func13 (by kernel_rfl) rfl xs w
theorem enter_14 (xs : Array Value) (w : World) : (callFunc 14 xs).run Try.prog w = .ok (.enter 14 xs) w := run_enterF Try.func14 (by kernel_rfl) rfl xs w
theorem enter_15 (xs : Array Value) (w : World) : (callFunc 15 xs).run Try.prog w = .ok (.enter 15 xs) w := run_enterF Try.func15 (by kernel_rfl) rfl xs w
theorem enter_16 (xs : Array Value) (w : World) : (callFunc 16 xs).run Try.prog w = .ok (.enter 16 xs) w := run_enterF Try.func16 (by kernel_rfl) rfl xs w
theorem enter_17 (xs : Array Value) (w : World) : (callFunc 17 xs).run Try.prog w = .ok (.enter 17 xs) w := run_enterF Try.func17 (by kernel_rfl) rfl xs w
theorem enter_18 (xs : Array Value) (w : World) : (callFunc 18 xs).run Try.prog w = .ok (.enter 18 xs) w := run_enterF Try.func18 (by kernel_rfl) rfl xs w
theorem enter_19 (xs : Array Value) (w : World) : (callFunc 19 xs).run Try.prog w = .ok (.enter 19 xs) w := run_enterF Try.func19 (by kernel_rfl) rfl xs w
theorem enter_20 (xs : Array Value) (w : World) : (callFunc 20 xs).run Try.prog w = .ok (.enter 20 xs) w := run_enterF Try.func20 (by kernel_rfl) rfl xs w
theorem enter_21 (xs : Array Value) (w : World) : (callFunc 21 xs).run Try.prog w = .ok (.enter 21 xs) w := run_enterF Try.func21 (by kernel_rfl) rfl xs w
theorem enter_22 (xs : Array Value) (w : World) : (callFunc 22 xs).run Try.prog w = .ok (.enter 22 xs) w := run_enterF Try.func22 (by kernel_rfl) rfl xs w
theorem enter_23 (xs : Array Value) (w : World) : (callFunc 23 xs).run Try.prog w = .ok (.enter 23 xs) w := run_enterF Try.func23 (by kernel_rfl) rfl xs w
theorem enter_24 (xs : Array Value) (w : World) : (callFunc 24 xs).run Try.prog w = .ok (.enter 24 xs) w := run_enterF Try.func24 (by kernel_rfl) rfl xs w
theorem enter_25 (xs : Array Value) (w : World) : (callFunc 25 xs).run Try.prog w = .ok (.enter 25 xs) w := run_enterF Try.func25 (by kernel_rfl) rfl xs w
theorem enter_26 (xs : Array Value) (w : World) : (callFunc 26 xs).run Try.prog w = .ok (.enter 26 xs) w := run_enterF Try.func26 (by kernel_rfl) rfl xs w
theorem enter_27 (xs : Array Value) (w : World) : (callFunc 27 xs).run Try.prog w = .ok (.enter 27 xs) w := run_enterF Try.func27 (by kernel_rfl) rfl xs w
theorem enter_28 (xs : Array Value) (w : World) : (callFunc 28 xs).run Try.prog w = .ok (.enter 28 xs) w := run_enterF Try.func28 (by kernel_rfl) rfl xs w
theorem enter_29 (xs : Array Value) (w : World) : (callFunc 29 xs).run Try.prog w = .ok (.enter 29 xs) w := run_enterF Try.func29 (by kernel_rfl) rfl xs w
theorem enter_30 (xs : Array Value) (w : World) : (callFunc 30 xs).run Try.prog w = .ok (.enter 30 xs) w := run_enterF Try.func30 (by kernel_rfl) rfl xs w
theorem enter_31 (xs : Array Value) (w : World) : (callFunc 31 xs).run Try.prog w = .ok (.enter 31 xs) w := run_enterF Try.func31 (by kernel_rfl) rfl xs w
theorem enter_32 (xs : Array Value) (w : World) : (callFunc 32 xs).run Try.prog w = .ok (.enter 32 xs) w := run_enterF Try.func32 (by kernel_rfl) rfl xs w
theorem enter_33 (xs : Array Value) (w : World) : (callFunc 33 xs).run Try.prog w = .ok (.enter 33 xs) w := run_enterF Try.func33 (by kernel_rfl) rfl xs w
theorem enter_34 (xs : Array Value) (w : World) : (callFunc 34 xs).run Try.prog w = .ok (.enter 34 xs) w := run_enterF Try.func34 (by kernel_rfl) rfl xs w
theorem enter_35 (xs : Array Value) (w : World) : (callFunc 35 xs).run Try.prog w = .ok (.enter 35 xs) w := run_enterF Try.func35 (by kernel_rfl) rfl xs w
theorem enter_36 (xs : Array Value) (w : World) : (callFunc 36 xs).run Try.prog w = .ok (.enter 36 xs) w := run_enterF Try.func36 (by kernel_rfl) rfl xs w
theorem enter_37 (xs : Array Value) (w : World) : (callFunc 37 xs).run Try.prog w = .ok (.enter 37 xs) w := run_enterF Try.func37 (by kernel_rfl) rfl xs w
theorem enter_38 (xs : Array Value) (w : World) : (callFunc 38 xs).run Try.prog w = .ok (.enter 38 xs) w := run_enterF Try.func38 (by kernel_rfl) rfl xs w
theorem enter_39 (xs : Array Value) (w : World) : (callFunc 39 xs).run Try.prog w = .ok (.enter 39 xs) w := run_enterF Try.func39 (by kernel_rfl) rfl xs w
theorem enter_40 (xs : Array Value) (w : World) : (callFunc 40 xs).run Try.prog w = .ok (.enter 40 xs) w := run_enterF Try.func40 (by kernel_rfl) rfl xs w
theorem enter_41 (xs : Array Value) (w : World) : (callFunc 41 xs).run Try.prog w = .ok (.enter 41 xs) w := run_enterF Try.func41 (by kernel_rfl) rfl xs w
theorem enter_42 (xs : Array Value) (w : World) : (callFunc 42 xs).run Try.prog w = .ok (.enter 42 xs) w := run_enterF Try.func42 (by kernel_rfl) rfl xs w
theorem enter_43 (xs : Array Value) (w : World) : (callFunc 43 xs).run Try.prog w = .ok (.enter 43 xs) w := run_enterF Try.func43 (by kernel_rfl) rfl xs w
theorem enter_44 (xs : Array Value) (w : World) : (callFunc 44 xs).run Try.prog w = .ok (.enter 44 xs) w := run_enterF Try.func44 (by kernel_rfl) rfl xs w
theorem enter_45 (xs : Array Value) (w : World) : (callFunc 45 xs).run Try.prog w = .ok (.enter 45 xs) w := run_enterF Try.func45 (by kernel_rfl) rfl xs w
theorem enter_46 (xs : Array Value) (w : World) : (callFunc 46 xs).run Try.prog w = .ok (.enter 46 xs) w := run_enterF Try.func46 (by kernel_rfl) rfl xs w
theorem enter_47 (xs : Array Value) (w : World) : (callFunc 47 xs).run Try.prog w = .ok (.enter 47 xs) w := run_enterF Try.func47 (by kernel_rfl) rfl xs w
theorem enter_48 (xs : Array Value) (w : World) : (callFunc 48 xs).run Try.prog w = .ok (.enter 48 xs) w := run_enterF Try.func48 (by kernel_rfl) rfl xs w
theorem enter_49 (xs : Array Value) (w : World) : (callFunc 49 xs).run Try.prog w = .ok (.enter 49 xs) w := run_enterF Try.func49 (by kernel_rfl) rfl xs w
theorem enter_50 (xs : Array Value) (w : World) : (callFunc 50 xs).run Try.prog w = .ok (.enter 50 xs) w := run_enterF Try.func50 (by kernel_rfl) rfl xs w
theorem enter_51 (xs : Array Value) (w : World) : (callFunc 51 xs).run Try.prog w = .ok (.enter 51 xs) w := run_enterF Try.func51 (by kernel_rfl) rfl xs w
theorem enter_52 (xs : Array Value) (w : World) : (callFunc 52 xs).run Try.prog w = .ok (.enter 52 xs) w := run_enterF Try.func52 (by kernel_rfl) rfl xs w
theorem enter_53 (xs : Array Value) (w : World) : (callFunc 53 xs).run Try.prog w = .ok (.enter 53 xs) w := run_enterF Try.func53 (by kernel_rfl) rfl xs w
theorem enter_54 (xs : Array Value) (w : World) : (callFunc 54 xs).run Try.prog w = .ok (.enter 54 xs) w := run_enterF Try.func54 (by kernel_rfl) rfl xs w
theorem enter_55 (xs : Array Value) (w : World) : (callFunc 55 xs).run Try.prog w = .ok (.enter 55 xs) w := run_enterF Try.func55 (by kernel_rfl) rfl xs w
theorem enter_56 (xs : Array Value) (w : World) : (callFunc 56 xs).run Try.prog w = .ok (.enter 56 xs) w := run_enterF Try.func56 (by kernel_rfl) rfl xs w
theorem enter_57 (xs : Array Value) (w : World) : (callFunc 57 xs).run Try.prog w = .ok (.enter 57 xs) w := run_enterF Try.func57 (by kernel_rfl) rfl xs w
theorem enter_58 (xs : Array Value) (w : World) : (callFunc 58 xs).run Try.prog w = .ok (.enter 58 xs) w := run_enterF Try.func58 (by kernel_rfl) rfl xs w
theorem enter_59 (xs : Array Value) (w : World) : (callFunc 59 xs).run Try.prog w = .ok (.enter 59 xs) w := run_enterF Try.func59 (by kernel_rfl) rfl xs w
theorem enter_60 (xs : Array Value) (w : World) : (callFunc 60 xs).run Try.prog w = .ok (.enter 60 xs) w := run_enterF Try.func60 (by kernel_rfl) rfl xs w
theorem enter_61 (xs : Array Value) (w : World) : (callFunc 61 xs).run Try.prog w = .ok (.enter 61 xs) w := run_enterF Try.func61 (by kernel_rfl) rfl xs w
theorem enter_62 (xs : Array Value) (w : World) : (callFunc 62 xs).run Try.prog w = .ok (.enter 62 xs) w := run_enterF Try.func62 (by kernel_rfl) rfl xs w
theorem enter_63 (xs : Array Value) (w : World) : (callFunc 63 xs).run Try.prog w = .ok (.enter 63 xs) w := run_enterF Try.func63 (by kernel_rfl) rfl xs w
theorem enter_64 (xs : Array Value) (w : World) : (callFunc 64 xs).run Try.prog w = .ok (.enter 64 xs) w := run_enterF Try.func64 (by kernel_rfl) rfl xs w
theorem enter_65 (xs : Array Value) (w : World) : (callFunc 65 xs).run Try.prog w = .ok (.enter 65 xs) w := run_enterF Try.func65 (by kernel_rfl) rfl xs w
theorem enter_66 (xs : Array Value) (w : World) : (callFunc 66 xs).run Try.prog w = .ok (.enter 66 xs) w := run_enterF Try.func66 (by kernel_rfl) rfl xs w
theorem enter_67 (xs : Array Value) (w : World) : (callFunc 67 xs).run Try.prog w = .ok (.enter 67 xs) w := run_enterF Try.func67 (by kernel_rfl) rfl xs w
theorem enter_68 (xs : Array Value) (w : World) : (callFunc 68 xs).run Try.prog w = .ok (.enter 68 xs) w := run_enterF Try.func68 (by kernel_rfl) rfl xs w
theorem enter_69 (xs : Array Value) (w : World) : (callFunc 69 xs).run Try.prog w = .ok (.enter 69 xs) w := run_enterF Try.func69 (by kernel_rfl) rfl xs w
theorem enter_70 (xs : Array Value) (w : World) : (callFunc 70 xs).run Try.prog w = .ok (.enter 70 xs) w := run_enterF Try.func70 (by kernel_rfl) rfl xs w
theorem enter_71 (xs : Array Value) (w : World) : (callFunc 71 xs).run Try.prog w = .ok (.enter 71 xs) w := run_enterF Try.func71 (by kernel_rfl) rfl xs w
theorem enter_72 (xs : Array Value) (w : World) : (callFunc 72 xs).run Try.prog w = .ok (.enter 72 xs) w := run_enterF Try.func72 (by kernel_rfl) rfl xs w
theorem enter_73 (xs : Array Value) (w : World) : (callFunc 73 xs).run Try.prog w = .ok (.enter 73 xs) w := run_enterF Try.func73 (by kernel_rfl) rfl xs w
theorem enter_74 (xs : Array Value) (w : World) : (callFunc 74 xs).run Try.prog w = .ok (.enter 74 xs) w := run_enterF Try.func74 (by kernel_rfl) rfl xs w
theorem enter_75 (xs : Array Value) (w : World) : (callFunc 75 xs).run Try.prog w = .ok (.enter 75 xs) w := run_enterF Try.func75 (by kernel_rfl) rfl xs w
theorem enter_76 (xs : Array Value) (w : World) : (callFunc 76 xs).run Try.prog w = .ok (.enter 76 xs) w := run_enterF Try.func76 (by kernel_rfl) rfl xs w
theorem enter_77 (xs : Array Value) (w : World) : (callFunc 77 xs).run Try.prog w = .ok (.enter 77 xs) w := run_enterF Try.func77 (by kernel_rfl) rfl xs w
theorem enter_78 (xs : Array Value) (w : World) : (callFunc 78 xs).run Try.prog w = .ok (.enter 78 xs) w := run_enterF Try.func78 (by kernel_rfl) rfl xs w
theorem enter_79 (xs : Array Value) (w : World) : (callFunc 79 xs).run Try.prog w = .ok (.enter 79 xs) w := run_enterF Try.func79 (by kernel_rfl) rfl xs w
theorem enter_80 (xs : Array Value) (w : World) : (callFunc 80 xs).run Try.prog w = .ok (.enter 80 xs) w := run_enterF Try.func80 (by kernel_rfl) rfl xs w
theorem enter_81 (xs : Array Value) (w : World) : (callFunc 81 xs).run Try.prog w = .ok (.enter 81 xs) w := run_enterF Try.func81 (by kernel_rfl) rfl xs w
theorem enter_82 (xs : Array Value) (w : World) : (callFunc 82 xs).run Try.prog w = .ok (.enter 82 xs) w := run_enterF Try.func82 (by kernel_rfl) rfl xs w
theorem enter_83 (xs : Array Value) (w : World) : (callFunc 83 xs).run Try.prog w = .ok (.enter 83 xs) w := run_enterF Try.func83 (by kernel_rfl) rfl xs w
theorem enter_84 (xs : Array Value) (w : World) : (callFunc 84 xs).run Try.prog w = .ok (.enter 84 xs) w := run_enterF Try.func84 (by kernel_rfl) rfl xs w
theorem enter_85 (xs : Array Value) (w : World) : (callFunc 85 xs).run Try.prog w = .ok (.enter 85 xs) w := run_enterF Try.func85 (by kernel_rfl) rfl xs w
theorem enter_86 (xs : Array Value) (w : World) : (callFunc 86 xs).run Try.prog w = .ok (.enter 86 xs) w := run_enterF Try.func86 (by kernel_rfl) rfl xs w
theorem enter_87 (xs : Array Value) (w : World) : (callFunc 87 xs).run Try.prog w = .ok (.enter 87 xs) w := run_enterF Try.func87 (by kernel_rfl) rfl xs w
theorem enter_88 (xs : Array Value) (w : World) : (callFunc 88 xs).run Try.prog w = .ok (.enter 88 xs) w := run_enterF Try.func88 (by kernel_rfl) rfl xs w
theorem enter_89 (xs : Array Value) (w : World) : (callFunc 89 xs).run Try.prog w = .ok (.enter 89 xs) w := run_enterF Try.func89 (by kernel_rfl) rfl xs w
theorem enter_90 (xs : Array Value) (w : World) : (callFunc 90 xs).run Try.prog w = .ok (.enter 90 xs) w := run_enterF Try.func90 (by kernel_rfl) rfl xs w
theorem enter_91 (xs : Array Value) (w : World) : (callFunc 91 xs).run Try.prog w = .ok (.enter 91 xs) w := run_enterF Try.func91 (by kernel_rfl) rfl xs w
theorem enter_92 (xs : Array Value) (w : World) : (callFunc 92 xs).run Try.prog w = .ok (.enter 92 xs) w := run_enterF Try.func92 (by kernel_rfl) rfl xs w
theorem enter_93 (xs : Array Value) (w : World) : (callFunc 93 xs).run Try.prog w = .ok (.enter 93 xs) w := run_enterF Try.func93 (by kernel_rfl) rfl xs w
theorem enter_94 (xs : Array Value) (w : World) : (callFunc 94 xs).run Try.prog w = .ok (.enter 94 xs) w := run_enterF Try.func94 (by kernel_rfl) rfl xs w
theorem enter_95 (xs : Array Value) (w : World) : (callFunc 95 xs).run Try.prog w = .ok (.enter 95 xs) w := run_enterF Try.func95 (by kernel_rfl) rfl xs w
theorem enter_96 (xs : Array Value) (w : World) : (callFunc 96 xs).run Try.prog w = .ok (.enter 96 xs) w := run_enterF Try.func96 (by kernel_rfl) rfl xs w
theorem ov_97 (x y : Value) (w : World) (h : (Extern.SlicesOverlaps.overlaps #[26, 26] #[4] #[x, y]).run Try.prog w = .ok (.bool false) w) : (callFunc 97 #[x, y]).run Try.prog w = .ok (.value (.bool false)) w := by
  rw [run_callFunc_extern Try.func97 (by kernel_rfl) (by kernel_rfl) (by kernel_rfl) (e := Extern.SlicesOverlaps.overlaps #[26, 26] #[4]) (by kernel_rfl), h]; rfl
theorem enter_98 (xs : Array Value) (w : World) : (callFunc 98 xs).run Try.prog w = .ok (.enter 98 xs) w := run_enterF Try.func98 (by kernel_rfl) rfl xs w
theorem enter_99 (xs : Array Value) (w : World) : (callFunc 99 xs).run Try.prog w = .ok (.enter 99 xs) w := run_enterF Try.func99 (by kernel_rfl) rfl xs w
theorem enter_100 (xs : Array Value) (w : World) : (callFunc 100 xs).run Try.prog w = .ok (.enter 100 xs) w := run_enterF Try.func100 (by kernel_rfl) rfl xs w
theorem enter_101 (xs : Array Value) (w : World) : (callFunc 101 xs).run Try.prog w = .ok (.enter 101 xs) w := run_enterF Try.func101 (by kernel_rfl) rfl xs w
theorem enter_102 (xs : Array Value) (w : World) : (callFunc 102 xs).run Try.prog w = .ok (.enter 102 xs) w := run_enterF Try.func102 (by kernel_rfl) rfl xs w
theorem enter_103 (xs : Array Value) (w : World) : (callFunc 103 xs).run Try.prog w = .ok (.enter 103 xs) w := run_enterF Try.func103 (by kernel_rfl) rfl xs w
theorem enter_104 (xs : Array Value) (w : World) : (callFunc 104 xs).run Try.prog w = .ok (.enter 104 xs) w := run_enterF Try.func104 (by kernel_rfl) rfl xs w
theorem enter_105 (xs : Array Value) (w : World) : (callFunc 105 xs).run Try.prog w = .ok (.enter 105 xs) w := run_enterF Try.func105 (by kernel_rfl) rfl xs w
theorem enter_106 (xs : Array Value) (w : World) : (callFunc 106 xs).run Try.prog w = .ok (.enter 106 xs) w := run_enterF Try.func106 (by kernel_rfl) rfl xs w
theorem enter_107 (xs : Array Value) (w : World) : (callFunc 107 xs).run Try.prog w = .ok (.enter 107 xs) w := run_enterF Try.func107 (by kernel_rfl) rfl xs w
theorem enter_108 (xs : Array Value) (w : World) : (callFunc 108 xs).run Try.prog w = .ok (.enter 108 xs) w := run_enterF Try.func108 (by kernel_rfl) rfl xs w

end Go.Proofs.Ytjpniibleelgiaa
