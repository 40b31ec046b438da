/- Walks, printed by gen.py. -/
import Derived.Test.YtpdekmknnpkmgaaRows
import Derived.Test.YtpdekmknnpkmgaaMaA
import Derived.Test.YtpdekmknnpkmgaaSd
import Derived.Test.YtpdekmknnpkmgaaFwY
set_option linter.unusedSimpArgs false
set_option linter.unusedVariables false
namespace Go.Proofs.Ytpdekmknnpkmgaa
open Go.Fw Go.RowKit

theorem s_2 : sizeT Try.prog 2 = some 1 := by kernel_rfl
theorem z_2 : zeroT Try.prog 2 = some (.int .i64 0) := by kernel_rfl
theorem i_2 : (Try.prog.info? 2).map (fun i => (i.zero, i.size, i.bytes)) = some (some (.int .i64 0), 1, 8) := by kernel_rfl
theorem s_3 : sizeT Try.prog 3 = some 1 := by kernel_rfl
theorem z_3 : zeroT Try.prog 3 = some (.int .i64 0) := by kernel_rfl
theorem i_3 : (Try.prog.info? 3).map (fun i => (i.zero, i.size, i.bytes)) = some (some (.int .i64 0), 1, 8) := by kernel_rfl
theorem s_4 : sizeT Try.prog 4 = some 1 := by kernel_rfl
theorem z_4 : zeroT Try.prog 4 = some (.bool false) := by kernel_rfl
theorem i_4 : (Try.prog.info? 4).map (fun i => (i.zero, i.size, i.bytes)) = some (some (.bool false), 1, 1) := by kernel_rfl
theorem s_5 : sizeT Try.prog 5 = some 1 := by kernel_rfl
theorem z_5 : zeroT Try.prog 5 = some (.int .u8 0) := by kernel_rfl
theorem i_5 : (Try.prog.info? 5).map (fun i => (i.zero, i.size, i.bytes)) = some (some (.int .u8 0), 1, 1) := by kernel_rfl
theorem s_6 : sizeT Try.prog 6 = some 1 := by kernel_rfl
theorem z_6 : zeroT Try.prog 6 = some (.int .u8 0) := by kernel_rfl
theorem i_6 : (Try.prog.info? 6).map (fun i => (i.zero, i.size, i.bytes)) = some (some (.int .u8 0), 1, 1) := by kernel_rfl
theorem s_7 : sizeT Try.prog 7 = some 4 := by kernel_rfl
theorem z_7 : zeroT Try.prog 7 = some (.agg #[.int .i64 0, .int .i64 0, .bool false, .int .u8 0]) := by kernel_rfl
theorem i_7 : (Try.prog.info? 7).map (fun i => (i.zero, i.size, i.bytes)) = some (some (.agg #[.int .i64 0, .int .i64 0, .bool false, .int .u8 0]), 4, 24) := by kernel_rfl
theorem pl_7 : placesB Try.prog 7 = some [(0, 1), (1, 1), (2, 1), (3, 1)] := by kernel_rfl
theorem f_7_0 : fieldOff Try.prog 7 0 = some 0 := by kernel_rfl
theorem f_7_1 : fieldOff Try.prog 7 1 = some 1 := by kernel_rfl
theorem f_7_2 : fieldOff Try.prog 7 2 = some 2 := by kernel_rfl
theorem f_7_3 : fieldOff Try.prog 7 3 = some 3 := by kernel_rfl
theorem s_8 : sizeT Try.prog 8 = some 4 := by kernel_rfl
theorem z_8 : zeroT Try.prog 8 = some (.agg #[.int .i64 0, .int .i64 0, .bool false, .int .u8 0]) := by kernel_rfl
theorem i_8 : (Try.prog.info? 8).map (fun i => (i.zero, i.size, i.bytes)) = some (some (.agg #[.int .i64 0, .int .i64 0, .bool false, .int .u8 0]), 4, 24) := by kernel_rfl
theorem pl_8 : placesB Try.prog 8 = some [(0, 1), (1, 1), (2, 1), (3, 1)] := by kernel_rfl
theorem f_8_0 : fieldOff Try.prog 8 0 = some 0 := by kernel_rfl
theorem f_8_1 : fieldOff Try.prog 8 1 = some 1 := by kernel_rfl
theorem f_8_2 : fieldOff Try.prog 8 2 = some 2 := by kernel_rfl
theorem f_8_3 : fieldOff Try.prog 8 3 = some 3 := by kernel_rfl
theorem s_9 : sizeT Try.prog 9 = some 1 := by kernel_rfl
theorem s_10 : sizeT Try.prog 10 = some 1 := by kernel_rfl
theorem s_11 : sizeT Try.prog 11 = some 1 := by kernel_rfl
theorem s_12 : sizeT Try.prog 12 = some 1 := by kernel_rfl
theorem z_12 : zeroT Try.prog 12 = some (.int .u64 0) := by kernel_rfl
theorem i_12 : (Try.prog.info? 12).map (fun i => (i.zero, i.size, i.bytes)) = some (some (.int .u64 0), 1, 8) := by kernel_rfl
theorem s_13 : sizeT Try.prog 13 = some 2 := by kernel_rfl
theorem pl_13 : placesB Try.prog 13 = some [(0, 1), (1, 1)] := by kernel_rfl
theorem f_13_0 : fieldOff Try.prog 13 0 = some 0 := by kernel_rfl
theorem f_13_1 : fieldOff Try.prog 13 1 = some 1 := by kernel_rfl
theorem s_14 : sizeT Try.prog 14 = some 2 := by kernel_rfl
theorem pl_14 : placesB Try.prog 14 = some [(0, 1), (1, 1)] := by kernel_rfl
theorem f_14_0 : fieldOff Try.prog 14 0 = some 0 := by kernel_rfl
theorem f_14_1 : fieldOff Try.prog 14 1 = some 1 := by kernel_rfl
theorem s_15 : sizeT Try.prog 15 = some 1 := by kernel_rfl
theorem z_15 : zeroT Try.prog 15 = some (.pointer none) := by kernel_rfl
theorem i_15 : (Try.prog.info? 15).map (fun i => (i.zero, i.size, i.bytes)) = some (some (.pointer none), 1, 8) := by kernel_rfl
theorem s_16 : sizeT Try.prog 16 = some 1 := by kernel_rfl
theorem z_16 : zeroT Try.prog 16 = some (.pointer none) := by kernel_rfl
theorem i_16 : (Try.prog.info? 16).map (fun i => (i.zero, i.size, i.bytes)) = some (some (.pointer none), 1, 8) := by kernel_rfl
theorem s_17 : sizeT Try.prog 17 = some 1 := by kernel_rfl
theorem z_17 : zeroT Try.prog 17 = some (.pointer none) := by kernel_rfl
theorem i_17 : (Try.prog.info? 17).map (fun i => (i.zero, i.size, i.bytes)) = some (some (.pointer none), 1, 8) := by kernel_rfl
theorem s_18 : sizeT Try.prog 18 = some 1 := by kernel_rfl
theorem z_18 : zeroT Try.prog 18 = some (.agg #[.pointer none]) := by kernel_rfl
theorem i_18 : (Try.prog.info? 18).map (fun i => (i.zero, i.size, i.bytes)) = some (some (.agg #[.pointer none]), 1, 8) := by kernel_rfl
theorem pl_18 : placesB Try.prog 18 = some [(0, 1)] := by kernel_rfl
theorem f_18_0 : fieldOff Try.prog 18 0 = some 0 := by kernel_rfl
theorem s_19 : sizeT Try.prog 19 = some 1 := by kernel_rfl
theorem z_19 : zeroT Try.prog 19 = some (.agg #[.pointer none]) := by kernel_rfl
theorem i_19 : (Try.prog.info? 19).map (fun i => (i.zero, i.size, i.bytes)) = some (some (.agg #[.pointer none]), 1, 8) := by kernel_rfl
theorem pl_19 : placesB Try.prog 19 = some [(0, 1)] := by kernel_rfl
theorem f_19_0 : fieldOff Try.prog 19 0 = some 0 := by kernel_rfl
theorem s_21 : sizeT Try.prog 21 = some 1 := by kernel_rfl
theorem z_21 : zeroT Try.prog 21 = some (.int .i32 0) := by kernel_rfl
theorem i_21 : (Try.prog.info? 21).map (fun i => (i.zero, i.size, i.bytes)) = some (some (.int .i32 0), 1, 4) := by kernel_rfl
theorem s_22 : sizeT Try.prog 22 = some 1 := by kernel_rfl
theorem z_22 : zeroT Try.prog 22 = some (.slice none 0 0) := by kernel_rfl
theorem i_22 : (Try.prog.info? 22).map (fun i => (i.zero, i.size, i.bytes)) = some (some (.slice none 0 0), 1, 24) := by kernel_rfl
theorem s_23 : sizeT Try.prog 23 = some 1 := by kernel_rfl
theorem z_23 : zeroT Try.prog 23 = some (.slice none 0 0) := by kernel_rfl
theorem i_23 : (Try.prog.info? 23).map (fun i => (i.zero, i.size, i.bytes)) = some (some (.slice none 0 0), 1, 24) := by kernel_rfl
theorem s_24 : sizeT Try.prog 24 = some 5 := by kernel_rfl
theorem z_24 : zeroT Try.prog 24 = some (.agg #[.int .i64 0, .int .i64 0, .int .i64 0, .slice none 0 0, .slice none 0 0]) := by kernel_rfl
theorem i_24 : (Try.prog.info? 24).map (fun i => (i.zero, i.size, i.bytes)) = some (some (.agg #[.int .i64 0, .int .i64 0, .int .i64 0, .slice none 0 0, .slice none 0 0]), 5, 72) := by kernel_rfl
theorem pl_24 : placesB Try.prog 24 = some [(0, 1), (1, 1), (2, 1), (3, 1), (4, 1)] := by kernel_rfl
theorem f_24_0 : fieldOff Try.prog 24 0 = some 0 := by kernel_rfl
theorem f_24_1 : fieldOff Try.prog 24 1 = some 1 := by kernel_rfl
theorem f_24_2 : fieldOff Try.prog 24 2 = some 2 := by kernel_rfl
theorem f_24_3 : fieldOff Try.prog 24 3 = some 3 := by kernel_rfl
theorem f_24_4 : fieldOff Try.prog 24 4 = some 4 := by kernel_rfl
theorem s_25 : sizeT Try.prog 25 = some 5 := by kernel_rfl
theorem z_25 : zeroT Try.prog 25 = some (.agg #[.int .i64 0, .int .i64 0, .int .i64 0, .slice none 0 0, .slice none 0 0]) := by kernel_rfl
theorem i_25 : (Try.prog.info? 25).map (fun i => (i.zero, i.size, i.bytes)) = some (some (.agg #[.int .i64 0, .int .i64 0, .int .i64 0, .slice none 0 0, .slice none 0 0]), 5, 72) := by kernel_rfl
theorem pl_25 : placesB Try.prog 25 = some [(0, 1), (1, 1), (2, 1), (3, 1), (4, 1)] := by kernel_rfl
theorem f_25_0 : fieldOff Try.prog 25 0 = some 0 := by kernel_rfl
theorem f_25_1 : fieldOff Try.prog 25 1 = some 1 := by kernel_rfl
theorem f_25_2 : fieldOff Try.prog 25 2 = some 2 := by kernel_rfl
theorem f_25_3 : fieldOff Try.prog 25 3 = some 3 := by kernel_rfl
theorem f_25_4 : fieldOff Try.prog 25 4 = some 4 := by kernel_rfl
theorem s_28 : sizeT Try.prog 28 = some 1 := by kernel_rfl
theorem z_28 : zeroT Try.prog 28 = some (.int .i64 0) := by kernel_rfl
theorem i_28 : (Try.prog.info? 28).map (fun i => (i.zero, i.size, i.bytes)) = some (some (.int .i64 0), 1, 8) := by kernel_rfl
theorem s_38 : sizeT Try.prog 38 = some 1 := by kernel_rfl
theorem z_38 : zeroT Try.prog 38 = some (.slice none 0 0) := by kernel_rfl
theorem i_38 : (Try.prog.info? 38).map (fun i => (i.zero, i.size, i.bytes)) = some (some (.slice none 0 0), 1, 24) := by kernel_rfl
theorem s_39 : sizeT Try.prog 39 = some 1 := by kernel_rfl
theorem z_39 : zeroT Try.prog 39 = some (.slice none 0 0) := by kernel_rfl
theorem i_39 : (Try.prog.info? 39).map (fun i => (i.zero, i.size, i.bytes)) = some (some (.slice none 0 0), 1, 24) := by kernel_rfl
theorem s_40 : sizeT Try.prog 40 = some 4 := by kernel_rfl
theorem z_40 : zeroT Try.prog 40 = some (.agg #[.int .u8 0, .int .u8 0, .int .u8 0, .int .i64 0]) := by kernel_rfl
theorem i_40 : (Try.prog.info? 40).map (fun i => (i.zero, i.size, i.bytes)) = some (some (.agg #[.int .u8 0, .int .u8 0, .int .u8 0, .int .i64 0]), 4, 16) := by kernel_rfl
theorem pl_40 : placesB Try.prog 40 = some [(0, 1), (1, 1), (2, 1), (3, 1)] := by kernel_rfl
theorem f_40_0 : fieldOff Try.prog 40 0 = some 0 := by kernel_rfl
theorem f_40_1 : fieldOff Try.prog 40 1 = some 1 := by kernel_rfl
theorem f_40_2 : fieldOff Try.prog 40 2 = some 2 := by kernel_rfl
theorem f_40_3 : fieldOff Try.prog 40 3 = some 3 := by kernel_rfl
theorem s_41 : sizeT Try.prog 41 = some 4 := by kernel_rfl
theorem z_41 : zeroT Try.prog 41 = some (.agg #[.int .u8 0, .int .u8 0, .int .u8 0, .int .i64 0]) := by kernel_rfl
theorem i_41 : (Try.prog.info? 41).map (fun i => (i.zero, i.size, i.bytes)) = some (some (.agg #[.int .u8 0, .int .u8 0, .int .u8 0, .int .i64 0]), 4, 16) := by kernel_rfl
theorem pl_41 : placesB Try.prog 41 = some [(0, 1), (1, 1), (2, 1), (3, 1)] := by kernel_rfl
theorem f_41_0 : fieldOff Try.prog 41 0 = some 0 := by kernel_rfl
theorem f_41_1 : fieldOff Try.prog 41 1 = some 1 := by kernel_rfl
theorem f_41_2 : fieldOff Try.prog 41 2 = some 2 := by kernel_rfl
theorem f_41_3 : fieldOff Try.prog 41 3 = some 3 := by kernel_rfl
theorem s_43 : sizeT Try.prog 43 = some 4 := by kernel_rfl
theorem z_43 : zeroT Try.prog 43 = some (.agg #[.int .i64 0, .int .i64 0, .slice none 0 0, .bool false]) := by kernel_rfl
theorem i_43 : (Try.prog.info? 43).map (fun i => (i.zero, i.size, i.bytes)) = some (some (.agg #[.int .i64 0, .int .i64 0, .slice none 0 0, .bool false]), 4, 48) := by kernel_rfl
theorem pl_43 : placesB Try.prog 43 = some [(0, 1), (1, 1), (2, 1), (3, 1)] := by kernel_rfl
theorem f_43_0 : fieldOff Try.prog 43 0 = some 0 := by kernel_rfl
theorem f_43_1 : fieldOff Try.prog 43 1 = some 1 := by kernel_rfl
theorem f_43_2 : fieldOff Try.prog 43 2 = some 2 := by kernel_rfl
theorem f_43_3 : fieldOff Try.prog 43 3 = some 3 := by kernel_rfl
theorem s_44 : sizeT Try.prog 44 = some 4 := by kernel_rfl
theorem z_44 : zeroT Try.prog 44 = some (.agg #[.int .i64 0, .int .i64 0, .slice none 0 0, .bool false]) := by kernel_rfl
theorem i_44 : (Try.prog.info? 44).map (fun i => (i.zero, i.size, i.bytes)) = some (some (.agg #[.int .i64 0, .int .i64 0, .slice none 0 0, .bool false]), 4, 48) := by kernel_rfl
theorem pl_44 : placesB Try.prog 44 = some [(0, 1), (1, 1), (2, 1), (3, 1)] := by kernel_rfl
theorem f_44_0 : fieldOff Try.prog 44 0 = some 0 := by kernel_rfl
theorem f_44_1 : fieldOff Try.prog 44 1 = some 1 := by kernel_rfl
theorem f_44_2 : fieldOff Try.prog 44 2 = some 2 := by kernel_rfl
theorem f_44_3 : fieldOff Try.prog 44 3 = some 3 := by kernel_rfl
theorem s_46 : sizeT Try.prog 46 = some 5 := by kernel_rfl
theorem z_46 : zeroT Try.prog 46 = some (.agg #[.int .i64 0, .int .i64 0, .int .i64 0, .slice none 0 0, .slice none 0 0]) := by kernel_rfl
theorem i_46 : (Try.prog.info? 46).map (fun i => (i.zero, i.size, i.bytes)) = some (some (.agg #[.int .i64 0, .int .i64 0, .int .i64 0, .slice none 0 0, .slice none 0 0]), 5, 72) := by kernel_rfl
theorem pl_46 : placesB Try.prog 46 = some [(0, 1), (1, 1), (2, 1), (3, 1), (4, 1)] := by kernel_rfl
theorem f_46_0 : fieldOff Try.prog 46 0 = some 0 := by kernel_rfl
theorem f_46_1 : fieldOff Try.prog 46 1 = some 1 := by kernel_rfl
theorem f_46_2 : fieldOff Try.prog 46 2 = some 2 := by kernel_rfl
theorem f_46_3 : fieldOff Try.prog 46 3 = some 3 := by kernel_rfl
theorem f_46_4 : fieldOff Try.prog 46 4 = some 4 := by kernel_rfl
theorem s_47 : sizeT Try.prog 47 = some 5 := by kernel_rfl
theorem z_47 : zeroT Try.prog 47 = some (.agg #[.int .i64 0, .int .i64 0, .int .i64 0, .slice none 0 0, .slice none 0 0]) := by kernel_rfl
theorem i_47 : (Try.prog.info? 47).map (fun i => (i.zero, i.size, i.bytes)) = some (some (.agg #[.int .i64 0, .int .i64 0, .int .i64 0, .slice none 0 0, .slice none 0 0]), 5, 72) := by kernel_rfl
theorem pl_47 : placesB Try.prog 47 = some [(0, 1), (1, 1), (2, 1), (3, 1), (4, 1)] := by kernel_rfl
theorem f_47_0 : fieldOff Try.prog 47 0 = some 0 := by kernel_rfl
theorem f_47_1 : fieldOff Try.prog 47 1 = some 1 := by kernel_rfl
theorem f_47_2 : fieldOff Try.prog 47 2 = some 2 := by kernel_rfl
theorem f_47_3 : fieldOff Try.prog 47 3 = some 3 := by kernel_rfl
theorem f_47_4 : fieldOff Try.prog 47 4 = some 4 := by kernel_rfl
theorem s_50 : sizeT Try.prog 50 = some 1 := by kernel_rfl
theorem z_50 : zeroT Try.prog 50 = some (.slice none 0 0) := by kernel_rfl
theorem i_50 : (Try.prog.info? 50).map (fun i => (i.zero, i.size, i.bytes)) = some (some (.slice none 0 0), 1, 24) := by kernel_rfl
theorem s_64 : sizeT Try.prog 64 = some 1 := by kernel_rfl
theorem z_64 : zeroT Try.prog 64 = some (.pointer none) := by kernel_rfl
theorem i_64 : (Try.prog.info? 64).map (fun i => (i.zero, i.size, i.bytes)) = some (some (.pointer none), 1, 8) := by kernel_rfl
theorem s_68 : sizeT Try.prog 68 = some 1 := by kernel_rfl
theorem z_68 : zeroT Try.prog 68 = some (.map none) := by kernel_rfl
theorem i_68 : (Try.prog.info? 68).map (fun i => (i.zero, i.size, i.bytes)) = some (some (.map none), 1, 8) := by kernel_rfl
theorem s_73 : sizeT Try.prog 73 = some 5 := by kernel_rfl
theorem z_73 : zeroT Try.prog 73 = some (.agg #[.int .i64 0, .int .i64 0, .int .i64 0, .slice none 0 0, .slice none 0 0]) := by kernel_rfl
theorem i_73 : (Try.prog.info? 73).map (fun i => (i.zero, i.size, i.bytes)) = some (some (.agg #[.int .i64 0, .int .i64 0, .int .i64 0, .slice none 0 0, .slice none 0 0]), 5, 72) := by kernel_rfl
theorem pl_73 : placesB Try.prog 73 = some [(0, 5)] := by kernel_rfl
theorem f_73_0 : fieldOff Try.prog 73 0 = some 0 := by kernel_rfl
theorem s_74 : sizeT Try.prog 74 = some 5 := by kernel_rfl
theorem z_74 : zeroT Try.prog 74 = some (.agg #[.int .i64 0, .int .i64 0, .int .i64 0, .slice none 0 0, .slice none 0 0]) := by kernel_rfl
theorem i_74 : (Try.prog.info? 74).map (fun i => (i.zero, i.size, i.bytes)) = some (some (.agg #[.int .i64 0, .int .i64 0, .int .i64 0, .slice none 0 0, .slice none 0 0]), 5, 72) := by kernel_rfl
theorem pl_74 : placesB Try.prog 74 = some [(0, 5)] := by kernel_rfl
theorem f_74_0 : fieldOff Try.prog 74 0 = some 0 := by kernel_rfl
theorem s_77 : sizeT Try.prog 77 = some 1 := by kernel_rfl
theorem z_77 : zeroT Try.prog 77 = some (.agg #[.int .i64 0]) := by kernel_rfl
theorem i_77 : (Try.prog.info? 77).map (fun i => (i.zero, i.size, i.bytes)) = some (some (.agg #[.int .i64 0]), 1, 8) := by kernel_rfl
theorem pl_77 : placesB Try.prog 77 = some [(0, 1)] := by kernel_rfl
theorem f_77_0 : fieldOff Try.prog 77 0 = some 0 := by kernel_rfl
theorem s_78 : sizeT Try.prog 78 = some 1 := by kernel_rfl
theorem z_78 : zeroT Try.prog 78 = some (.agg #[.int .i64 0]) := by kernel_rfl
theorem i_78 : (Try.prog.info? 78).map (fun i => (i.zero, i.size, i.bytes)) = some (some (.agg #[.int .i64 0]), 1, 8) := by kernel_rfl
theorem pl_78 : placesB Try.prog 78 = some [(0, 1)] := by kernel_rfl
theorem f_78_0 : fieldOff Try.prog 78 0 = some 0 := by kernel_rfl
theorem s_85 : sizeT Try.prog 85 = some 1 := by kernel_rfl
theorem z_85 : zeroT Try.prog 85 = some (.int .u64 0) := by kernel_rfl
theorem i_85 : (Try.prog.info? 85).map (fun i => (i.zero, i.size, i.bytes)) = some (some (.int .u64 0), 1, 8) := by kernel_rfl
theorem s_90 : sizeT Try.prog 90 = some 4 := by kernel_rfl
theorem pl_90 : placesB Try.prog 90 = some [(0, 1), (1, 1), (2, 1), (3, 1)] := by kernel_rfl
theorem f_90_0 : fieldOff Try.prog 90 0 = some 0 := by kernel_rfl
theorem f_90_1 : fieldOff Try.prog 90 1 = some 1 := by kernel_rfl
theorem f_90_2 : fieldOff Try.prog 90 2 = some 2 := by kernel_rfl
theorem f_90_3 : fieldOff Try.prog 90 3 = some 3 := by kernel_rfl
theorem s_91 : sizeT Try.prog 91 = some 4 := by kernel_rfl
theorem pl_91 : placesB Try.prog 91 = some [(0, 1), (1, 1), (2, 1), (3, 1)] := by kernel_rfl
theorem f_91_0 : fieldOff Try.prog 91 0 = some 0 := by kernel_rfl
theorem f_91_1 : fieldOff Try.prog 91 1 = some 1 := by kernel_rfl
theorem f_91_2 : fieldOff Try.prog 91 2 = some 2 := by kernel_rfl
theorem f_91_3 : fieldOff Try.prog 91 3 = some 3 := by kernel_rfl
theorem s_92 : sizeT Try.prog 92 = some 0 := by kernel_rfl
theorem z_92 : zeroT Try.prog 92 = some (.agg #[]) := by kernel_rfl
theorem i_92 : (Try.prog.info? 92).map (fun i => (i.zero, i.size, i.bytes)) = some (some (.agg #[]), 0, 0) := by kernel_rfl
theorem s_93 : sizeT Try.prog 93 = some 0 := by kernel_rfl
theorem z_93 : zeroT Try.prog 93 = some (.agg #[]) := by kernel_rfl
theorem i_93 : (Try.prog.info? 93).map (fun i => (i.zero, i.size, i.bytes)) = some (some (.agg #[]), 0, 0) := by kernel_rfl
theorem pl_93 : placesB Try.prog 93 = some [(0, 0)] := by kernel_rfl
theorem s_94 : sizeT Try.prog 94 = some 0 := by kernel_rfl
theorem z_94 : zeroT Try.prog 94 = some (.agg #[]) := by kernel_rfl
theorem i_94 : (Try.prog.info? 94).map (fun i => (i.zero, i.size, i.bytes)) = some (some (.agg #[]), 0, 0) := by kernel_rfl
theorem pl_94 : placesB Try.prog 94 = some [(0, 0)] := by kernel_rfl
theorem s_96 : sizeT Try.prog 96 = some 1 := by kernel_rfl
theorem z_96 : zeroT Try.prog 96 = some (.int .u32 0) := by kernel_rfl
theorem i_96 : (Try.prog.info? 96).map (fun i => (i.zero, i.size, i.bytes)) = some (some (.int .u32 0), 1, 4) := by kernel_rfl
theorem s_97 : sizeT Try.prog 97 = some 1 := by kernel_rfl
theorem z_97 : zeroT Try.prog 97 = some (.int .u8 0) := by kernel_rfl
theorem i_97 : (Try.prog.info? 97).map (fun i => (i.zero, i.size, i.bytes)) = some (some (.int .u8 0), 1, 1) := by kernel_rfl
theorem s_98 : sizeT Try.prog 98 = some 1 := by kernel_rfl
theorem z_98 : zeroT Try.prog 98 = some (.int .u8 0) := by kernel_rfl
theorem i_98 : (Try.prog.info? 98).map (fun i => (i.zero, i.size, i.bytes)) = some (some (.int .u8 0), 1, 1) := by kernel_rfl
theorem s_100 : sizeT Try.prog 100 = some 1 := by kernel_rfl
theorem z_100 : zeroT Try.prog 100 = some (.pointer none) := by kernel_rfl
theorem i_100 : (Try.prog.info? 100).map (fun i => (i.zero, i.size, i.bytes)) = some (some (.pointer none), 1, 8) := by kernel_rfl
theorem s_101 : sizeT Try.prog 101 = some 1 := by kernel_rfl
theorem z_101 : zeroT Try.prog 101 = some (.int .i32 0) := by kernel_rfl
theorem i_101 : (Try.prog.info? 101).map (fun i => (i.zero, i.size, i.bytes)) = some (some (.int .i32 0), 1, 4) := by kernel_rfl
theorem s_102 : sizeT Try.prog 102 = some 1 := by kernel_rfl
theorem z_102 : zeroT Try.prog 102 = some (.int .i32 0) := by kernel_rfl
theorem i_102 : (Try.prog.info? 102).map (fun i => (i.zero, i.size, i.bytes)) = some (some (.int .i32 0), 1, 4) := by kernel_rfl
theorem s_103 : sizeT Try.prog 103 = some 11 := by kernel_rfl
theorem z_103 : zeroT Try.prog 103 = some (.agg #[.int .u64 0, .int .u64 0, .int .u32 0, .int .u8 0, .int .u8 0, .int .u8 0, .int .u8 0, .nilFunc, .pointer none, .int .i32 0, .int .i32 0]) := by kernel_rfl
theorem i_103 : (Try.prog.info? 103).map (fun i => (i.zero, i.size, i.bytes)) = some (some (.agg #[.int .u64 0, .int .u64 0, .int .u32 0, .int .u8 0, .int .u8 0, .int .u8 0, .int .u8 0, .nilFunc, .pointer none, .int .i32 0, .int .i32 0]), 11, 48) := by kernel_rfl
theorem pl_103 : placesB Try.prog 103 = some [(0, 1), (1, 1), (2, 1), (3, 1), (4, 1), (5, 1), (6, 1), (7, 1), (8, 1), (9, 1), (10, 1)] := by kernel_rfl
theorem f_103_0 : fieldOff Try.prog 103 0 = some 0 := by kernel_rfl
theorem f_103_1 : fieldOff Try.prog 103 1 = some 1 := by kernel_rfl
theorem f_103_2 : fieldOff Try.prog 103 2 = some 2 := by kernel_rfl
theorem f_103_3 : fieldOff Try.prog 103 3 = some 3 := by kernel_rfl
theorem f_103_4 : fieldOff Try.prog 103 4 = some 4 := by kernel_rfl
theorem f_103_5 : fieldOff Try.prog 103 5 = some 5 := by kernel_rfl
theorem f_103_6 : fieldOff Try.prog 103 6 = some 6 := by kernel_rfl
theorem f_103_7 : fieldOff Try.prog 103 7 = some 7 := by kernel_rfl
theorem f_103_8 : fieldOff Try.prog 103 8 = some 8 := by kernel_rfl
theorem f_103_9 : fieldOff Try.prog 103 9 = some 9 := by kernel_rfl
theorem f_103_10 : fieldOff Try.prog 103 10 = some 10 := by kernel_rfl
theorem s_104 : sizeT Try.prog 104 = some 11 := by kernel_rfl
theorem z_104 : zeroT Try.prog 104 = some (.agg #[.int .u64 0, .int .u64 0, .int .u32 0, .int .u8 0, .int .u8 0, .int .u8 0, .int .u8 0, .nilFunc, .pointer none, .int .i32 0, .int .i32 0]) := by kernel_rfl
theorem i_104 : (Try.prog.info? 104).map (fun i => (i.zero, i.size, i.bytes)) = some (some (.agg #[.int .u64 0, .int .u64 0, .int .u32 0, .int .u8 0, .int .u8 0, .int .u8 0, .int .u8 0, .nilFunc, .pointer none, .int .i32 0, .int .i32 0]), 11, 48) := by kernel_rfl
theorem pl_104 : placesB Try.prog 104 = some [(0, 1), (1, 1), (2, 1), (3, 1), (4, 1), (5, 1), (6, 1), (7, 1), (8, 1), (9, 1), (10, 1)] := by kernel_rfl
theorem f_104_0 : fieldOff Try.prog 104 0 = some 0 := by kernel_rfl
theorem f_104_1 : fieldOff Try.prog 104 1 = some 1 := by kernel_rfl
theorem f_104_2 : fieldOff Try.prog 104 2 = some 2 := by kernel_rfl
theorem f_104_3 : fieldOff Try.prog 104 3 = some 3 := by kernel_rfl
theorem f_104_4 : fieldOff Try.prog 104 4 = some 4 := by kernel_rfl
theorem f_104_5 : fieldOff Try.prog 104 5 = some 5 := by kernel_rfl
theorem f_104_6 : fieldOff Try.prog 104 6 = some 6 := by kernel_rfl
theorem f_104_7 : fieldOff Try.prog 104 7 = some 7 := by kernel_rfl
theorem f_104_8 : fieldOff Try.prog 104 8 = some 8 := by kernel_rfl
theorem f_104_9 : fieldOff Try.prog 104 9 = some 9 := by kernel_rfl
theorem f_104_10 : fieldOff Try.prog 104 10 = some 10 := by kernel_rfl
theorem s_105 : sizeT Try.prog 105 = some 1 := by kernel_rfl
theorem z_105 : zeroT Try.prog 105 = some (.pointer none) := by kernel_rfl
theorem i_105 : (Try.prog.info? 105).map (fun i => (i.zero, i.size, i.bytes)) = some (some (.pointer none), 1, 8) := by kernel_rfl
theorem enter_2 (xs : Array Value) (w : World) : (callFunc 2 xs).run Try.prog w = .ok (.enter 2 xs) w := run_enterF Try.func2 (by kernel_rfl) rfl xs w
theorem enter_3 (xs : Array Value) (w : World) : (callFunc 3 xs).run Try.prog w = .ok (.enter 3 xs) w := run_enterF Try.func3 (by kernel_rfl) rfl xs w
theorem enter_4 (xs : Array Value) (w : World) : (callFunc 4 xs).run Try.prog w = .ok (.enter 4 xs) w := run_enterF Try.func4 (by kernel_rfl) rfl xs w
theorem enter_5 (xs : Array Value) (w : World) : (callFunc 5 xs).run Try.prog w = .ok (.enter 5 xs) w := run_enterF Try.func5 (by kernel_rfl) rfl xs w
theorem enter_6 (xs : Array Value) (w : World) : (callFunc 6 xs).run Try.prog w = .ok (.enter 6 xs) w := run_enterF Try.func6 (by kernel_rfl) rfl xs w
theorem enter_7 (xs : Array Value) (w : World) : (callFunc 7 xs).run Try.prog w = .ok (.enter 7 xs) w := run_enterF Try.func7 (by kernel_rfl) rfl xs w
theorem enter_8 (xs : Array Value) (w : World) : (callFunc 8 xs).run Try.prog w = .ok (.enter 8 xs) w := run_enterF Try.func8 (by kernel_rfl) rfl xs w
theorem enter_9 (xs : Array Value) (w : World) : (callFunc 9 xs).run Try.prog w = .ok (.enter 9 xs) w := run_enterF Try.func9 (by kernel_rfl) rfl xs w
theorem enter_10 (xs : Array Value) (w : World) : (callFunc 10 xs).run Try.prog w = .ok (.enter 10 xs) w := run_enterF Try.func10 (by kernel_rfl) rfl xs w
theorem enter_11 (xs : Array Value) (w : World) : (callFunc 11 xs).run Try.prog w = .ok (.enter 11 xs) w := run_enterF Try.func11 (by kernel_rfl) rfl xs w
theorem enter_12 (xs : Array Value) (w : World) : (callFunc 12 xs).run Try.prog w = .ok (.enter 12 xs) w := run_enterF Try.func12 (by kernel_rfl) rfl xs w
theorem enter_13 (xs : Array Value) (w : World) : (callFunc 13 xs).run Try.prog w = .ok (.enter 13 xs) w := run_enterF Try.func13 (by kernel_rfl) rfl xs w
theorem enter_14 (xs : Array Value) (w : World) : (callFunc 14 xs).run Try.prog w = .ok (.enter 14 xs) w := run_enterF Try.func14 (by kernel_rfl) rfl xs w
theorem enter_15 (xs : Array Value) (w : World) : (callFunc 15 xs).run Try.prog w = .ok (.enter 15 xs) w := run_enterF Try.func15 (by kernel_rfl) rfl xs w
theorem enter_16 (xs : Array Value) (w : World) : (callFunc 16 xs).run Try.prog w = .ok (.enter 16 xs) w := run_enterF Try.func16 (by kernel_rfl) rfl xs w
theorem enter_17 (xs : Array Value) (w : World) : (callFunc 17 xs).run Try.prog w = .ok (.enter 17 xs) w := run_enterF Try.func17 (by kernel_rfl) rfl xs w
theorem enter_18 (xs : Array Value) (w : World) : (callFunc 18 xs).run Try.prog w = .ok (.enter 18 xs) w := run_enterF Try.func18 (by kernel_rfl) rfl xs w
theorem enter_19 (xs : Array Value) (w : World) : (callFunc 19 xs).run Try.prog w = .ok (.enter 19 xs) w := run_enterF Try.func19 (by kernel_rfl) rfl xs w
theorem enter_20 (xs : Array Value) (w : World) : (callFunc 20 xs).run Try.prog w = .ok (.enter 20 xs) w := run_enterF Try.func20 (by kernel_rfl) rfl xs w
theorem enter_21 (xs : Array Value) (w : World) : (callFunc 21 xs).run Try.prog w = .ok (.enter 21 xs) w := run_enterF Try.func21 (by kernel_rfl) rfl xs w
theorem enter_22 (xs : Array Value) (w : World) : (callFunc 22 xs).run Try.prog w = .ok (.enter 22 xs) w := run_enterF Try.func22 (by kernel_rfl) rfl xs w
theorem enter_23 (xs : Array Value) (w : World) : (callFunc 23 xs).run Try.prog w = .ok (.enter 23 xs) w := run_enterF Try.func23 (by kernel_rfl) rfl xs w
theorem enter_24 (xs : Array Value) (w : World) : (callFunc 24 xs).run Try.prog w = .ok (.enter 24 xs) w := run_enterF Try.func24 (by kernel_rfl) rfl xs w
theorem enter_25 (xs : Array Value) (w : World) : (callFunc 25 xs).run Try.prog w = .ok (.enter 25 xs) w := run_enterF Try.func25 (by kernel_rfl) rfl xs w
theorem enter_26 (xs : Array Value) (w : World) : (callFunc 26 xs).run Try.prog w = .ok (.enter 26 xs) w := run_enterF Try.func26 (by kernel_rfl) rfl xs w
theorem enter_27 (xs : Array Value) (w : World) : (callFunc 27 xs).run Try.prog w = .ok (.enter 27 xs) w := run_enterF Try.func27 (by kernel_rfl) rfl xs w
theorem enter_28 (xs : Array Value) (w : World) : (callFunc 28 xs).run Try.prog w = .ok (.enter 28 xs) w := run_enterF Try.func28 (by kernel_rfl) rfl xs w
theorem enter_29 (xs : Array Value) (w : World) : (callFunc 29 xs).run Try.prog w = .ok (.enter 29 xs) w := run_enterF Try.func29 (by kernel_rfl) rfl xs w
theorem enter_30 (xs : Array Value) (w : World) : (callFunc 30 xs).run Try.prog w = .ok (.enter 30 xs) w := run_enterF Try.func30 (by kernel_rfl) rfl xs w
theorem enter_31 (xs : Array Value) (w : World) : (callFunc 31 xs).run Try.prog w = .ok (.enter 31 xs) w := run_enterF Try.func31 (by kernel_rfl) rfl xs w
theorem enter_32 (xs : Array Value) (w : World) : (callFunc 32 xs).run Try.prog w = .ok (.enter 32 xs) w := run_enterF Try.func32 (by kernel_rfl) rfl xs w
theorem enter_33 (xs : Array Value) (w : World) : (callFunc 33 xs).run Try.prog w = .ok (.enter 33 xs) w := run_enterF Try.func33 (by kernel_rfl) rfl xs w
theorem enter_34 (xs : Array Value) (w : World) : (callFunc 34 xs).run Try.prog w = .ok (.enter 34 xs) w := run_enterF Try.func34 (by kernel_rfl) rfl xs w
theorem enter_35 (xs : Array Value) (w : World) : (callFunc 35 xs).run Try.prog w = .ok (.enter 35 xs) w := run_enterF Try.func35 (by kernel_rfl) rfl xs w
theorem enter_36 (xs : Array Value) (w : World) : (callFunc 36 xs).run Try.prog w = .ok (.enter 36 xs) w := run_enterF Try.func36 (by kernel_rfl) rfl xs w
theorem enter_37 (xs : Array Value) (w : World) : (callFunc 37 xs).run Try.prog w = .ok (.enter 37 xs) w := run_enterF Try.func37 (by kernel_rfl) rfl xs w
theorem enter_38 (xs : Array Value) (w : World) : (callFunc 38 xs).run Try.prog w = .ok (.enter 38 xs) w := run_enterF Try.func38 (by kernel_rfl) rfl xs w
theorem enter_39 (xs : Array Value) (w : World) : (callFunc 39 xs).run Try.prog w = .ok (.enter 39 xs) w := run_enterF Try.func39 (by kernel_rfl) rfl xs w
theorem enter_40 (xs : Array Value) (w : World) : (callFunc 40 xs).run Try.prog w = .ok (.enter 40 xs) w := run_enterF Try.func40 (by kernel_rfl) rfl xs w
theorem enter_41 (xs : Array Value) (w : World) : (callFunc 41 xs).run Try.prog w = .ok (.enter 41 xs) w := run_enterF Try.func41 (by kernel_rfl) rfl xs w
theorem enter_42 (xs : Array Value) (w : World) : (callFunc 42 xs).run Try.prog w = .ok (.enter 42 xs) w := run_enterF Try.func42 (by kernel_rfl) rfl xs w
theorem enter_43 (xs : Array Value) (w : World) : (callFunc 43 xs).run Try.prog w = .ok (.enter 43 xs) w := run_enterF Try.func43 (by kernel_rfl) rfl xs w
theorem enter_44 (xs : Array Value) (w : World) : (callFunc 44 xs).run Try.prog w = .ok (.enter 44 xs) w := run_enterF Try.func44 (by kernel_rfl) rfl xs w
theorem enter_45 (xs : Array Value) (w : World) : (callFunc 45 xs).run Try.prog w = .ok (.enter 45 xs) w := run_enterF Try.func45 (by kernel_rfl) rfl xs w
theorem enter_46 (xs : Array Value) (w : World) : (callFunc 46 xs).run Try.prog w = .ok (.enter 46 xs) w := run_enterF Try.func46 (by kernel_rfl) rfl xs w
theorem enter_47 (xs : Array Value) (w : World) : (callFunc 47 xs).run Try.prog w = .ok (.enter 47 xs) w := run_enterF Try.func47 (by kernel_rfl) rfl xs w
theorem enter_48 (xs : Array Value) (w : World) : (callFunc 48 xs).run Try.prog w = .ok (.enter 48 xs) w := run_enterF Try.func48 (by kernel_rfl) rfl xs w
theorem enter_49 (xs : Array Value) (w : World) : (callFunc 49 xs).run Try.prog w = .ok (.enter 49 xs) w := run_enterF Try.func49 (by kernel_rfl) rfl xs w
theorem enter_50 (xs : Array Value) (w : World) : (callFunc 50 xs).run Try.prog w = .ok (.enter 50 xs) w := run_enterF Try.func50 (by kernel_rfl) rfl xs w
theorem enter_51 (xs : Array Value) (w : World) : (callFunc 51 xs).run Try.prog w = .ok (.enter 51 xs) w := run_enterF Try.func51 (by kernel_rfl) rfl xs w
theorem enter_52 (xs : Array Value) (w : World) : (callFunc 52 xs).run Try.prog w = .ok (.enter 52 xs) w := run_enterF Try.func52 (by kernel_rfl) rfl xs w
theorem enter_53 (xs : Array Value) (w : World) : (callFunc 53 xs).run Try.prog w = .ok (.enter 53 xs) w := run_enterF Try.func53 (by kernel_rfl) rfl xs w
theorem enter_54 (xs : Array Value) (w : World) : (callFunc 54 xs).run Try.prog w = .ok (.enter 54 xs) w := run_enterF Try.func54 (by kernel_rfl) rfl xs w
theorem enter_55 (xs : Array Value) (w : World) : (callFunc 55 xs).run Try.prog w = .ok (.enter 55 xs) w := run_enterF Try.func55 (by kernel_rfl) rfl xs w
theorem enter_56 (xs : Array Value) (w : World) : (callFunc 56 xs).run Try.prog w = .ok (.enter 56 xs) w := run_enterF Try.func56 (by kernel_rfl) rfl xs w
theorem enter_57 (xs : Array Value) (w : World) : (callFunc 57 xs).run Try.prog w = .ok (.enter 57 xs) w := run_enterF Try.func57 (by kernel_rfl) rfl xs w
theorem enter_58 (xs : Array Value) (w : World) : (callFunc 58 xs).run Try.prog w = .ok (.enter 58 xs) w := run_enterF Try.func58 (by kernel_rfl) rfl xs w
theorem enter_59 (xs : Array Value) (w : World) : (callFunc 59 xs).run Try.prog w = .ok (.enter 59 xs) w := run_enterF Try.func59 (by kernel_rfl) rfl xs w
theorem enter_60 (xs : Array Value) (w : World) : (callFunc 60 xs).run Try.prog w = .ok (.enter 60 xs) w := run_enterF Try.func60 (by kernel_rfl) rfl xs w
theorem enter_61 (xs : Array Value) (w : World) : (callFunc 61 xs).run Try.prog w = .ok (.enter 61 xs) w := run_enterF Try.func61 (by kernel_rfl) rfl xs w
theorem enter_62 (xs : Array Value) (w : World) : (callFunc 62 xs).run Try.prog w = .ok (.enter 62 xs) w := run_enterF Try.func62 (by kernel_rfl) rfl xs w
theorem enter_63 (xs : Array Value) (w : World) : (callFunc 63 xs).run Try.prog w = .ok (.enter 63 xs) w := run_enterF Try.func63 (by kernel_rfl) rfl xs w
theorem enter_64 (xs : Array Value) (w : World) : (callFunc 64 xs).run Try.prog w = .ok (.enter 64 xs) w := run_enterF Try.func64 (by kernel_rfl) rfl xs w
theorem ov_65 (x y : Value) (w : World) (h : (Extern.SlicesOverlaps.overlaps #[22, 22] #[4] #[x, y]).run Try.prog w = .ok (.bool false) w) : (callFunc 65 #[x, y]).run Try.prog w = .ok (.value (.bool false)) w := by
  rw [run_callFunc_extern Try.func65 (by kernel_rfl) (by kernel_rfl) (by kernel_rfl) (e := Extern.SlicesOverlaps.overlaps #[22, 22] #[4]) (by kernel_rfl), h]; rfl
theorem enter_66 (xs : Array Value) (w : World) : (callFunc 66 xs).run Try.prog w = .ok (.enter 66 xs) w := run_enterF Try.func66 (by kernel_rfl) rfl xs w
theorem enter_67 (xs : Array Value) (w : World) : (callFunc 67 xs).run Try.prog w = .ok (.enter 67 xs) w := run_enterF Try.func67 (by kernel_rfl) rfl xs w
theorem enter_68 (xs : Array Value) (w : World) : (callFunc 68 xs).run Try.prog w = .ok (.enter 68 xs) w := run_enterF Try.func68 (by kernel_rfl) rfl xs w
theorem enter_69 (xs : Array Value) (w : World) : (callFunc 69 xs).run Try.prog w = .ok (.enter 69 xs) w := run_enterF Try.func69 (by kernel_rfl) rfl xs w

end Go.Proofs.Ytpdekmknnpkmgaa
