/- Walks, printed by gen.py. -/
import Derived.Test.YteajcgfcnbdmgaaRows
import Derived.Test.YteajcgfcnbdmgaaMaA
import Derived.Test.YteajcgfcnbdmgaaSd
set_option linter.unusedSimpArgs false
set_option linter.unusedVariables false
namespace Go.Proofs.Yteajcgfcnbdmgaa
open Go.Fw Go.RowKit

theorem s_2 : sizeT Try.prog 2 = some 1 := by kernel_rfl
theorem z_2 : zeroT Try.prog 2 = some (.int .i64 0) := by kernel_rfl
theorem i_2 : (Try.prog.info? 2).map (fun i => (i.zero, i.size, i.bytes)) = some (some (.int .i64 0), 1, 8) := by kernel_rfl
theorem s_3 : sizeT Try.prog 3 = some 1 := by kernel_rfl
theorem z_3 : zeroT Try.prog 3 = some (.int .i64 0) := by kernel_rfl
theorem i_3 : (Try.prog.info? 3).map (fun i => (i.zero, i.size, i.bytes)) = some (some (.int .i64 0), 1, 8) := by kernel_rfl
theorem s_4 : sizeT Try.prog 4 = some 1 := by kernel_rfl
theorem z_4 : zeroT Try.prog 4 = some (.bool false) := by kernel_rfl
theorem i_4 : (Try.prog.info? 4).map (fun i => (i.zero, i.size, i.bytes)) = some (some (.bool false), 1, 1) := by kernel_rfl
theorem s_5 : sizeT Try.prog 5 = some 1 := by kernel_rfl
theorem z_5 : zeroT Try.prog 5 = some (.int .u8 0) := by kernel_rfl
theorem i_5 : (Try.prog.info? 5).map (fun i => (i.zero, i.size, i.bytes)) = some (some (.int .u8 0), 1, 1) := by kernel_rfl
theorem s_6 : sizeT Try.prog 6 = some 1 := by kernel_rfl
theorem z_6 : zeroT Try.prog 6 = some (.int .u8 0) := by kernel_rfl
theorem i_6 : (Try.prog.info? 6).map (fun i => (i.zero, i.size, i.bytes)) = some (some (.int .u8 0), 1, 1) := by kernel_rfl
theorem s_7 : sizeT Try.prog 7 = some 4 := by kernel_rfl
theorem z_7 : zeroT Try.prog 7 = some (.agg #[.int .i64 0, .int .i64 0, .bool false, .int .u8 0]) := by kernel_rfl
theorem i_7 : (Try.prog.info? 7).map (fun i => (i.zero, i.size, i.bytes)) = some (some (.agg #[.int .i64 0, .int .i64 0, .bool false, .int .u8 0]), 4, 24) := by kernel_rfl
theorem pl_7 : placesB Try.prog 7 = some [(0, 1), (1, 1), (2, 1), (3, 1)] := by kernel_rfl
theorem f_7_0 : fieldOff Try.prog 7 0 = some 0 := by kernel_rfl
theorem f_7_1 : fieldOff Try.prog 7 1 = some 1 := by kernel_rfl
theorem f_7_2 : fieldOff Try.prog 7 2 = some 2 := by kernel_rfl
theorem f_7_3 : fieldOff Try.prog 7 3 = some 3 := by kernel_rfl
theorem s_8 : sizeT Try.prog 8 = some 4 := by kernel_rfl
theorem z_8 : zeroT Try.prog 8 = some (.agg #[.int .i64 0, .int .i64 0, .bool false, .int .u8 0]) := by kernel_rfl
theorem i_8 : (Try.prog.info? 8).map (fun i => (i.zero, i.size, i.bytes)) = some (some (.agg #[.int .i64 0, .int .i64 0, .bool false, .int .u8 0]), 4, 24) := by kernel_rfl
theorem pl_8 : placesB Try.prog 8 = some [(0, 1), (1, 1), (2, 1), (3, 1)] := by kernel_rfl
theorem f_8_0 : fieldOff Try.prog 8 0 = some 0 := by kernel_rfl
theorem f_8_1 : fieldOff Try.prog 8 1 = some 1 := by kernel_rfl
theorem f_8_2 : fieldOff Try.prog 8 2 = some 2 := by kernel_rfl
theorem f_8_3 : fieldOff Try.prog 8 3 = some 3 := by kernel_rfl
theorem s_9 : sizeT Try.prog 9 = some 1 := by kernel_rfl
theorem s_10 : sizeT Try.prog 10 = some 1 := by kernel_rfl
theorem s_11 : sizeT Try.prog 11 = some 1 := by kernel_rfl
theorem s_12 : sizeT Try.prog 12 = some 1 := by kernel_rfl
theorem z_12 : zeroT Try.prog 12 = some (.int .u64 0) := by kernel_rfl
theorem i_12 : (Try.prog.info? 12).map (fun i => (i.zero, i.size, i.bytes)) = some (some (.int .u64 0), 1, 8) := by kernel_rfl
theorem s_13 : sizeT Try.prog 13 = some 2 := by kernel_rfl
theorem pl_13 : placesB Try.prog 13 = some [(0, 1), (1, 1)] := by kernel_rfl
theorem f_13_0 : fieldOff Try.prog 13 0 = some 0 := by kernel_rfl
theorem f_13_1 : fieldOff Try.prog 13 1 = some 1 := by kernel_rfl
theorem s_14 : sizeT Try.prog 14 = some 2 := by kernel_rfl
theorem pl_14 : placesB Try.prog 14 = some [(0, 1), (1, 1)] := by kernel_rfl
theorem f_14_0 : fieldOff Try.prog 14 0 = some 0 := by kernel_rfl
theorem f_14_1 : fieldOff Try.prog 14 1 = some 1 := by kernel_rfl
theorem s_15 : sizeT Try.prog 15 = some 1 := by kernel_rfl
theorem z_15 : zeroT Try.prog 15 = some (.pointer none) := by kernel_rfl
theorem i_15 : (Try.prog.info? 15).map (fun i => (i.zero, i.size, i.bytes)) = some (some (.pointer none), 1, 8) := by kernel_rfl
theorem s_16 : sizeT Try.prog 16 = some 1 := by kernel_rfl
theorem z_16 : zeroT Try.prog 16 = some (.pointer none) := by kernel_rfl
theorem i_16 : (Try.prog.info? 16).map (fun i => (i.zero, i.size, i.bytes)) = some (some (.pointer none), 1, 8) := by kernel_rfl
theorem s_17 : sizeT Try.prog 17 = some 1 := by kernel_rfl
theorem z_17 : zeroT Try.prog 17 = some (.pointer none) := by kernel_rfl
theorem i_17 : (Try.prog.info? 17).map (fun i => (i.zero, i.size, i.bytes)) = some (some (.pointer none), 1, 8) := by kernel_rfl
theorem s_18 : sizeT Try.prog 18 = some 1 := by kernel_rfl
theorem z_18 : zeroT Try.prog 18 = some (.agg #[.pointer none]) := by kernel_rfl
theorem i_18 : (Try.prog.info? 18).map (fun i => (i.zero, i.size, i.bytes)) = some (some (.agg #[.pointer none]), 1, 8) := by kernel_rfl
theorem pl_18 : placesB Try.prog 18 = some [(0, 1)] := by kernel_rfl
theorem f_18_0 : fieldOff Try.prog 18 0 = some 0 := by kernel_rfl
theorem s_19 : sizeT Try.prog 19 = some 1 := by kernel_rfl
theorem z_19 : zeroT Try.prog 19 = some (.agg #[.pointer none]) := by kernel_rfl
theorem i_19 : (Try.prog.info? 19).map (fun i => (i.zero, i.size, i.bytes)) = some (some (.agg #[.pointer none]), 1, 8) := by kernel_rfl
theorem pl_19 : placesB Try.prog 19 = some [(0, 1)] := by kernel_rfl
theorem f_19_0 : fieldOff Try.prog 19 0 = some 0 := by kernel_rfl
theorem s_21 : sizeT Try.prog 21 = some 1 := by kernel_rfl
theorem z_21 : zeroT Try.prog 21 = some (.int .i32 0) := by kernel_rfl
theorem i_21 : (Try.prog.info? 21).map (fun i => (i.zero, i.size, i.bytes)) = some (some (.int .i32 0), 1, 4) := by kernel_rfl
theorem s_23 : sizeT Try.prog 23 = some 1 := by kernel_rfl
theorem z_23 : zeroT Try.prog 23 = some (.int .i64 0) := by kernel_rfl
theorem i_23 : (Try.prog.info? 23).map (fun i => (i.zero, i.size, i.bytes)) = some (some (.int .i64 0), 1, 8) := by kernel_rfl
theorem s_28 : sizeT Try.prog 28 = some 1 := by kernel_rfl
theorem z_28 : zeroT Try.prog 28 = some (.slice none 0 0) := by kernel_rfl
theorem i_28 : (Try.prog.info? 28).map (fun i => (i.zero, i.size, i.bytes)) = some (some (.slice none 0 0), 1, 24) := by kernel_rfl
theorem s_35 : sizeT Try.prog 35 = some 1 := by kernel_rfl
theorem z_35 : zeroT Try.prog 35 = some (.int .u64 0) := by kernel_rfl
theorem i_35 : (Try.prog.info? 35).map (fun i => (i.zero, i.size, i.bytes)) = some (some (.int .u64 0), 1, 8) := by kernel_rfl
theorem s_38 : sizeT Try.prog 38 = some 1 := by kernel_rfl
theorem z_38 : zeroT Try.prog 38 = some (.slice none 0 0) := by kernel_rfl
theorem i_38 : (Try.prog.info? 38).map (fun i => (i.zero, i.size, i.bytes)) = some (some (.slice none 0 0), 1, 24) := by kernel_rfl
theorem s_51 : sizeT Try.prog 51 = some 1 := by kernel_rfl
theorem z_51 : zeroT Try.prog 51 = some (.slice none 0 0) := by kernel_rfl
theorem i_51 : (Try.prog.info? 51).map (fun i => (i.zero, i.size, i.bytes)) = some (some (.slice none 0 0), 1, 24) := by kernel_rfl
theorem s_52 : sizeT Try.prog 52 = some 5 := by kernel_rfl
theorem z_52 : zeroT Try.prog 52 = some (.agg #[.int .i64 0, .int .i64 0, .int .i64 0, .int .i64 0, .slice none 0 0]) := by kernel_rfl
theorem i_52 : (Try.prog.info? 52).map (fun i => (i.zero, i.size, i.bytes)) = some (some (.agg #[.int .i64 0, .int .i64 0, .int .i64 0, .int .i64 0, .slice none 0 0]), 5, 56) := by kernel_rfl
theorem pl_52 : placesB Try.prog 52 = some [(0, 1), (1, 1), (2, 1), (3, 1), (4, 1)] := by kernel_rfl
theorem f_52_0 : fieldOff Try.prog 52 0 = some 0 := by kernel_rfl
theorem f_52_1 : fieldOff Try.prog 52 1 = some 1 := by kernel_rfl
theorem f_52_2 : fieldOff Try.prog 52 2 = some 2 := by kernel_rfl
theorem f_52_3 : fieldOff Try.prog 52 3 = some 3 := by kernel_rfl
theorem f_52_4 : fieldOff Try.prog 52 4 = some 4 := by kernel_rfl
theorem s_53 : sizeT Try.prog 53 = some 5 := by kernel_rfl
theorem z_53 : zeroT Try.prog 53 = some (.agg #[.int .i64 0, .int .i64 0, .int .i64 0, .int .i64 0, .slice none 0 0]) := by kernel_rfl
theorem i_53 : (Try.prog.info? 53).map (fun i => (i.zero, i.size, i.bytes)) = some (some (.agg #[.int .i64 0, .int .i64 0, .int .i64 0, .int .i64 0, .slice none 0 0]), 5, 56) := by kernel_rfl
theorem pl_53 : placesB Try.prog 53 = some [(0, 1), (1, 1), (2, 1), (3, 1), (4, 1)] := by kernel_rfl
theorem f_53_0 : fieldOff Try.prog 53 0 = some 0 := by kernel_rfl
theorem f_53_1 : fieldOff Try.prog 53 1 = some 1 := by kernel_rfl
theorem f_53_2 : fieldOff Try.prog 53 2 = some 2 := by kernel_rfl
theorem f_53_3 : fieldOff Try.prog 53 3 = some 3 := by kernel_rfl
theorem f_53_4 : fieldOff Try.prog 53 4 = some 4 := by kernel_rfl
theorem s_58 : sizeT Try.prog 58 = some 8 := by kernel_rfl
theorem z_58 : zeroT Try.prog 58 = some (.agg #[.int .u8 0, .int .u8 0, .int .u8 0, .int .u8 0, .int .u8 0, .int .u8 0, .int .u8 0, .int .u8 0]) := by kernel_rfl
theorem i_58 : (Try.prog.info? 58).map (fun i => (i.zero, i.size, i.bytes)) = some (some (.agg #[.int .u8 0, .int .u8 0, .int .u8 0, .int .u8 0, .int .u8 0, .int .u8 0, .int .u8 0, .int .u8 0]), 8, 8) := by kernel_rfl
theorem s_77 : sizeT Try.prog 77 = some 1 := by kernel_rfl
theorem z_77 : zeroT Try.prog 77 = some (.map none) := by kernel_rfl
theorem i_77 : (Try.prog.info? 77).map (fun i => (i.zero, i.size, i.bytes)) = some (some (.map none), 1, 8) := by kernel_rfl
theorem s_81 : sizeT Try.prog 81 = some 4 := by kernel_rfl
theorem pl_81 : placesB Try.prog 81 = some [(0, 1), (1, 1), (2, 1), (3, 1)] := by kernel_rfl
theorem f_81_0 : fieldOff Try.prog 81 0 = some 0 := by kernel_rfl
theorem f_81_1 : fieldOff Try.prog 81 1 = some 1 := by kernel_rfl
theorem f_81_2 : fieldOff Try.prog 81 2 = some 2 := by kernel_rfl
theorem f_81_3 : fieldOff Try.prog 81 3 = some 3 := by kernel_rfl
theorem s_82 : sizeT Try.prog 82 = some 4 := by kernel_rfl
theorem pl_82 : placesB Try.prog 82 = some [(0, 1), (1, 1), (2, 1), (3, 1)] := by kernel_rfl
theorem f_82_0 : fieldOff Try.prog 82 0 = some 0 := by kernel_rfl
theorem f_82_1 : fieldOff Try.prog 82 1 = some 1 := by kernel_rfl
theorem f_82_2 : fieldOff Try.prog 82 2 = some 2 := by kernel_rfl
theorem f_82_3 : fieldOff Try.prog 82 3 = some 3 := by kernel_rfl
theorem s_83 : sizeT Try.prog 83 = some 0 := by kernel_rfl
theorem z_83 : zeroT Try.prog 83 = some (.agg #[]) := by kernel_rfl
theorem i_83 : (Try.prog.info? 83).map (fun i => (i.zero, i.size, i.bytes)) = some (some (.agg #[]), 0, 0) := by kernel_rfl
theorem s_84 : sizeT Try.prog 84 = some 0 := by kernel_rfl
theorem z_84 : zeroT Try.prog 84 = some (.agg #[]) := by kernel_rfl
theorem i_84 : (Try.prog.info? 84).map (fun i => (i.zero, i.size, i.bytes)) = some (some (.agg #[]), 0, 0) := by kernel_rfl
theorem pl_84 : placesB Try.prog 84 = some [(0, 0)] := by kernel_rfl
theorem s_85 : sizeT Try.prog 85 = some 0 := by kernel_rfl
theorem z_85 : zeroT Try.prog 85 = some (.agg #[]) := by kernel_rfl
theorem i_85 : (Try.prog.info? 85).map (fun i => (i.zero, i.size, i.bytes)) = some (some (.agg #[]), 0, 0) := by kernel_rfl
theorem pl_85 : placesB Try.prog 85 = some [(0, 0)] := by kernel_rfl
theorem s_87 : sizeT Try.prog 87 = some 1 := by kernel_rfl
theorem z_87 : zeroT Try.prog 87 = some (.int .u32 0) := by kernel_rfl
theorem i_87 : (Try.prog.info? 87).map (fun i => (i.zero, i.size, i.bytes)) = some (some (.int .u32 0), 1, 4) := by kernel_rfl
theorem s_88 : sizeT Try.prog 88 = some 1 := by kernel_rfl
theorem z_88 : zeroT Try.prog 88 = some (.int .u8 0) := by kernel_rfl
theorem i_88 : (Try.prog.info? 88).map (fun i => (i.zero, i.size, i.bytes)) = some (some (.int .u8 0), 1, 1) := by kernel_rfl
theorem s_89 : sizeT Try.prog 89 = some 1 := by kernel_rfl
theorem z_89 : zeroT Try.prog 89 = some (.int .u8 0) := by kernel_rfl
theorem i_89 : (Try.prog.info? 89).map (fun i => (i.zero, i.size, i.bytes)) = some (some (.int .u8 0), 1, 1) := by kernel_rfl
theorem s_91 : sizeT Try.prog 91 = some 1 := by kernel_rfl
theorem z_91 : zeroT Try.prog 91 = some (.pointer none) := by kernel_rfl
theorem i_91 : (Try.prog.info? 91).map (fun i => (i.zero, i.size, i.bytes)) = some (some (.pointer none), 1, 8) := by kernel_rfl
theorem s_92 : sizeT Try.prog 92 = some 1 := by kernel_rfl
theorem z_92 : zeroT Try.prog 92 = some (.int .i32 0) := by kernel_rfl
theorem i_92 : (Try.prog.info? 92).map (fun i => (i.zero, i.size, i.bytes)) = some (some (.int .i32 0), 1, 4) := by kernel_rfl
theorem s_93 : sizeT Try.prog 93 = some 1 := by kernel_rfl
theorem z_93 : zeroT Try.prog 93 = some (.int .i32 0) := by kernel_rfl
theorem i_93 : (Try.prog.info? 93).map (fun i => (i.zero, i.size, i.bytes)) = some (some (.int .i32 0), 1, 4) := by kernel_rfl
theorem s_94 : sizeT Try.prog 94 = some 11 := by kernel_rfl
theorem z_94 : zeroT Try.prog 94 = some (.agg #[.int .u64 0, .int .u64 0, .int .u32 0, .int .u8 0, .int .u8 0, .int .u8 0, .int .u8 0, .nilFunc, .pointer none, .int .i32 0, .int .i32 0]) := by kernel_rfl
theorem i_94 : (Try.prog.info? 94).map (fun i => (i.zero, i.size, i.bytes)) = some (some (.agg #[.int .u64 0, .int .u64 0, .int .u32 0, .int .u8 0, .int .u8 0, .int .u8 0, .int .u8 0, .nilFunc, .pointer none, .int .i32 0, .int .i32 0]), 11, 48) := by kernel_rfl
theorem pl_94 : placesB Try.prog 94 = some [(0, 1), (1, 1), (2, 1), (3, 1), (4, 1), (5, 1), (6, 1), (7, 1), (8, 1), (9, 1), (10, 1)] := by kernel_rfl
theorem f_94_0 : fieldOff Try.prog 94 0 = some 0 := by kernel_rfl
theorem f_94_1 : fieldOff Try.prog 94 1 = some 1 := by kernel_rfl
theorem f_94_2 : fieldOff Try.prog 94 2 = some 2 := by kernel_rfl
theorem f_94_3 : fieldOff Try.prog 94 3 = some 3 := by kernel_rfl
theorem f_94_4 : fieldOff Try.prog 94 4 = some 4 := by kernel_rfl
theorem f_94_5 : fieldOff Try.prog 94 5 = some 5 := by kernel_rfl
theorem f_94_6 : fieldOff Try.prog 94 6 = some 6 := by kernel_rfl
theorem f_94_7 : fieldOff Try.prog 94 7 = some 7 := by kernel_rfl
theorem f_94_8 : fieldOff Try.prog 94 8 = some 8 := by kernel_rfl
theorem f_94_9 : fieldOff Try.prog 94 9 = some 9 := by kernel_rfl
theorem f_94_10 : fieldOff Try.prog 94 10 = some 10 := by kernel_rfl
theorem s_95 : sizeT Try.prog 95 = some 11 := by kernel_rfl
theorem z_95 : zeroT Try.prog 95 = some (.agg #[.int .u64 0, .int .u64 0, .int .u32 0, .int .u8 0, .int .u8 0, .int .u8 0, .int .u8 0, .nilFunc, .pointer none, .int .i32 0, .int .i32 0]) := by kernel_rfl
theorem i_95 : (Try.prog.info? 95).map (fun i => (i.zero, i.size, i.bytes)) = some (some (.agg #[.int .u64 0, .int .u64 0, .int .u32 0, .int .u8 0, .int .u8 0, .int .u8 0, .int .u8 0, .nilFunc, .pointer none, .int .i32 0, .int .i32 0]), 11, 48) := by kernel_rfl
theorem pl_95 : placesB Try.prog 95 = some [(0, 1), (1, 1), (2, 1), (3, 1), (4, 1), (5, 1), (6, 1), (7, 1), (8, 1), (9, 1), (10, 1)] := by kernel_rfl
theorem f_95_0 : fieldOff Try.prog 95 0 = some 0 := by kernel_rfl
theorem f_95_1 : fieldOff Try.prog 95 1 = some 1 := by kernel_rfl
theorem f_95_2 : fieldOff Try.prog 95 2 = some 2 := by kernel_rfl
theorem f_95_3 : fieldOff Try.prog 95 3 = some 3 := by kernel_rfl
theorem f_95_4 : fieldOff Try.prog 95 4 = some 4 := by kernel_rfl
theorem f_95_5 : fieldOff Try.prog 95 5 = some 5 := by kernel_rfl
theorem f_95_6 : fieldOff Try.prog 95 6 = some 6 := by kernel_rfl
theorem f_95_7 : fieldOff Try.prog 95 7 = some 7 := by kernel_rfl
theorem f_95_8 : fieldOff Try.prog 95 8 = some 8 := by kernel_rfl
theorem f_95_9 : fieldOff Try.prog 95 9 = some 9 := by kernel_rfl
theorem f_95_10 : fieldOff Try.prog 95 10 = some 10 := by kernel_rfl
theorem s_96 : sizeT Try.prog 96 = some 1 := by kernel_rfl
theorem z_96 : zeroT Try.prog 96 = some (.pointer none) := by kernel_rfl
theorem i_96 : (Try.prog.info? 96).map (fun i => (i.zero, i.size, i.bytes)) = some (some (.pointer none), 1, 8) := by kernel_rfl
theorem enter_2 (xs : Array Value) (w : World) : (callFunc 2 xs).run Try.prog w = .ok (.enter 2 xs) w := run_enterF Try.func2 (by kernel_rfl) rfl xs w
theorem enter_3 (xs : Array Value) (w : World) : (callFunc 3 xs).run Try.prog w = .ok (.enter 3 xs) w := run_enterF Try.func3 (by kernel_rfl) rfl xs w
theorem enter_4 (xs : Array Value) (w : World) : (callFunc 4 xs).run Try.prog w = .ok (.enter 4 xs) w := run_enterF Try.func4 (by kernel_rfl) rfl xs w
theorem enter_5 (xs : Array Value) (w : World) : (callFunc 5 xs).run Try.prog w = .ok (.enter 5 xs) w := run_enterF Try.func5 (by kernel_rfl) rfl xs w
theorem enter_6 (xs : Array Value) (w : World) : (callFunc 6 xs).run Try.prog w = .ok (.enter 6 xs) w := run_enterF Try.func6 (by kernel_rfl) rfl xs w
theorem enter_7 (xs : Array Value) (w : World) : (callFunc 7 xs).run Try.prog w = .ok (.enter 7 xs) w := run_enterF Try.func7 (by kernel_rfl) rfl xs w
theorem enter_8 (xs : Array Value) (w : World) : (callFunc 8 xs).run Try.prog w = .ok (.enter 8 xs) w := run_enterF Try.func8 (by kernel_rfl) rfl xs w
theorem enter_9 (xs : Array Value) (w : World) : (callFunc 9 xs).run Try.prog w = .ok (.enter 9 xs) w := run_enterF Try.func9 (by kernel_rfl) rfl xs w
theorem enter_10 (xs : Array Value) (w : World) : (callFunc 10 xs).run Try.prog w = .ok (.enter 10 xs) w := run_enterF Try.func10 (by kernel_rfl) rfl xs w
theorem enter_11 (xs : Array Value) (w : World) : (callFunc 11 xs).run Try.prog w = .ok (.enter 11 xs) w := run_enterF Try.func11 (by kernel_rfl) rfl xs w
theorem enter_12 (xs : Array Value) (w : World) : (callFunc 12 xs).run Try.prog w = .ok (.enter 12 xs) w := run_enterF Try.func12 (by kernel_rfl) rfl xs w
theorem enter_13 (xs : Array Value) (w : World) : (callFunc 13 xs).run Try.prog w = .ok (.enter 13 xs) w := run_enterF Try.func13 (by kernel_rfl) rfl xs w
theorem enter_14 (xs : Array Value) (w : World) : (callFunc 14 xs).run Try.prog w = .ok (.enter 14 xs) w := run_enterF Try.func14 (by kernel_rfl) rfl xs w
theorem enter_15 (xs : Array Value) (w : World) : (callFunc 15 xs).run Try.prog w = .ok (.enter 15 xs) w := run_enterF Try.func15 (by kernel_rfl) rfl xs w
theorem enter_16 (xs : Array Value) (w : World) : (callFunc 16 xs).run Try.prog w = .ok (.enter 16 xs) w := run_enterF Try.func16 (by kernel_rfl) rfl xs w
theorem enter_17 (xs : Array Value) (w : World) : (callFunc 17 xs).run Try.prog w = .ok (.enter 17 xs) w := run_enterF Try.func17 (by kernel_rfl) rfl xs w
theorem enter_18 (xs : Array Value) (w : World) : (callFunc 18 xs).run Try.prog w = .ok (.enter 18 xs) w := run_enterF Try.func18 (by kernel_rfl) rfl xs w
theorem enter_19 (xs : Array Value) (w : World) : (callFunc 19 xs).run Try.prog w = .ok (.enter 19 xs) w := run_enterF Try.func19 (by kernel_rfl) rfl xs w
theorem enter_20 (xs : Array Value) (w : World) : (callFunc 20 xs).run Try.prog w = .ok (.enter 20 xs) w := run_enterF Try.func20 (by kernel_rfl) rfl xs w
theorem enter_21 (xs : Array Value) (w : World) : (callFunc 21 xs).run Try.prog w = .ok (.enter 21 xs) w := run_enterF Try.func21 (by kernel_rfl) rfl xs w
theorem enter_22 (xs : Array Value) (w : World) : (callFunc 22 xs).run Try.prog w = .ok (.enter 22 xs) w := run_enterF Try.func22 (by kernel_rfl) rfl xs w
theorem enter_23 (xs : Array Value) (w : World) : (callFunc 23 xs).run Try.prog w = .ok (.enter 23 xs) w := run_enterF Try.func23 (by kernel_rfl) rfl xs w
theorem enter_24 (xs : Array Value) (w : World) : (callFunc 24 xs).run Try.prog w = .ok (.enter 24 xs) w := run_enterF Try.func24 (by kernel_rfl) rfl xs w
theorem enter_25 (xs : Array Value) (w : World) : (callFunc 25 xs).run Try.prog w = .ok (.enter 25 xs) w := run_enterF Try.func25 (by kernel_rfl) rfl xs w
theorem enter_26 (xs : Array Value) (w : World) : (callFunc 26 xs).run Try.prog w = .ok (.enter 26 xs) w := run_enterF Try.func26 (by kernel_rfl) rfl xs w
theorem enter_27 (xs : Array Value) (w : World) : (callFunc 27 xs).run Try.prog w = .ok (.enter 27 xs) w := run_enterF Try.func27 (by kernel_rfl) rfl xs w
theorem enter_28 (xs : Array Value) (w : World) : (callFunc 28 xs).run Try.prog w = .ok (.enter 28 xs) w := run_enterF Try.func28 (by kernel_rfl) rfl xs w
theorem enter_29 (xs : Array Value) (w : World) : (callFunc 29 xs).run Try.prog w = .ok (.enter 29 xs) w := run_enterF Try.func29 (by kernel_rfl) rfl xs w
theorem enter_30 (xs : Array Value) (w : World) : (callFunc 30 xs).run Try.prog w = .ok (.enter 30 xs) w := run_enterF Try.func30 (by kernel_rfl) rfl xs w
theorem enter_31 (xs : Array Value) (w : World) : (callFunc 31 xs).run Try.prog w = .ok (.enter 31 xs) w := run_enterF Try.func31 (by kernel_rfl) rfl xs w
theorem enter_32 (xs : Array Value) (w : World) : (callFunc 32 xs).run Try.prog w = .ok (.enter 32 xs) w := run_enterF Try.func32 (by kernel_rfl) rfl xs w
theorem enter_33 (xs : Array Value) (w : World) : (callFunc 33 xs).run Try.prog w = .ok (.enter 33 xs) w := run_enterF Try.func33 (by kernel_rfl) rfl xs w
theorem enter_34 (xs : Array Value) (w : World) : (callFunc 34 xs).run Try.prog w = .ok (.enter 34 xs) w := run_enterF Try.func34 (by kernel_rfl) rfl xs w
theorem enter_35 (xs : Array Value) (w : World) : (callFunc 35 xs).run Try.prog w = .ok (.enter 35 xs) w := run_enterF Try.func35 (by kernel_rfl) rfl xs w
theorem enter_36 (xs : Array Value) (w : World) : (callFunc 36 xs).run Try.prog w = .ok (.enter 36 xs) w := run_enterF Try.func36 (by kernel_rfl) rfl xs w
theorem enter_37 (xs : Array Value) (w : World) : (callFunc 37 xs).run Try.prog w = .ok (.enter 37 xs) w := run_enterF Try.func37 (by kernel_rfl) rfl xs w
theorem enter_38 (xs : Array Value) (w : World) : (callFunc 38 xs).run Try.prog w = .ok (.enter 38 xs) w := run_enterF Try.func38 (by kernel_rfl) rfl xs w
theorem enter_39 (xs : Array Value) (w : World) : (callFunc 39 xs).run Try.prog w = .ok (.enter 39 xs) w := run_enterF Try.func39 (by kernel_rfl) rfl xs w
theorem enter_40 (xs : Array Value) (w : World) : (callFunc 40 xs).run Try.prog w = .ok (.enter 40 xs) w := run_enterF Try.func40 (by kernel_rfl) rfl xs w
theorem enter_41 (xs : Array Value) (w : World) : (callFunc 41 xs).run Try.prog w = .ok (.enter 41 xs) w := run_enterF Try.func41 (by kernel_rfl) rfl xs w
theorem enter_42 (xs : Array Value) (w : World) : (callFunc 42 xs).run Try.prog w = .ok (.enter 42 xs) w := run_enterF Try.func42 (by kernel_rfl) rfl xs w
theorem enter_43 (xs : Array Value) (w : World) : (callFunc 43 xs).run Try.prog w = .ok (.enter 43 xs) w := run_enterF Try.func43 (by kernel_rfl) rfl xs w
theorem enter_44 (xs : Array Value) (w : World) : (callFunc 44 xs).run Try.prog w = .ok (.enter 44 xs) w := run_enterF Try.func44 (by kernel_rfl) rfl xs w
theorem enter_45 (xs : Array Value) (w : World) : (callFunc 45 xs).run Try.prog w = .ok (.enter 45 xs) w := run_enterF Try.func45 (by kernel_rfl) rfl xs w
theorem enter_46 (xs : Array Value) (w : World) : (callFunc 46 xs).run Try.prog w = .ok (.enter 46 xs) w := run_enterF Try.func46 (by kernel_rfl) rfl xs w
theorem enter_47 (xs : Array Value) (w : World) : (callFunc 47 xs).run Try.prog w = .ok (.enter 47 xs) w := run_enterF Try.func47 (by kernel_rfl) rfl xs w
theorem enter_48 (xs : Array Value) (w : World) : (callFunc 48 xs).run Try.prog w = .ok (.enter 48 xs) w := run_enterF Try.func48 (by kernel_rfl) rfl xs w
theorem enter_49 (xs : Array Value) (w : World) : (callFunc 49 xs).run Try.prog w = .ok (.enter 49 xs) w := run_enterF Try.func49 (by kernel_rfl) rfl xs w
theorem enter_50 (xs : Array Value) (w : World) : (callFunc 50 xs).run Try.prog w = .ok (.enter 50 xs) w := run_enterF Try.func50 (by kernel_rfl) rfl xs w
theorem enter_51 (xs : Array Value) (w : World) : (callFunc 51 xs).run Try.prog w = .ok (.enter 51 xs) w := run_enterF Try.func51 (by kernel_rfl) rfl xs w
theorem enter_52 (xs : Array Value) (w : World) : (callFunc 52 xs).run Try.prog w = .ok (.enter 52 xs) w := run_enterF Try.func52 (by kernel_rfl) rfl xs w
theorem enter_53 (xs : Array Value) (w : World) : (callFunc 53 xs).run Try.prog w = .ok (.enter 53 xs) w := run_enterF Try.func53 (by kernel_rfl) rfl xs w
theorem enter_54 (xs : Array Value) (w : World) : (callFunc 54 xs).run Try.prog w = .ok (.enter 54 xs) w := run_enterF Try.func54 (by kernel_rfl) rfl xs w
theorem enter_55 (xs : Array Value) (w : World) : (callFunc 55 xs).run Try.prog w = .ok (.enter 55 xs) w := run_enterF Try.func55 (by kernel_rfl) rfl xs w
theorem enter_56 (xs : Array Value) (w : World) : (callFunc 56 xs).run Try.prog w = .ok (.enter 56 xs) w := run_enterF Try.func56 (by kernel_rfl) rfl xs w
theorem enter_57 (xs : Array Value) (w : World) : (callFunc 57 xs).run Try.prog w = .ok (.enter 57 xs) w := run_enterF Try.func57 (by kernel_rfl) rfl xs w
theorem enter_58 (xs : Array Value) (w : World) : (callFunc 58 xs).run Try.prog w = .ok (.enter 58 xs) w := run_enterF Try.func58 (by kernel_rfl) rfl xs w
theorem enter_59 (xs : Array Value) (w : World) : (callFunc 59 xs).run Try.prog w = .ok (.enter 59 xs) w := run_enterF Try.func59 (by kernel_rfl) rfl xs w
theorem enter_60 (xs : Array Value) (w : World) : (callFunc 60 xs).run Try.prog w = .ok (.enter 60 xs) w := run_enterF Try.func60 (by kernel_rfl) rfl xs w
theorem enter_61 (xs : Array Value) (w : World) : (callFunc 61 xs).run Try.prog w = .ok (.enter 61 xs) w := run_enterF Try.func61 (by kernel_rfl) rfl xs w
theorem enter_62 (xs : Array Value) (w : World) : (callFunc 62 xs).run Try.prog w = .ok (.enter 62 xs) w := run_enterF Try.func62 (by kernel_rfl) rfl xs w
theorem enter_63 (xs : Array Value) (w : World) : (callFunc 63 xs).run Try.prog w = .ok (.enter 63 xs) w := run_enterF Try.func63 (by kernel_rfl) rfl xs w
theorem enter_64 (xs : Array Value) (w : World) : (callFunc 64 xs).run Try.prog w = .ok (.enter 64 xs) w := run_enterF Try.func64 (by kernel_rfl) rfl xs w
theorem enter_65 (xs : Array Value) (w : World) : (callFunc 65 xs).run Try.prog w = .ok (.enter 65 xs) w := run_enterF Try.func65 (by kernel_rfl) rfl xs w
theorem enter_66 (xs : Array Value) (w : World) : (callFunc 66 xs).run Try.prog w = .ok (.enter 66 xs) w := run_enterF Try.func66 (by kernel_rfl) rfl xs w
theorem enter_67 (xs : Array Value) (w : World) : (callFunc 67 xs).run Try.prog w = .ok (.enter 67 xs) w := run_enterF Try.func67 (by kernel_rfl) rfl xs w
theorem enter_68 (xs : Array Value) (w : World) : (callFunc 68 xs).run Try.prog w = .ok (.enter 68 xs) w := run_enterF Try.func68 (by kernel_rfl) rfl xs w

end Go.Proofs.Yteajcgfcnbdmgaa
