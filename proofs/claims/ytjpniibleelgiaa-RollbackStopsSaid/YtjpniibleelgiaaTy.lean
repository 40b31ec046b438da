/- Walks, printed by gen.py. -/
import Derived.Test.YtjpniibleelgiaaRows
import Derived.Test.YtjpniibleelgiaaMaA
import Derived.Test.YtjpniibleelgiaaSd
import Derived.Test.YtjpniibleelgiaaFwK
set_option linter.unusedSimpArgs false
set_option linter.unusedVariables false
namespace Go.Proofs.Ytjpniibleelgiaa
open Go.Fw Go.RowKit

theorem s_3 : sizeT Try.prog 3 = some 1 := by kernel_rfl
theorem z_3 : zeroT Try.prog 3 = some (.int .i64 0) := by kernel_rfl
theorem i_3 : (Try.prog.info? 3).map (fun i => (i.zero, i.size, i.bytes)) = some (some (.int .i64 0), 1, 8) := by kernel_rfl
theorem s_4 : sizeT Try.prog 4 = some 1 := by kernel_rfl
theorem z_4 : zeroT Try.prog 4 = some (.bool false) := by kernel_rfl
theorem s_26 : sizeT Try.prog 26 = some 1 := by kernel_rfl
theorem z_26 : zeroT Try.prog 26 = some (.slice none 0 0) := by kernel_rfl
theorem s_31 : sizeT Try.prog 31 = some 4 := by kernel_rfl
theorem z_31 : zeroT Try.prog 31 = some (.agg #[.int .i64 0, .int .i64 0, .slice none 0 0, .bool false]) := by kernel_rfl
theorem pl_31 : placesB Try.prog 31 = some [(0, 1), (1, 1), (2, 1), (3, 1)] := by kernel_rfl
theorem f_31_0 : fieldOff Try.prog 31 0 = some 0 := by kernel_rfl
theorem f_31_1 : fieldOff Try.prog 31 1 = some 1 := by kernel_rfl
theorem f_31_2 : fieldOff Try.prog 31 2 = some 2 := by kernel_rfl
theorem f_31_3 : fieldOff Try.prog 31 3 = some 3 := by kernel_rfl
theorem s_40 : sizeT Try.prog 40 = some 6 := by kernel_rfl
theorem z_40 : zeroT Try.prog 40 = some (.agg #[.int .i64 0, .int .i64 0, .int .i64 0, .int .i64 0, .int .i64 0, .int .i64 0]) := by kernel_rfl
theorem i_40 : (Try.prog.info? 40).map (fun i => (i.zero, i.size, i.bytes)) = some (some (.agg #[.int .i64 0, .int .i64 0, .int .i64 0, .int .i64 0, .int .i64 0, .int .i64 0]), 6, 48) := by kernel_rfl
theorem pl_40 : placesB Try.prog 40 = some [(0, 1), (1, 1), (2, 1), (3, 1), (4, 1), (5, 1)] := by kernel_rfl
theorem f_40_0 : fieldOff Try.prog 40 0 = some 0 := by kernel_rfl
theorem f_40_1 : fieldOff Try.prog 40 1 = some 1 := by kernel_rfl
theorem f_40_2 : fieldOff Try.prog 40 2 = some 2 := by kernel_rfl
theorem f_40_3 : fieldOff Try.prog 40 3 = some 3 := by kernel_rfl
theorem f_40_4 : fieldOff Try.prog 40 4 = some 4 := by kernel_rfl
theorem f_40_5 : fieldOff Try.prog 40 5 = some 5 := by kernel_rfl
theorem s_47 : sizeT Try.prog 47 = some 4 := by kernel_rfl
theorem z_47 : zeroT Try.prog 47 = some (.agg #[.int .i64 0, .int .i64 0, .int .i64 0, .bool false]) := by kernel_rfl
theorem i_47 : (Try.prog.info? 47).map (fun i => (i.zero, i.size, i.bytes)) = some (some (.agg #[.int .i64 0, .int .i64 0, .int .i64 0, .bool false]), 4, 32) := by kernel_rfl
theorem pl_47 : placesB Try.prog 47 = some [(0, 1), (1, 1), (2, 1), (3, 1)] := by kernel_rfl
theorem f_47_0 : fieldOff Try.prog 47 0 = some 0 := by kernel_rfl
theorem f_47_1 : fieldOff Try.prog 47 1 = some 1 := by kernel_rfl
theorem f_47_2 : fieldOff Try.prog 47 2 = some 2 := by kernel_rfl
theorem f_47_3 : fieldOff Try.prog 47 3 = some 3 := by kernel_rfl
theorem s_79 : sizeT Try.prog 79 = some 6 := by kernel_rfl
theorem f_79_1 : fieldOff Try.prog 79 1 = some 1 := by kernel_rfl
theorem f_79_2 : fieldOff Try.prog 79 2 = some 2 := by kernel_rfl
theorem f_79_3 : fieldOff Try.prog 79 3 = some 3 := by kernel_rfl
theorem f_79_4 : fieldOff Try.prog 79 4 = some 4 := by kernel_rfl
theorem s_90 : sizeT Try.prog 90 = some 2 := by kernel_rfl
theorem z_90 : zeroT Try.prog 90 = some (.agg #[.int .i64 0, .int .i64 0]) := by kernel_rfl
theorem pl_90 : placesB Try.prog 90 = some [(0, 1), (1, 1)] := by kernel_rfl
theorem s_97 : sizeT Try.prog 97 = some 1 := by kernel_rfl
theorem z_97 : zeroT Try.prog 97 = some (.map none) := by kernel_rfl
theorem s_112 : sizeT Try.prog 112 = some 4 := by kernel_rfl
theorem z_112 : zeroT Try.prog 112 = some (.agg #[.int .i64 0, .int .i64 0, .slice none 0 0, .bool false]) := by kernel_rfl
theorem pl_112 : placesB Try.prog 112 = some [(0, 4)] := by kernel_rfl
theorem f_112_0 : fieldOff Try.prog 112 0 = some 0 := by kernel_rfl
theorem s_113 : sizeT Try.prog 113 = some 2 := by kernel_rfl
theorem z_113 : zeroT Try.prog 113 = some (.agg #[.nilFunc, .int .i64 0]) := by kernel_rfl
theorem pl_113 : placesB Try.prog 113 = some [(0, 1), (1, 1)] := by kernel_rfl
theorem f_113_0 : fieldOff Try.prog 113 0 = some 0 := by kernel_rfl
theorem f_113_1 : fieldOff Try.prog 113 1 = some 1 := by kernel_rfl
theorem s_121 : sizeT Try.prog 121 = some 1 := by kernel_rfl
theorem z_121 : zeroT Try.prog 121 = some (.nilFunc) := by kernel_rfl
theorem flat_devop : flatT Try.prog 40 [true, true, true, true, true, true] = true := by kernel_rfl
theorem str_devop : Try.prog.underlying 40 = some (.struct (Try.prog.fieldsOf 40)) := by kernel_rfl
def cl_devop (x : DeviceOp) : List (Int ⊕ Bool) := [.inl x.device, .inl x.no, .inl x.kind, .inl x.copy, .inl x.to, .inl x.token]
theorem cs_devop (x y : DeviceOp) : decide (([.inl x.device, .inl x.no, .inl x.kind, .inl x.copy, .inl x.to, .inl x.token] : List (Int ⊕ Bool)) = [.inl y.device, .inl y.no, .inl y.kind, .inl y.copy, .inl y.to, .inl y.token]) = (x == y) := by
  rw [Bool.eq_iff_iff, decide_eq_true_eq, beq_iff_eq, DeviceOp.ext_iff]
  simp
abbrev encv_devop (x : DeviceOp) : Value := .agg #[vI x.device, vI x.no, vI x.kind, vI x.copy, vI x.to, vI x.token]
theorem flat_holding : flatT Try.prog 47 [true, true, true, false] = true := by kernel_rfl
theorem str_holding : Try.prog.underlying 47 = some (.struct (Try.prog.fieldsOf 47)) := by kernel_rfl
def cl_holding (x : Holding) : List (Int ⊕ Bool) := [.inl x.copy, .inl x.device, .inl x.token, .inr x.shown]
theorem cs_holding (x y : Holding) : decide (([.inl x.copy, .inl x.device, .inl x.token, .inr x.shown] : List (Int ⊕ Bool)) = [.inl y.copy, .inl y.device, .inl y.token, .inr y.shown]) = (x == y) := by
  rw [Bool.eq_iff_iff, decide_eq_true_eq, beq_iff_eq, Holding.ext_iff]
  simp
abbrev encv_holding (x : Holding) : Value := .agg #[vI x.copy, vI x.device, vI x.token, .bool x.shown]
theorem flat_devno : flatT Try.prog 90 [true, true] = true := by kernel_rfl
theorem str_devno : Try.prog.underlying 90 = some (.struct (Try.prog.fieldsOf 90)) := by kernel_rfl
def cl_devno (x : DevNo) : List (Int ⊕ Bool) := [.inl x.device, .inl x.no]
theorem cs_devno (x y : DevNo) : decide (([.inl x.device, .inl x.no] : List (Int ⊕ Bool)) = [.inl y.device, .inl y.no]) = (x == y) := by
  rw [Bool.eq_iff_iff, decide_eq_true_eq, beq_iff_eq, DevNo.ext_iff]
  simp
abbrev encv_devno (x : DevNo) : Value := .agg #[vI x.device, vI x.no]
theorem key_devno : KeyT Try.prog 90 encv_devno :=
  have h : KeyT Try.prog 90 (fun x : DevNo => Value.agg ((cl_devno x).map cellV).toArray) := key_flat (P := Try.prog) (kt := 90) (κ := DevNo) cl_devno str_devno flat_devno (fun _ => rfl) (fun a b h => beq_iff_eq.1 ((cs_devno a b).symm.trans (decide_eq_true h)))
  h

theorem enter_20 (xs : Array Value) (w : World) : (callFunc 20 xs).run Try.prog w = .ok (.enter 20 xs) w := run_enterF Try.func20 (by kernel_rfl) rfl xs w
theorem enter_23 (xs : Array Value) (w : World) : (callFunc 23 xs).run Try.prog w = .ok (.enter 23 xs) w := run_enterF Try.func23 (by kernel_rfl) rfl xs w
theorem enter_24 (xs : Array Value) (w : World) : (callFunc 24 xs).run Try.prog w = .ok (.enter 24 xs) w := run_enterF Try.func24 (by kernel_rfl) rfl xs w
theorem enter_25 (xs : Array Value) (w : World) : (callFunc 25 xs).run Try.prog w = .ok (.enter 25 xs) w := run_enterF Try.func25 (by kernel_rfl) rfl xs w
theorem enter_26 (xs : Array Value) (w : World) : (callFunc 26 xs).run Try.prog w = .ok (.enter 26 xs) w := run_enterF Try.func26 (by kernel_rfl) rfl xs w
theorem enter_27 (xs : Array Value) (w : World) : (callFunc 27 xs).run Try.prog w = .ok (.enter 27 xs) w := run_enterF Try.func27 (by kernel_rfl) rfl xs w
theorem enter_28 (xs : Array Value) (w : World) : (callFunc 28 xs).run Try.prog w = .ok (.enter 28 xs) w := run_enterF Try.func28 (by kernel_rfl) rfl xs w
theorem enter_29 (xs : Array Value) (w : World) : (callFunc 29 xs).run Try.prog w = .ok (.enter 29 xs) w := run_enterF Try.func29 (by kernel_rfl) rfl xs w
theorem enter_30 (xs : Array Value) (w : World) : (callFunc 30 xs).run Try.prog w = .ok (.enter 30 xs) w := run_enterF Try.func30 (by kernel_rfl) rfl xs w
theorem enter_31 (xs : Array Value) (w : World) : (callFunc 31 xs).run Try.prog w = .ok (.enter 31 xs) w := run_enterF Try.func31 (by kernel_rfl) rfl xs w
theorem enter_32 (xs : Array Value) (w : World) : (callFunc 32 xs).run Try.prog w = .ok (.enter 32 xs) w := run_enterF Try.func32 (by kernel_rfl) rfl xs w
theorem enter_33 (xs : Array Value) (w : World) : (callFunc 33 xs).run Try.prog w = .ok (.enter 33 xs) w := run_enterF Try.func33 (by kernel_rfl) rfl xs w
theorem enter_34 (xs : Array Value) (w : World) : (callFunc 34 xs).run Try.prog w = .ok (.enter 34 xs) w := run_enterF Try.func34 (by kernel_rfl) rfl xs w
theorem enter_35 (xs : Array Value) (w : World) : (callFunc 35 xs).run Try.prog w = .ok (.enter 35 xs) w := run_enterF Try.func35 (by kernel_rfl) rfl xs w
theorem enter_36 (xs : Array Value) (w : World) : (callFunc 36 xs).run Try.prog w = .ok (.enter 36 xs) w := run_enterF Try.func36 (by kernel_rfl) rfl xs w
theorem enter_37 (xs : Array Value) (w : World) : (callFunc 37 xs).run Try.prog w = .ok (.enter 37 xs) w := run_enterF Try.func37 (by kernel_rfl) rfl xs w
theorem enter_38 (xs : Array Value) (w : World) : (callFunc 38 xs).run Try.prog w = .ok (.enter 38 xs) w := run_enterF Try.func38 (by kernel_rfl) rfl xs w
theorem enter_39 (xs : Array Value) (w : World) : (callFunc 39 xs).run Try.prog w = .ok (.enter 39 xs) w := run_enterF Try.func39 (by kernel_rfl) rfl xs w
theorem enter_40 (xs : Array Value) (w : World) : (callFunc 40 xs).run Try.prog w = .ok (.enter 40 xs) w := run_enterF Try.func40 (by kernel_rfl) rfl xs w
theorem enter_41 (xs : Array Value) (w : World) : (callFunc 41 xs).run Try.prog w = .ok (.enter 41 xs) w := run_enterF Try.func41 (by kernel_rfl) rfl xs w
theorem enter_42 (xs : Array Value) (w : World) : (callFunc 42 xs).run Try.prog w = .ok (.enter 42 xs) w := run_enterF Try.func42 (by kernel_rfl) rfl xs w
theorem enter_43 (xs : Array Value) (w : World) : (callFunc 43 xs).run Try.prog w = .ok (.enter 43 xs) w := run_enterF Try.func43 (by kernel_rfl) rfl xs w
theorem enter_44 (xs : Array Value) (w : World) : (callFunc 44 xs).run Try.prog w = .ok (.enter 44 xs) w := run_enterF Try.func44 (by kernel_rfl) rfl xs w
theorem enter_45 (xs : Array Value) (w : World) : (callFunc 45 xs).run Try.prog w = .ok (.enter 45 xs) w := run_enterF Try.func45 (by kernel_rfl) rfl xs w
theorem enter_46 (xs : Array Value) (w : World) : (callFunc 46 xs).run Try.prog w = .ok (.enter 46 xs) w := run_enterF Try.func46 (by kernel_rfl) rfl xs w
theorem enter_47 (xs : Array Value) (w : World) : (callFunc 47 xs).run Try.prog w = .ok (.enter 47 xs) w := run_enterF Try.func47 (by kernel_rfl) rfl xs w
theorem enter_48 (xs : Array Value) (w : World) : (callFunc 48 xs).run Try.prog w = .ok (.enter 48 xs) w := run_enterF Try.func48 (by kernel_rfl) rfl xs w
theorem enter_49 (xs : Array Value) (w : World) : (callFunc 49 xs).run Try.prog w = .ok (.enter 49 xs) w := run_enterF Try.func49 (by kernel_rfl) rfl xs w
theorem enter_50 (xs : Array Value) (w : World) : (callFunc 50 xs).run Try.prog w = .ok (.enter 50 xs) w := run_enterF Try.func50 (by kernel_rfl) rfl xs w
theorem enter_51 (xs : Array Value) (w : World) : (callFunc 51 xs).run Try.prog w = .ok (.enter 51 xs) w := run_enterF Try.func51 (by kernel_rfl) rfl xs w
theorem enter_53 (xs : Array Value) (w : World) : (callFunc 53 xs).run Try.prog w = .ok (.enter 53 xs) w := run_enterF Try.func53 (by kernel_rfl) rfl xs w
theorem enter_54 (xs : Array Value) (w : World) : (callFunc 54 xs).run Try.prog w = .ok (.enter 54 xs) w := run_enterF Try.func54 (by kernel_rfl) rfl xs w
theorem enter_55 (xs : Array Value) (w : World) : (callFunc 55 xs).run Try.prog w = .ok (.enter 55 xs) w := run_enterF Try.func55 (by kernel_rfl) rfl xs w
theorem enter_56 (xs : Array Value) (w : World) : (callFunc 56 xs).run Try.prog w = .ok (.enter 56 xs) w := run_enterF Try.func56 (by kernel_rfl) rfl xs w
theorem enter_57 (xs : Array Value) (w : World) : (callFunc 57 xs).run Try.prog w = .ok (.enter 57 xs) w := run_enterF Try.func57 (by kernel_rfl) rfl xs w
theorem enter_58 (xs : Array Value) (w : World) : (callFunc 58 xs).run Try.prog w = .ok (.enter 58 xs) w := run_enterF Try.func58 (by kernel_rfl) rfl xs w
theorem enter_59 (xs : Array Value) (w : World) : (callFunc 59 xs).run Try.prog w = .ok (.enter 59 xs) w := run_enterF Try.func59 (by kernel_rfl) rfl xs w
theorem enter_60 (xs : Array Value) (w : World) : (callFunc 60 xs).run Try.prog w = .ok (.enter 60 xs) w := run_enterF Try.func60 (by kernel_rfl) rfl xs w
theorem enter_61 (xs : Array Value) (w : World) : (callFunc 61 xs).run Try.prog w = .ok (.enter 61 xs) w := run_enterF Try.func61 (by kernel_rfl) rfl xs w
theorem enter_62 (xs : Array Value) (w : World) : (callFunc 62 xs).run Try.prog w = .ok (.enter 62 xs) w := run_enterF Try.func62 (by kernel_rfl) rfl xs w
theorem enter_63 (xs : Array Value) (w : World) : (callFunc 63 xs).run Try.prog w = .ok (.enter 63 xs) w := run_enterF Try.func63 (by kernel_rfl) rfl xs w
theorem enter_64 (xs : Array Value) (w : World) : (callFunc 64 xs).run Try.prog w = .ok (.enter 64 xs) w := run_enterF Try.func64 (by kernel_rfl) rfl xs w
theorem enter_65 (xs : Array Value) (w : World) : (callFunc 65 xs).run Try.prog w = .ok (.enter 65 xs) w := run_enterF Try.func65 (by kernel_rfl) rfl xs w
theorem enter_66 (xs : Array Value) (w : World) : (callFunc 66 xs).run Try.prog w = .ok (.enter 66 xs) w := run_enterF Try.func66 (by kernel_rfl) rfl xs w
theorem enter_67 (xs : Array Value) (w : World) : (callFunc 67 xs).run Try.prog w = .ok (.enter 67 xs) w := run_enterF Try.func67 (by kernel_rfl) rfl xs w
theorem enter_68 (xs : Array Value) (w : World) : (callFunc 68 xs).run Try.prog w = .ok (.enter 68 xs) w := run_enterF Try.func68 (by kernel_rfl) rfl xs w
theorem enter_69 (xs : Array Value) (w : World) : (callFunc 69 xs).run Try.prog w = .ok (.enter 69 xs) w := run_enterF Try.func69 (by kernel_rfl) rfl xs w
theorem enter_70 (xs : Array Value) (w : World) : (callFunc 70 xs).run Try.prog w = .ok (.enter 70 xs) w := run_enterF Try.func70 (by kernel_rfl) rfl xs w
theorem enter_71 (xs : Array Value) (w : World) : (callFunc 71 xs).run Try.prog w = .ok (.enter 71 xs) w := run_enterF Try.func71 (by kernel_rfl) rfl xs w
theorem enter_72 (xs : Array Value) (w : World) : (callFunc 72 xs).run Try.prog w = .ok (.enter 72 xs) w := run_enterF Try.func72 (by kernel_rfl) rfl xs w
theorem enter_73 (xs : Array Value) (w : World) : (callFunc 73 xs).run Try.prog w = .ok (.enter 73 xs) w := run_enterF Try.func73 (by kernel_rfl) rfl xs w
theorem enter_74 (xs : Array Value) (w : World) : (callFunc 74 xs).run Try.prog w = .ok (.enter 74 xs) w := run_enterF Try.func74 (by kernel_rfl) rfl xs w
theorem enter_75 (xs : Array Value) (w : World) : (callFunc 75 xs).run Try.prog w = .ok (.enter 75 xs) w := run_enterF Try.func75 (by kernel_rfl) rfl xs w
theorem enter_76 (xs : Array Value) (w : World) : (callFunc 76 xs).run Try.prog w = .ok (.enter 76 xs) w := run_enterF Try.func76 (by kernel_rfl) rfl xs w
theorem enter_77 (xs : Array Value) (w : World) : (callFunc 77 xs).run Try.prog w = .ok (.enter 77 xs) w := run_enterF Try.func77 (by kernel_rfl) rfl xs w
theorem enter_78 (xs : Array Value) (w : World) : (callFunc 78 xs).run Try.prog w = .ok (.enter 78 xs) w := run_enterF Try.func78 (by kernel_rfl) rfl xs w
theorem enter_79 (xs : Array Value) (w : World) : (callFunc 79 xs).run Try.prog w = .ok (.enter 79 xs) w := run_enterF Try.func79 (by kernel_rfl) rfl xs w
theorem enter_80 (xs : Array Value) (w : World) : (callFunc 80 xs).run Try.prog w = .ok (.enter 80 xs) w := run_enterF Try.func80 (by kernel_rfl) rfl xs w
theorem enter_81 (xs : Array Value) (w : World) : (callFunc 81 xs).run Try.prog w = .ok (.enter 81 xs) w := run_enterF Try.func81 (by kernel_rfl) rfl xs w
theorem enter_82 (xs : Array Value) (w : World) : (callFunc 82 xs).run Try.prog w = .ok (.enter 82 xs) w := run_enterF Try.func82 (by kernel_rfl) rfl xs w
theorem enter_83 (xs : Array Value) (w : World) : (callFunc 83 xs).run Try.prog w = .ok (.enter 83 xs) w := run_enterF Try.func83 (by kernel_rfl) rfl xs w
theorem enter_84 (xs : Array Value) (w : World) : (callFunc 84 xs).run Try.prog w = .ok (.enter 84 xs) w := run_enterF Try.func84 (by kernel_rfl) rfl xs w
theorem enter_85 (xs : Array Value) (w : World) : (callFunc 85 xs).run Try.prog w = .ok (.enter 85 xs) w := run_enterF Try.func85 (by kernel_rfl) rfl xs w
theorem enter_86 (xs : Array Value) (w : World) : (callFunc 86 xs).run Try.prog w = .ok (.enter 86 xs) w := run_enterF Try.func86 (by kernel_rfl) rfl xs w
theorem enter_88 (xs : Array Value) (w : World) : (callFunc 88 xs).run Try.prog w = .ok (.enter 88 xs) w := run_enterF Try.func88 (by kernel_rfl) rfl xs w
theorem enter_89 (xs : Array Value) (w : World) : (callFunc 89 xs).run Try.prog w = .ok (.enter 89 xs) w := run_enterF Try.func89 (by kernel_rfl) rfl xs w
theorem enter_90 (xs : Array Value) (w : World) : (callFunc 90 xs).run Try.prog w = .ok (.enter 90 xs) w := run_enterF Try.func90 (by kernel_rfl) rfl xs w
theorem enter_91 (xs : Array Value) (w : World) : (callFunc 91 xs).run Try.prog w = .ok (.enter 91 xs) w := run_enterF Try.func91 (by kernel_rfl) rfl xs w
theorem enter_92 (xs : Array Value) (w : World) : (callFunc 92 xs).run Try.prog w = .ok (.enter 92 xs) w := run_enterF Try.func92 (by kernel_rfl) rfl xs w
theorem enter_93 (xs : Array Value) (w : World) : (callFunc 93 xs).run Try.prog w = .ok (.enter 93 xs) w := run_enterF Try.func93 (by kernel_rfl) rfl xs w
theorem enter_94 (xs : Array Value) (w : World) : (callFunc 94 xs).run Try.prog w = .ok (.enter 94 xs) w := run_enterF Try.func94 (by kernel_rfl) rfl xs w
theorem enter_95 (xs : Array Value) (w : World) : (callFunc 95 xs).run Try.prog w = .ok (.enter 95 xs) w := run_enterF Try.func95 (by kernel_rfl) rfl xs w
theorem enter_96 (xs : Array Value) (w : World) : (callFunc 96 xs).run Try.prog w = .ok (.enter 96 xs) w := run_enterF Try.func96 (by kernel_rfl) rfl xs w
theorem ov_97 (x y : Value) (w : World) (h : (Extern.SlicesOverlaps.overlaps #[26, 26] #[4] #[x, y]).run Try.prog w = .ok (.bool false) w) : (callFunc 97 #[x, y]).run Try.prog w = .ok (.value (.bool false)) w := by
  rw [run_callFunc_extern Try.func97 (by kernel_rfl) (by kernel_rfl) (by kernel_rfl) (e := Extern.SlicesOverlaps.overlaps #[26, 26] #[4]) (by kernel_rfl), h]; rfl
theorem enter_99 (xs : Array Value) (w : World) : (callFunc 99 xs).run Try.prog w = .ok (.enter 99 xs) w := run_enterF Try.func99 (by kernel_rfl) rfl xs w
theorem enter_100 (xs : Array Value) (w : World) : (callFunc 100 xs).run Try.prog w = .ok (.enter 100 xs) w := run_enterF Try.func100 (by kernel_rfl) rfl xs w
theorem enter_101 (xs : Array Value) (w : World) : (callFunc 101 xs).run Try.prog w = .ok (.enter 101 xs) w := run_enterF Try.func101 (by kernel_rfl) rfl xs w
theorem enter_102 (xs : Array Value) (w : World) : (callFunc 102 xs).run Try.prog w = .ok (.enter 102 xs) w := run_enterF Try.func102 (by kernel_rfl) rfl xs w
theorem enter_103 (xs : Array Value) (w : World) : (callFunc 103 xs).run Try.prog w = .ok (.enter 103 xs) w := run_enterF Try.func103 (by kernel_rfl) rfl xs w
theorem enter_104 (xs : Array Value) (w : World) : (callFunc 104 xs).run Try.prog w = .ok (.enter 104 xs) w := run_enterF Try.func104 (by kernel_rfl) rfl xs w
theorem enter_106 (xs : Array Value) (w : World) : (callFunc 106 xs).run Try.prog w = .ok (.enter 106 xs) w := run_enterF Try.func106 (by kernel_rfl) rfl xs w
theorem enter_107 (xs : Array Value) (w : World) : (callFunc 107 xs).run Try.prog w = .ok (.enter 107 xs) w := run_enterF Try.func107 (by kernel_rfl) rfl xs w
end Go.Proofs.Ytjpniibleelgiaa
