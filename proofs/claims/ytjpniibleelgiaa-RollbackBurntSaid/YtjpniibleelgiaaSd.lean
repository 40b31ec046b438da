/- Walks, printed by gen.py. -/
import Derived.Test.YtjpniibleelgiaaFwT
set_option linter.unusedSimpArgs false
set_option linter.unusedVariables false
namespace Go.Proofs.Ytjpniibleelgiaa
open Go.Fw Go.RowKit

@[ext] structure DeviceOp where
  device : Int
  no : Int
  kind : Int
  copy : Int
  to : Int
  token : Int
  deriving DecidableEq, Inhabited
def Enc.devop : Enc DeviceOp where
  size := 6
  rd := fun w O cs x => cs = [vI x.device, vI x.no, vI x.kind, vI x.copy, vI x.to, vI x.token]
  len := fun h => by subst h; rfl
  one := fun h u hu => by
    subst h; simp only [List.mem_cons, List.not_mem_nil, or_false] at hu
    rcases hu with rfl | rfl | rfl | rfl | rfl | rfl <;> first | rfl
  mv := fun h _ => h
  sub := fun h _ => h
theorem Enc_devop_f0 {w : World} {O : List Nat} {cs : List Value} {x : DeviceOp} (h0 : Enc.devop.rd w O cs x) : Enc.int.rd w O ((cs.drop 0).take Enc.int.size) x.device := by
  have h : _ = _ := h0; subst h; rfl
theorem Enc_devop_f1 {w : World} {O : List Nat} {cs : List Value} {x : DeviceOp} (h0 : Enc.devop.rd w O cs x) : Enc.int.rd w O ((cs.drop 1).take Enc.int.size) x.no := by
  have h : _ = _ := h0; subst h; rfl
theorem Enc_devop_f2 {w : World} {O : List Nat} {cs : List Value} {x : DeviceOp} (h0 : Enc.devop.rd w O cs x) : Enc.int.rd w O ((cs.drop 2).take Enc.int.size) x.kind := by
  have h : _ = _ := h0; subst h; rfl
theorem Enc_devop_f3 {w : World} {O : List Nat} {cs : List Value} {x : DeviceOp} (h0 : Enc.devop.rd w O cs x) : Enc.int.rd w O ((cs.drop 3).take Enc.int.size) x.copy := by
  have h : _ = _ := h0; subst h; rfl
theorem Enc_devop_f4 {w : World} {O : List Nat} {cs : List Value} {x : DeviceOp} (h0 : Enc.devop.rd w O cs x) : Enc.int.rd w O ((cs.drop 4).take Enc.int.size) x.to := by
  have h : _ = _ := h0; subst h; rfl
theorem Enc_devop_f5 {w : World} {O : List Nat} {cs : List Value} {x : DeviceOp} (h0 : Enc.devop.rd w O cs x) : Enc.int.rd w O ((cs.drop 5).take Enc.int.size) x.token := by
  have h : _ = _ := h0; subst h; rfl
@[ext] structure Holding where
  copy : Int
  device : Int
  token : Int
  shown : Bool
  deriving DecidableEq, Inhabited
def Enc.holding : Enc Holding where
  size := 4
  rd := fun w O cs x => cs = [vI x.copy, vI x.device, vI x.token, .bool x.shown]
  len := fun h => by subst h; rfl
  one := fun h u hu => by
    subst h; simp only [List.mem_cons, List.not_mem_nil, or_false] at hu
    rcases hu with rfl | rfl | rfl | rfl <;> first | rfl
  mv := fun h _ => h
  sub := fun h _ => h
theorem Enc_holding_f0 {w : World} {O : List Nat} {cs : List Value} {x : Holding} (h0 : Enc.holding.rd w O cs x) : Enc.int.rd w O ((cs.drop 0).take Enc.int.size) x.copy := by
  have h : _ = _ := h0; subst h; rfl
theorem Enc_holding_f1 {w : World} {O : List Nat} {cs : List Value} {x : Holding} (h0 : Enc.holding.rd w O cs x) : Enc.int.rd w O ((cs.drop 1).take Enc.int.size) x.device := by
  have h : _ = _ := h0; subst h; rfl
theorem Enc_holding_f2 {w : World} {O : List Nat} {cs : List Value} {x : Holding} (h0 : Enc.holding.rd w O cs x) : Enc.int.rd w O ((cs.drop 2).take Enc.int.size) x.token := by
  have h : _ = _ := h0; subst h; rfl
theorem Enc_holding_f3 {w : World} {O : List Nat} {cs : List Value} {x : Holding} (h0 : Enc.holding.rd w O cs x) : Enc.bool.rd w O ((cs.drop 3).take Enc.bool.size) x.shown := by
  have h : _ = _ := h0; subst h; rfl
@[ext] structure DevNo where
  device : Int
  no : Int
  deriving DecidableEq, Inhabited
def Enc.devno : Enc DevNo where
  size := 2
  rd := fun w O cs x => cs = [vI x.device, vI x.no]
  len := fun h => by subst h; rfl
  one := fun h u hu => by
    subst h; simp only [List.mem_cons, List.not_mem_nil, or_false] at hu
    rcases hu with rfl | rfl <;> first | rfl
  mv := fun h _ => h
  sub := fun h _ => h
theorem Enc_devno_f0 {w : World} {O : List Nat} {cs : List Value} {x : DevNo} (h0 : Enc.devno.rd w O cs x) : Enc.int.rd w O ((cs.drop 0).take Enc.int.size) x.device := by
  have h : _ = _ := h0; subst h; rfl
theorem Enc_devno_f1 {w : World} {O : List Nat} {cs : List Value} {x : DevNo} (h0 : Enc.devno.rd w O cs x) : Enc.int.rd w O ((cs.drop 1).take Enc.int.size) x.no := by
  have h : _ = _ := h0; subst h; rfl
@[ext] structure Device where
  id : Int
  counter : Int
  ops : (List DeviceOp)
  halted : Bool
  deriving DecidableEq, Inhabited
def Enc.device : Enc Device where
  size := 4
  rd := fun w O cs x => ∃ d2 : Value, cs = [vI x.id, vI x.counter, d2, .bool x.halted] ∧ RdL Enc.devop w O d2 x.ops
  len := fun ⟨d2, h, r2⟩ => by subst h; rfl
  one := fun ⟨d2, h, r2⟩ u hu => by
    subst h; simp only [List.mem_cons, List.not_mem_nil, or_false] at hu
    rcases hu with rfl | rfl | rfl | rfl <;> first | rfl | exact r2.oneCell
  mv := fun ⟨d2, h, r2⟩ m => ⟨d2, h, r2.mv m⟩
  sub := fun ⟨d2, h, r2⟩ hs => ⟨d2, h, r2.sub hs⟩
theorem Enc_device_f0 {w : World} {O : List Nat} {cs : List Value} {x : Device} (h0 : Enc.device.rd w O cs x) : Enc.int.rd w O ((cs.drop 0).take Enc.int.size) x.id := by
  obtain ⟨d2, h, r2⟩ := h0; subst h; exact rfl
theorem Enc_device_f1 {w : World} {O : List Nat} {cs : List Value} {x : Device} (h0 : Enc.device.rd w O cs x) : Enc.int.rd w O ((cs.drop 1).take Enc.int.size) x.counter := by
  obtain ⟨d2, h, r2⟩ := h0; subst h; exact rfl
theorem Enc_device_f2 {w : World} {O : List Nat} {cs : List Value} {x : Device} (h0 : Enc.device.rd w O cs x) : (Enc.slice Enc.devop).rd w O ((cs.drop 2).take (Enc.slice Enc.devop).size) x.ops := by
  obtain ⟨d2, h, r2⟩ := h0; subst h; exact ⟨d2, rfl, r2⟩
theorem Enc_device_f3 {w : World} {O : List Nat} {cs : List Value} {x : Device} (h0 : Enc.device.rd w O cs x) : Enc.bool.rd w O ((cs.drop 3).take Enc.bool.size) x.halted := by
  obtain ⟨d2, h, r2⟩ := h0; subst h; exact rfl
@[ext] structure Step where
  kind : UInt8
  copy : UInt8
  to : UInt8
  token : UInt8
  at_ : UInt8
  show_ : Bool
  deriving DecidableEq, Inhabited
def Enc.step : Enc Step where
  size := 6
  rd := fun w O cs x => cs = [vB x.kind, vB x.copy, vB x.to, vB x.token, vB x.at_, .bool x.show_]
  len := fun h => by subst h; rfl
  one := fun h u hu => by
    subst h; simp only [List.mem_cons, List.not_mem_nil, or_false] at hu
    rcases hu with rfl | rfl | rfl | rfl | rfl | rfl <;> first | rfl
  mv := fun h _ => h
  sub := fun h _ => h
theorem Enc_step_f0 {w : World} {O : List Nat} {cs : List Value} {x : Step} (h0 : Enc.step.rd w O cs x) : Enc.u8.rd w O ((cs.drop 0).take Enc.u8.size) x.kind := by
  have h : _ = _ := h0; subst h; rfl
theorem Enc_step_f1 {w : World} {O : List Nat} {cs : List Value} {x : Step} (h0 : Enc.step.rd w O cs x) : Enc.u8.rd w O ((cs.drop 1).take Enc.u8.size) x.copy := by
  have h : _ = _ := h0; subst h; rfl
theorem Enc_step_f2 {w : World} {O : List Nat} {cs : List Value} {x : Step} (h0 : Enc.step.rd w O cs x) : Enc.u8.rd w O ((cs.drop 2).take Enc.u8.size) x.to := by
  have h : _ = _ := h0; subst h; rfl
theorem Enc_step_f3 {w : World} {O : List Nat} {cs : List Value} {x : Step} (h0 : Enc.step.rd w O cs x) : Enc.u8.rd w O ((cs.drop 3).take Enc.u8.size) x.token := by
  have h : _ = _ := h0; subst h; rfl
theorem Enc_step_f4 {w : World} {O : List Nat} {cs : List Value} {x : Step} (h0 : Enc.step.rd w O cs x) : Enc.u8.rd w O ((cs.drop 4).take Enc.u8.size) x.at_ := by
  have h : _ = _ := h0; subst h; rfl
theorem Enc_step_f5 {w : World} {O : List Nat} {cs : List Value} {x : Step} (h0 : Enc.step.rd w O cs x) : Enc.bool.rd w O ((cs.drop 5).take Enc.bool.size) x.show_ := by
  have h : _ = _ := h0; subst h; rfl
@[ext] structure Doing where
  kind : UInt8
  device : UInt8
  other : UInt8
  copy : UInt8
  crash : UInt8
  at_ : UInt8
  deriving DecidableEq, Inhabited
def Enc.doing : Enc Doing where
  size := 6
  rd := fun w O cs x => cs = [vB x.kind, vB x.device, vB x.other, vB x.copy, vB x.crash, vB x.at_]
  len := fun h => by subst h; rfl
  one := fun h u hu => by
    subst h; simp only [List.mem_cons, List.not_mem_nil, or_false] at hu
    rcases hu with rfl | rfl | rfl | rfl | rfl | rfl <;> first | rfl
  mv := fun h _ => h
  sub := fun h _ => h
theorem Enc_doing_f0 {w : World} {O : List Nat} {cs : List Value} {x : Doing} (h0 : Enc.doing.rd w O cs x) : Enc.u8.rd w O ((cs.drop 0).take Enc.u8.size) x.kind := by
  have h : _ = _ := h0; subst h; rfl
theorem Enc_doing_f1 {w : World} {O : List Nat} {cs : List Value} {x : Doing} (h0 : Enc.doing.rd w O cs x) : Enc.u8.rd w O ((cs.drop 1).take Enc.u8.size) x.device := by
  have h : _ = _ := h0; subst h; rfl
theorem Enc_doing_f2 {w : World} {O : List Nat} {cs : List Value} {x : Doing} (h0 : Enc.doing.rd w O cs x) : Enc.u8.rd w O ((cs.drop 2).take Enc.u8.size) x.other := by
  have h : _ = _ := h0; subst h; rfl
theorem Enc_doing_f3 {w : World} {O : List Nat} {cs : List Value} {x : Doing} (h0 : Enc.doing.rd w O cs x) : Enc.u8.rd w O ((cs.drop 3).take Enc.u8.size) x.copy := by
  have h : _ = _ := h0; subst h; rfl
theorem Enc_doing_f4 {w : World} {O : List Nat} {cs : List Value} {x : Doing} (h0 : Enc.doing.rd w O cs x) : Enc.u8.rd w O ((cs.drop 4).take Enc.u8.size) x.crash := by
  have h : _ = _ := h0; subst h; rfl
theorem Enc_doing_f5 {w : World} {O : List Nat} {cs : List Value} {x : Doing} (h0 : Enc.doing.rd w O cs x) : Enc.u8.rd w O ((cs.drop 5).take Enc.u8.size) x.at_ := by
  have h : _ = _ := h0; subst h; rfl

end Go.Proofs.Ytjpniibleelgiaa
