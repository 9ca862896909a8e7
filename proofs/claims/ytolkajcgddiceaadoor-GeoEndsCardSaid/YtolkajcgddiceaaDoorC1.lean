/- The evaluator's context: types and bodies, and that they are the program's. Printed by wip/ev/gen/ctx.py. -/
import Derived.Test.YtolkajcgddiceaaDoorX0
import Derived.Test.YtolkajcgddiceaaDoorChecked
set_option linter.unusedSimpArgs false
set_option linter.unusedVariables false
namespace Go.Proofs.YtolkajcgddiceaaDoor.Ev
open Go Go.RowKit
set_option maxRecDepth 100000

def ty3 : Ty := ⟨(.int .i64), 1, 8, [(.int .i64 0)], true⟩
theorem tyOk3 : tyOf Tryd.prog 3 = some ty3 := by kernel_rfl
def ty4 : Ty := ⟨.bool, 1, 1, [(.bool false)], true⟩
theorem tyOk4 : tyOf Tryd.prog 4 = some ty4 := by kernel_rfl
def ty5 : Ty := ⟨(.int .u8), 1, 1, [(.int .u8 0)], true⟩
theorem tyOk5 : tyOf Tryd.prog 5 = some ty5 := by kernel_rfl
def ty23 : Ty := ⟨(.struct [(3, 0, true), (3, 1, true), (3, 2, true), (3, 3, true), (3, 4, true)]), 5, 40, [(.int .i64 0), (.int .i64 0), (.int .i64 0), (.int .i64 0), (.int .i64 0)], true⟩
theorem tyOk23 : tyOf Tryd.prog 23 = some ty23 := by kernel_rfl
def ty27 : Ty := ⟨(.array 6 3), 6, 48, [(.int .i64 0), (.int .i64 0), (.int .i64 0), (.int .i64 0), (.int .i64 0), (.int .i64 0)], true⟩
theorem tyOk27 : tyOf Tryd.prog 27 = some ty27 := by kernel_rfl
def ty28 : Ty := ⟨(.slice 5), 1, 24, [(.slice none 0 0)], true⟩
theorem tyOk28 : tyOf Tryd.prog 28 = some ty28 := by kernel_rfl
def ty32 : Ty := ⟨(.array 4 5), 4, 4, [(.int .u8 0), (.int .u8 0), (.int .u8 0), (.int .u8 0)], true⟩
theorem tyOk32 : tyOf Tryd.prog 32 = some ty32 := by kernel_rfl
def ty37 : Ty := ⟨(.slice 3), 1, 24, [(.slice none 0 0)], true⟩
theorem tyOk37 : tyOf Tryd.prog 37 = some ty37 := by kernel_rfl
def ty39 : Ty := ⟨(.slice 23), 1, 24, [(.slice none 0 0)], true⟩
theorem tyOk39 : tyOf Tryd.prog 39 = some ty39 := by kernel_rfl
def ty40 : Ty := ⟨(.array 5 3), 5, 40, [(.int .i64 0), (.int .i64 0), (.int .i64 0), (.int .i64 0), (.int .i64 0)], true⟩
theorem tyOk40 : tyOf Tryd.prog 40 = some ty40 := by kernel_rfl
def ty42 : Ty := ⟨(.struct [(23, 0, true)]), 5, 40, [(.int .i64 0), (.int .i64 0), (.int .i64 0), (.int .i64 0), (.int .i64 0)], true⟩
theorem tyOk42 : tyOf Tryd.prog 42 = some ty42 := by kernel_rfl
def tyList : List (Nat × Ty) := [(3, ty3), (4, ty4), (5, ty5), (23, ty23), (27, ty27), (28, ty28), (32, ty32), (37, ty37), (39, ty39), (40, ty40), (42, ty42)]
/- seisin/seisinlaw16.GeoOnce -/
def m3_l1 : M :=
    .seq (.seq (.reg [1, 3, 4, 5, 6] [⟨(some 44), .move (.tmp 6), none⟩,
      ⟨(some 45), .move (.tmp 5), none⟩,
      ⟨(some 46), .call ⟨.builtin .len, #[(.tmp 45)], #[28]⟩, none⟩,
      ⟨(some 47), .binOp .lss 3 (.tmp 44) (.tmp 46) 3, none⟩] 0)
    (.cond (.tmp 47) (.skip)
      (.exit 2)))
    (.seq (.block 3 (.seq (.seq (.reg [1, 3, 4, 5, 6] [⟨(some 50), .move (.tmp 5), none⟩,
       ⟨(some 51), .move (.tmp 6), none⟩,
       ⟨(some 52), .indexAddr 28 (.tmp 50) (.tmp 51), none⟩,
       ⟨(some 53), .load 5 (.tmp 52), none⟩,
       ⟨(some 54), .binOp .geq 5 (.tmp 53) (.const (.int .u8 6)) 5, none⟩,
       ⟨(some 55), .move (.tmp 54), none⟩,
       ⟨(some 56), .load 23 (.tmp 1), (some (55, false))⟩,
       ⟨(some 57), .move (.tmp 5), (some (55, false))⟩,
       ⟨(some 58), .move (.tmp 6), (some (55, false))⟩,
       ⟨(some 59), .indexAddr 28 (.tmp 57) (.tmp 58), (some (55, false))⟩,
       ⟨(some 60), .load 5 (.tmp 59), (some (55, false))⟩,
       ⟨(some 61), .call ⟨.value (.func 14), #[(.tmp 56), (.tmp 60)], #[23, 5]⟩, (some (55, false))⟩,
       ⟨(some 62), .move (.tmp 4), (some (55, false))⟩,
       ⟨(some 63), .convert 3 5 (.tmp 62), (some (55, false))⟩,
       ⟨(some 64), .binOp .neq 5 (.tmp 61) (.tmp 63) 5, (some (55, false))⟩,
       ⟨(some 65), .pick (.tmp 55) (.const (.bool true)) (.tmp 64), none⟩,
       ⟨(some 66), .move (.tmp 65), none⟩,
       ⟨(some 67), .load 23 (.tmp 1), (some (66, false))⟩,
       ⟨(some 68), .move (.tmp 5), (some (66, false))⟩,
       ⟨(some 69), .move (.tmp 6), (some (66, false))⟩,
       ⟨(some 70), .indexAddr 28 (.tmp 68) (.tmp 69), (some (66, false))⟩,
       ⟨(some 71), .load 5 (.tmp 70), (some (66, false))⟩,
       ⟨(some 72), .call ⟨.value (.func 15), #[(.tmp 67), (.tmp 71)], #[23, 5]⟩, (some (66, false))⟩,
       ⟨(some 73), .convert 5 3 (.tmp 72), (some (66, false))⟩,
       ⟨(some 74), .fieldAddr 23 (.tmp 1) 2, (some (66, false))⟩,
       ⟨(some 75), .load 3 (.tmp 74), (some (66, false))⟩,
       ⟨(some 76), .binOp .geq 3 (.tmp 73) (.tmp 75) 3, (some (66, false))⟩,
       ⟨(some 77), .pick (.tmp 66) (.const (.bool true)) (.tmp 76), none⟩,
       ⟨(some 78), .move (.tmp 77), none⟩,
       ⟨(some 79), .move (.tmp 6), (some (78, false))⟩,
       ⟨(some 80), .binOp .gtr 3 (.tmp 79) (.const (.int .i64 0)) 3, (some (78, false))⟩,
       ⟨(some 81), .move (.tmp 80), (some (78, false))⟩,
       ⟨(some 82), .move (.tmp 5), (some (81, true))⟩,
       ⟨(some 83), .move (.tmp 6), (some (81, true))⟩,
       ⟨(some 84), .indexAddr 28 (.tmp 82) (.tmp 83), (some (81, true))⟩,
       ⟨(some 85), .load 5 (.tmp 84), (some (81, true))⟩,
       ⟨(some 86), .move (.tmp 5), (some (81, true))⟩,
       ⟨(some 87), .move (.tmp 6), (some (81, true))⟩,
       ⟨(some 88), .binOp .sub 3 (.tmp 87) (.const (.int .i64 1)) 3, (some (81, true))⟩,
       ⟨(some 89), .indexAddr 28 (.tmp 86) (.tmp 88), (some (81, true))⟩,
       ⟨(some 90), .load 5 (.tmp 89), (some (81, true))⟩,
       ⟨(some 91), .binOp .leq 5 (.tmp 85) (.tmp 90) 5, (some (81, true))⟩,
       ⟨(some 92), .move (.tmp 91), (some (81, true))⟩,
       ⟨(some 93), .load 23 (.tmp 1), (some (92, false))⟩,
       ⟨(some 94), .move (.tmp 5), (some (92, false))⟩,
       ⟨(some 95), .move (.tmp 6), (some (92, false))⟩,
       ⟨(some 96), .indexAddr 28 (.tmp 94) (.tmp 95), (some (92, false))⟩,
       ⟨(some 97), .load 5 (.tmp 96), (some (92, false))⟩,
       ⟨(some 98), .call ⟨.value (.func 15), #[(.tmp 93), (.tmp 97)], #[23, 5]⟩, (some (92, false))⟩,
       ⟨(some 99), .load 23 (.tmp 1), (some (92, false))⟩,
       ⟨(some 100), .move (.tmp 5), (some (92, false))⟩,
       ⟨(some 101), .move (.tmp 6), (some (92, false))⟩,
       ⟨(some 102), .binOp .sub 3 (.tmp 101) (.const (.int .i64 1)) 3, (some (92, false))⟩,
       ⟨(some 103), .indexAddr 28 (.tmp 100) (.tmp 102), (some (92, false))⟩,
       ⟨(some 104), .load 5 (.tmp 103), (some (92, false))⟩,
       ⟨(some 105), .call ⟨.value (.func 15), #[(.tmp 99), (.tmp 104)], #[23, 5]⟩, (some (92, false))⟩,
       ⟨(some 106), .binOp .eql 5 (.tmp 98) (.tmp 105) 5, (some (92, false))⟩,
       ⟨(some 107), .pick (.tmp 92) (.const (.bool true)) (.tmp 106), (some (81, true))⟩,
       ⟨(some 108), .pick (.tmp 81) (.tmp 107) (.const (.bool false)), (some (78, false))⟩,
       ⟨(some 109), .pick (.tmp 78) (.const (.bool true)) (.tmp 108), none⟩] 55)
     (.cond (.tmp 109) (.seq (.reg [] [⟨(some 2), .assign (.const (.bool false)), none⟩] 0)
       (.ret))
       (.skip)))
     (.reg [1, 3, 4, 5, 6] [⟨(some 110), .move (.tmp 5), none⟩,
       ⟨(some 111), .move (.tmp 6), none⟩,
       ⟨(some 112), .indexAddr 28 (.tmp 110) (.tmp 111), none⟩,
       ⟨(some 113), .load 5 (.tmp 112), none⟩,
       ⟨(some 114), .indexAddr 27 (.tmp 3) (.tmp 113), none⟩,
       ⟨(some 115), .load 3 (.tmp 114), none⟩,
       ⟨(some 116), .binOp .add 3 (.tmp 115) (.const (.int .i64 1)) 3, none⟩,
       ⟨(some 117), .indexAddr 27 (.tmp 3) (.tmp 113), none⟩,
       ⟨none, .store 3 (.tmp 117) (.tmp 116), none⟩] 0)))
    (.reg [1, 3, 4, 5, 6] [⟨(some 48), .move (.tmp 6), none⟩,
      ⟨(some 49), .binOp .add 3 (.tmp 48) (.const (.int .i64 1)) 3, none⟩,
      ⟨(some 6), .assign (.tmp 49), none⟩] 0))
theorem u3_l1 {C : Ctx} {k : List It} {st : St} {Q : Ex → St → Prop} : RunK C (.code m3_l1 :: k) st Q ↔ RunK C (.code (.seq (.seq (.reg [1, 3, 4, 5, 6] [⟨(some 44), .move (.tmp 6), none⟩,
      ⟨(some 45), .move (.tmp 5), none⟩,
      ⟨(some 46), .call ⟨.builtin .len, #[(.tmp 45)], #[28]⟩, none⟩,
      ⟨(some 47), .binOp .lss 3 (.tmp 44) (.tmp 46) 3, none⟩] 0)
    (.cond (.tmp 47) (.skip)
      (.exit 2)))
    (.seq (.block 3 (.seq (.seq (.reg [1, 3, 4, 5, 6] [⟨(some 50), .move (.tmp 5), none⟩,
       ⟨(some 51), .move (.tmp 6), none⟩,
       ⟨(some 52), .indexAddr 28 (.tmp 50) (.tmp 51), none⟩,
       ⟨(some 53), .load 5 (.tmp 52), none⟩,
       ⟨(some 54), .binOp .geq 5 (.tmp 53) (.const (.int .u8 6)) 5, none⟩,
       ⟨(some 55), .move (.tmp 54), none⟩,
       ⟨(some 56), .load 23 (.tmp 1), (some (55, false))⟩,
       ⟨(some 57), .move (.tmp 5), (some (55, false))⟩,
       ⟨(some 58), .move (.tmp 6), (some (55, false))⟩,
       ⟨(some 59), .indexAddr 28 (.tmp 57) (.tmp 58), (some (55, false))⟩,
       ⟨(some 60), .load 5 (.tmp 59), (some (55, false))⟩,
       ⟨(some 61), .call ⟨.value (.func 14), #[(.tmp 56), (.tmp 60)], #[23, 5]⟩, (some (55, false))⟩,
       ⟨(some 62), .move (.tmp 4), (some (55, false))⟩,
       ⟨(some 63), .convert 3 5 (.tmp 62), (some (55, false))⟩,
       ⟨(some 64), .binOp .neq 5 (.tmp 61) (.tmp 63) 5, (some (55, false))⟩,
       ⟨(some 65), .pick (.tmp 55) (.const (.bool true)) (.tmp 64), none⟩,
       ⟨(some 66), .move (.tmp 65), none⟩,
       ⟨(some 67), .load 23 (.tmp 1), (some (66, false))⟩,
       ⟨(some 68), .move (.tmp 5), (some (66, false))⟩,
       ⟨(some 69), .move (.tmp 6), (some (66, false))⟩,
       ⟨(some 70), .indexAddr 28 (.tmp 68) (.tmp 69), (some (66, false))⟩,
       ⟨(some 71), .load 5 (.tmp 70), (some (66, false))⟩,
       ⟨(some 72), .call ⟨.value (.func 15), #[(.tmp 67), (.tmp 71)], #[23, 5]⟩, (some (66, false))⟩,
       ⟨(some 73), .convert 5 3 (.tmp 72), (some (66, false))⟩,
       ⟨(some 74), .fieldAddr 23 (.tmp 1) 2, (some (66, false))⟩,
       ⟨(some 75), .load 3 (.tmp 74), (some (66, false))⟩,
       ⟨(some 76), .binOp .geq 3 (.tmp 73) (.tmp 75) 3, (some (66, false))⟩,
       ⟨(some 77), .pick (.tmp 66) (.const (.bool true)) (.tmp 76), none⟩,
       ⟨(some 78), .move (.tmp 77), none⟩,
       ⟨(some 79), .move (.tmp 6), (some (78, false))⟩,
       ⟨(some 80), .binOp .gtr 3 (.tmp 79) (.const (.int .i64 0)) 3, (some (78, false))⟩,
       ⟨(some 81), .move (.tmp 80), (some (78, false))⟩,
       ⟨(some 82), .move (.tmp 5), (some (81, true))⟩,
       ⟨(some 83), .move (.tmp 6), (some (81, true))⟩,
       ⟨(some 84), .indexAddr 28 (.tmp 82) (.tmp 83), (some (81, true))⟩,
       ⟨(some 85), .load 5 (.tmp 84), (some (81, true))⟩,
       ⟨(some 86), .move (.tmp 5), (some (81, true))⟩,
       ⟨(some 87), .move (.tmp 6), (some (81, true))⟩,
       ⟨(some 88), .binOp .sub 3 (.tmp 87) (.const (.int .i64 1)) 3, (some (81, true))⟩,
       ⟨(some 89), .indexAddr 28 (.tmp 86) (.tmp 88), (some (81, true))⟩,
       ⟨(some 90), .load 5 (.tmp 89), (some (81, true))⟩,
       ⟨(some 91), .binOp .leq 5 (.tmp 85) (.tmp 90) 5, (some (81, true))⟩,
       ⟨(some 92), .move (.tmp 91), (some (81, true))⟩,
       ⟨(some 93), .load 23 (.tmp 1), (some (92, false))⟩,
       ⟨(some 94), .move (.tmp 5), (some (92, false))⟩,
       ⟨(some 95), .move (.tmp 6), (some (92, false))⟩,
       ⟨(some 96), .indexAddr 28 (.tmp 94) (.tmp 95), (some (92, false))⟩,
       ⟨(some 97), .load 5 (.tmp 96), (some (92, false))⟩,
       ⟨(some 98), .call ⟨.value (.func 15), #[(.tmp 93), (.tmp 97)], #[23, 5]⟩, (some (92, false))⟩,
       ⟨(some 99), .load 23 (.tmp 1), (some (92, false))⟩,
       ⟨(some 100), .move (.tmp 5), (some (92, false))⟩,
       ⟨(some 101), .move (.tmp 6), (some (92, false))⟩,
       ⟨(some 102), .binOp .sub 3 (.tmp 101) (.const (.int .i64 1)) 3, (some (92, false))⟩,
       ⟨(some 103), .indexAddr 28 (.tmp 100) (.tmp 102), (some (92, false))⟩,
       ⟨(some 104), .load 5 (.tmp 103), (some (92, false))⟩,
       ⟨(some 105), .call ⟨.value (.func 15), #[(.tmp 99), (.tmp 104)], #[23, 5]⟩, (some (92, false))⟩,
       ⟨(some 106), .binOp .eql 5 (.tmp 98) (.tmp 105) 5, (some (92, false))⟩,
       ⟨(some 107), .pick (.tmp 92) (.const (.bool true)) (.tmp 106), (some (81, true))⟩,
       ⟨(some 108), .pick (.tmp 81) (.tmp 107) (.const (.bool false)), (some (78, false))⟩,
       ⟨(some 109), .pick (.tmp 78) (.const (.bool true)) (.tmp 108), none⟩] 55)
     (.cond (.tmp 109) (.seq (.reg [] [⟨(some 2), .assign (.const (.bool false)), none⟩] 0)
       (.ret))
       (.skip)))
     (.reg [1, 3, 4, 5, 6] [⟨(some 110), .move (.tmp 5), none⟩,
       ⟨(some 111), .move (.tmp 6), none⟩,
       ⟨(some 112), .indexAddr 28 (.tmp 110) (.tmp 111), none⟩,
       ⟨(some 113), .load 5 (.tmp 112), none⟩,
       ⟨(some 114), .indexAddr 27 (.tmp 3) (.tmp 113), none⟩,
       ⟨(some 115), .load 3 (.tmp 114), none⟩,
       ⟨(some 116), .binOp .add 3 (.tmp 115) (.const (.int .i64 1)) 3, none⟩,
       ⟨(some 117), .indexAddr 27 (.tmp 3) (.tmp 113), none⟩,
       ⟨none, .store 3 (.tmp 117) (.tmp 116), none⟩] 0)))
    (.reg [1, 3, 4, 5, 6] [⟨(some 48), .move (.tmp 6), none⟩,
      ⟨(some 49), .binOp .add 3 (.tmp 48) (.const (.int .i64 1)) 3, none⟩,
      ⟨(some 6), .assign (.tmp 49), none⟩] 0))) :: k) st Q := Iff.rfl
def m3_l0 : M :=
    .seq (.seq (.reg [1, 3, 4] [⟨(some 21), .move (.tmp 4), none⟩,
      ⟨(some 22), .binOp .lss 3 (.tmp 21) (.const (.int .i64 256)) 3, none⟩] 0)
    (.cond (.tmp 22) (.skip)
      (.exit 0)))
    (.seq (.block 1 (.seq (.reg [1, 3, 4] [⟨(some 25), .load 23 (.tmp 1), none⟩,
       ⟨(some 26), .move (.tmp 4), none⟩,
       ⟨(some 27), .convert 3 5 (.tmp 26), none⟩,
       ⟨(some 28), .call ⟨.value (.func 13), #[(.tmp 25), (.tmp 27)], #[23, 5]⟩, none⟩,
       ⟨(some 5), .assign (.tmp 28), none⟩] 0)
     (.seq (.seq (.reg [1, 3, 4, 5] [⟨(some 29), .move (.tmp 5), none⟩,
       ⟨(some 30), .call ⟨.builtin .len, #[(.tmp 29)], #[28]⟩, none⟩,
       ⟨(some 31), .binOp .gtr 3 (.tmp 30) (.const (.int .i64 0)) 3, none⟩,
       ⟨(some 32), .move (.tmp 4), none⟩,
       ⟨(some 33), .load 23 (.tmp 1), none⟩,
       ⟨(some 34), .call ⟨.value (.func 11), #[(.tmp 33)], #[23]⟩, none⟩,
       ⟨(some 35), .binOp .lss 3 (.tmp 32) (.tmp 34) 3, none⟩,
       ⟨(some 36), .binOp .neq 4 (.tmp 31) (.tmp 35) 4, none⟩,
       ⟨(some 37), .move (.tmp 36), none⟩,
       ⟨(some 38), .move (.tmp 5), (some (37, false))⟩,
       ⟨(some 39), .call ⟨.builtin .len, #[(.tmp 38)], #[28]⟩, (some (37, false))⟩,
       ⟨(some 40), .fieldAddr 23 (.tmp 1) 2, (some (37, false))⟩,
       ⟨(some 41), .load 3 (.tmp 40), (some (37, false))⟩,
       ⟨(some 42), .binOp .gtr 3 (.tmp 39) (.tmp 41) 3, (some (37, false))⟩,
       ⟨(some 43), .pick (.tmp 37) (.const (.bool true)) (.tmp 42), none⟩] 0)
     (.cond (.tmp 43) (.seq (.reg [] [⟨(some 2), .assign (.const (.bool false)), none⟩] 0)
       (.ret))
       (.skip)))
     (.seq (.reg [1, 3, 4, 5] [⟨(some 6), .assign (.const (.int .i64 0)), none⟩] 0)
     (.block 2 (.loop (m3_l1)))))))
    (.reg [1, 3, 4] [⟨(some 23), .move (.tmp 4), none⟩,
      ⟨(some 24), .binOp .add 3 (.tmp 23) (.const (.int .i64 1)) 3, none⟩,
      ⟨(some 4), .assign (.tmp 24), none⟩] 0))
theorem u3_l0 {C : Ctx} {k : List It} {st : St} {Q : Ex → St → Prop} : RunK C (.code m3_l0 :: k) st Q ↔ RunK C (.code (.seq (.seq (.reg [1, 3, 4] [⟨(some 21), .move (.tmp 4), none⟩,
      ⟨(some 22), .binOp .lss 3 (.tmp 21) (.const (.int .i64 256)) 3, none⟩] 0)
    (.cond (.tmp 22) (.skip)
      (.exit 0)))
    (.seq (.block 1 (.seq (.reg [1, 3, 4] [⟨(some 25), .load 23 (.tmp 1), none⟩,
       ⟨(some 26), .move (.tmp 4), none⟩,
       ⟨(some 27), .convert 3 5 (.tmp 26), none⟩,
       ⟨(some 28), .call ⟨.value (.func 13), #[(.tmp 25), (.tmp 27)], #[23, 5]⟩, none⟩,
       ⟨(some 5), .assign (.tmp 28), none⟩] 0)
     (.seq (.seq (.reg [1, 3, 4, 5] [⟨(some 29), .move (.tmp 5), none⟩,
       ⟨(some 30), .call ⟨.builtin .len, #[(.tmp 29)], #[28]⟩, none⟩,
       ⟨(some 31), .binOp .gtr 3 (.tmp 30) (.const (.int .i64 0)) 3, none⟩,
       ⟨(some 32), .move (.tmp 4), none⟩,
       ⟨(some 33), .load 23 (.tmp 1), none⟩,
       ⟨(some 34), .call ⟨.value (.func 11), #[(.tmp 33)], #[23]⟩, none⟩,
       ⟨(some 35), .binOp .lss 3 (.tmp 32) (.tmp 34) 3, none⟩,
       ⟨(some 36), .binOp .neq 4 (.tmp 31) (.tmp 35) 4, none⟩,
       ⟨(some 37), .move (.tmp 36), none⟩,
       ⟨(some 38), .move (.tmp 5), (some (37, false))⟩,
       ⟨(some 39), .call ⟨.builtin .len, #[(.tmp 38)], #[28]⟩, (some (37, false))⟩,
       ⟨(some 40), .fieldAddr 23 (.tmp 1) 2, (some (37, false))⟩,
       ⟨(some 41), .load 3 (.tmp 40), (some (37, false))⟩,
       ⟨(some 42), .binOp .gtr 3 (.tmp 39) (.tmp 41) 3, (some (37, false))⟩,
       ⟨(some 43), .pick (.tmp 37) (.const (.bool true)) (.tmp 42), none⟩] 0)
     (.cond (.tmp 43) (.seq (.reg [] [⟨(some 2), .assign (.const (.bool false)), none⟩] 0)
       (.ret))
       (.skip)))
     (.seq (.reg [1, 3, 4, 5] [⟨(some 6), .assign (.const (.int .i64 0)), none⟩] 0)
     (.block 2 (.loop (m3_l1)))))))
    (.reg [1, 3, 4] [⟨(some 23), .move (.tmp 4), none⟩,
      ⟨(some 24), .binOp .add 3 (.tmp 23) (.const (.int .i64 1)) 3, none⟩,
      ⟨(some 4), .assign (.tmp 24), none⟩] 0))) :: k) st Q := Iff.rfl
def m3_l2 : M :=
    .seq (.seq (.reg [3, 7] [⟨(some 118), .move (.tmp 7), none⟩,
      ⟨(some 119), .binOp .lss 3 (.tmp 118) (.const (.int .i64 6)) 3, none⟩] 0)
    (.cond (.tmp 119) (.skip)
      (.exit 4)))
    (.seq (.block 5 (.seq (.reg [3, 7] [⟨(some 122), .move (.tmp 7), none⟩,
       ⟨(some 123), .indexAddr 27 (.tmp 3) (.tmp 122), none⟩,
       ⟨(some 124), .load 3 (.tmp 123), none⟩,
       ⟨(some 125), .binOp .neq 3 (.tmp 124) (.const (.int .i64 1)) 3, none⟩] 0)
     (.cond (.tmp 125) (.seq (.reg [] [⟨(some 2), .assign (.const (.bool false)), none⟩] 0)
       (.ret))
       (.skip))))
    (.reg [3, 7] [⟨(some 120), .move (.tmp 7), none⟩,
      ⟨(some 121), .binOp .add 3 (.tmp 120) (.const (.int .i64 1)) 3, none⟩,
      ⟨(some 7), .assign (.tmp 121), none⟩] 0))
theorem u3_l2 {C : Ctx} {k : List It} {st : St} {Q : Ex → St → Prop} : RunK C (.code m3_l2 :: k) st Q ↔ RunK C (.code (.seq (.seq (.reg [3, 7] [⟨(some 118), .move (.tmp 7), none⟩,
      ⟨(some 119), .binOp .lss 3 (.tmp 118) (.const (.int .i64 6)) 3, none⟩] 0)
    (.cond (.tmp 119) (.skip)
      (.exit 4)))
    (.seq (.block 5 (.seq (.reg [3, 7] [⟨(some 122), .move (.tmp 7), none⟩,
       ⟨(some 123), .indexAddr 27 (.tmp 3) (.tmp 122), none⟩,
       ⟨(some 124), .load 3 (.tmp 123), none⟩,
       ⟨(some 125), .binOp .neq 3 (.tmp 124) (.const (.int .i64 1)) 3, none⟩] 0)
     (.cond (.tmp 125) (.seq (.reg [] [⟨(some 2), .assign (.const (.bool false)), none⟩] 0)
       (.ret))
       (.skip))))
    (.reg [3, 7] [⟨(some 120), .move (.tmp 7), none⟩,
      ⟨(some 121), .binOp .add 3 (.tmp 120) (.const (.int .i64 1)) 3, none⟩,
      ⟨(some 7), .assign (.tmp 121), none⟩] 0))) :: k) st Q := Iff.rfl
def m3 : M :=
  .seq (.reg [0] [⟨(some 1), .box 23 (.tmp 0), none⟩,
      ⟨(some 2), .assign (.const (.bool false)), none⟩] 0)
    (.seq (.seq (.reg [1] [⟨(some 8), .call ⟨.value (.func 9), #[], #[]⟩, none⟩,
      ⟨(some 9), .unOp .not 4 (.tmp 8), none⟩] 0)
    (.cond (.tmp 9) (.seq (.reg [] [⟨(some 2), .assign (.const (.bool false)), none⟩] 0)
      (.ret))
      (.skip)))
    (.seq (.seq (.reg [1] [⟨(some 10), .load 23 (.tmp 1), none⟩,
      ⟨(some 11), .call ⟨.value (.func 10), #[(.tmp 10)], #[23]⟩, none⟩,
      ⟨(some 12), .unOp .not 4 (.tmp 11), none⟩] 0)
    (.cond (.tmp 12) (.seq (.reg [1] [⟨(some 13), .load 23 (.tmp 1), none⟩,
        ⟨(some 14), .call ⟨.value (.func 11), #[(.tmp 13)], #[23]⟩, none⟩,
        ⟨(some 15), .binOp .eql 3 (.tmp 14) (.const (.int .i64 0)) 3, none⟩,
        ⟨(some 16), .move (.tmp 15), none⟩,
        ⟨(some 17), .load 23 (.tmp 1), (some (16, true))⟩,
        ⟨(some 18), .call ⟨.value (.func 12), #[(.tmp 17)], #[23]⟩, (some (16, true))⟩,
        ⟨(some 19), .binOp .eql 3 (.tmp 18) (.const (.int .i64 0)) 3, (some (16, true))⟩,
        ⟨(some 20), .pick (.tmp 16) (.tmp 19) (.const (.bool false)), none⟩,
        ⟨(some 2), .assign (.tmp 20), none⟩] 0)
      (.ret))
      (.skip)))
    (.seq (.reg [1] [⟨(some 3), .alloc 27, none⟩] 0)
    (.seq (.seq (.reg [1, 3] [⟨(some 4), .assign (.const (.int .i64 0)), none⟩] 0)
    (.block 0 (.loop (m3_l0))))
    (.seq (.seq (.reg [3] [⟨(some 7), .assign (.const (.int .i64 0)), none⟩] 0)
    (.block 4 (.loop (m3_l2))))
    (.seq (.reg [] [⟨(some 2), .assign (.const (.bool true)), none⟩] 0)
    (.ret)))))))
def fn3 : MFn := ⟨126, [.tmp 2], m3, .shut⟩
theorem fnOk3 : FnOk Tryd.prog 3 fn3 := ⟨Tryd.f3, _, fun i => ([[0], [1], [], [1], [1], [1], [1, 3], [1, 3, 4], [1, 3, 4], [1, 3, 4], [1, 3, 4, 5], [], [1, 3, 4, 5], [1, 3, 4, 5, 6], [1, 3, 4, 5, 6], [1, 3, 4, 5, 6], [], [1, 3, 4, 5, 6], [3], [3, 7], [3, 7], [3, 7], [], []] : List (List Nat)).getD i [], Tryd.func3, rfl, by kernel_rfl, by kernel_rfl, by kernel_rfl, by kernel_rfl⟩
/- seisin/seisinlaw16.GeoEnds -/
def m8_l1 : M :=
    .seq (.seq (.reg [1, 2, 3, 4] [⟨(some 34), .move (.tmp 4), none⟩,
      ⟨(some 35), .binOp .lss 3 (.tmp 34) (.const (.int .i64 22)) 3, none⟩] 0)
    (.cond (.tmp 35) (.skip)
      (.exit 2)))
    (.seq (.block 3 (.seq (.reg [1, 2, 3, 4] [⟨(some 38), .move (.tmp 4), none⟩,
       ⟨(some 39), .convert 3 5 (.tmp 38), none⟩,
       ⟨(some 5), .assign (.tmp 39), none⟩] 0)
     (.seq (.seq (.reg [1, 2, 3, 4, 5] [⟨(some 40), .move (.tmp 4), none⟩,
       ⟨(some 41), .binOp .eql 3 (.tmp 40) (.const (.int .i64 21)) 3, none⟩] 0)
     (.cond (.tmp 41) (.reg [1, 2, 3, 4] [⟨(some 5), .assign (.const (.int .u8 255)), none⟩] 0)
       (.skip)))
     (.seq (.reg [1, 2, 3, 4, 5] [⟨(some 42), .load 23 (.tmp 3), none⟩,
       ⟨(some 43), .move (.tmp 5), none⟩,
       ⟨(some 44), .call ⟨.value (.func 20), #[(.tmp 42), (.tmp 43)], #[23, 5]⟩, none⟩,
       ⟨(some 45), .unOp .not 4 (.tmp 44), none⟩,
       ⟨(some 46), .move (.tmp 45), none⟩,
       ⟨(some 47), .load 23 (.tmp 3), (some (46, false))⟩,
       ⟨(some 48), .load 32 (.tmp 1), (some (46, false))⟩,
       ⟨(some 49), .move (.tmp 5), (some (46, false))⟩,
       ⟨(some 50), .call ⟨.value (.func 4), #[(.tmp 47), (.tmp 48), (.tmp 49), (.const (.int .u8 5))], #[23, 32, 5, 5]⟩, (some (46, false))⟩,
       ⟨(some 51), .unOp .not 4 (.tmp 50), (some (46, false))⟩,
       ⟨(some 52), .pick (.tmp 46) (.const (.bool true)) (.tmp 51), none⟩] 0)
     (.cond (.tmp 52) (.seq (.reg [] [⟨(some 0), .assign (.const (.bool false)), none⟩] 0)
       (.ret))
       (.skip))))))
    (.reg [1, 2, 3, 4] [⟨(some 36), .move (.tmp 4), none⟩,
      ⟨(some 37), .binOp .add 3 (.tmp 36) (.const (.int .i64 1)) 3, none⟩,
      ⟨(some 4), .assign (.tmp 37), none⟩] 0))
theorem u8_l1 {C : Ctx} {k : List It} {st : St} {Q : Ex → St → Prop} : RunK C (.code m8_l1 :: k) st Q ↔ RunK C (.code (.seq (.seq (.reg [1, 2, 3, 4] [⟨(some 34), .move (.tmp 4), none⟩,
      ⟨(some 35), .binOp .lss 3 (.tmp 34) (.const (.int .i64 22)) 3, none⟩] 0)
    (.cond (.tmp 35) (.skip)
      (.exit 2)))
    (.seq (.block 3 (.seq (.reg [1, 2, 3, 4] [⟨(some 38), .move (.tmp 4), none⟩,
       ⟨(some 39), .convert 3 5 (.tmp 38), none⟩,
       ⟨(some 5), .assign (.tmp 39), none⟩] 0)
     (.seq (.seq (.reg [1, 2, 3, 4, 5] [⟨(some 40), .move (.tmp 4), none⟩,
       ⟨(some 41), .binOp .eql 3 (.tmp 40) (.const (.int .i64 21)) 3, none⟩] 0)
     (.cond (.tmp 41) (.reg [1, 2, 3, 4] [⟨(some 5), .assign (.const (.int .u8 255)), none⟩] 0)
       (.skip)))
     (.seq (.reg [1, 2, 3, 4, 5] [⟨(some 42), .load 23 (.tmp 3), none⟩,
       ⟨(some 43), .move (.tmp 5), none⟩,
       ⟨(some 44), .call ⟨.value (.func 20), #[(.tmp 42), (.tmp 43)], #[23, 5]⟩, none⟩,
       ⟨(some 45), .unOp .not 4 (.tmp 44), none⟩,
       ⟨(some 46), .move (.tmp 45), none⟩,
       ⟨(some 47), .load 23 (.tmp 3), (some (46, false))⟩,
       ⟨(some 48), .load 32 (.tmp 1), (some (46, false))⟩,
       ⟨(some 49), .move (.tmp 5), (some (46, false))⟩,
       ⟨(some 50), .call ⟨.value (.func 4), #[(.tmp 47), (.tmp 48), (.tmp 49), (.const (.int .u8 5))], #[23, 32, 5, 5]⟩, (some (46, false))⟩,
       ⟨(some 51), .unOp .not 4 (.tmp 50), (some (46, false))⟩,
       ⟨(some 52), .pick (.tmp 46) (.const (.bool true)) (.tmp 51), none⟩] 0)
     (.cond (.tmp 52) (.seq (.reg [] [⟨(some 0), .assign (.const (.bool false)), none⟩] 0)
       (.ret))
       (.skip))))))
    (.reg [1, 2, 3, 4] [⟨(some 36), .move (.tmp 4), none⟩,
      ⟨(some 37), .binOp .add 3 (.tmp 36) (.const (.int .i64 1)) 3, none⟩,
      ⟨(some 4), .assign (.tmp 37), none⟩] 0))) :: k) st Q := Iff.rfl
def m8_l0 : M :=
    .seq (.seq (.reg [1, 2] [⟨(some 11), .move (.tmp 2), none⟩,
      ⟨(some 12), .binOp .lss 3 (.tmp 11) (.const (.int .i64 512)) 3, none⟩] 0)
    (.cond (.tmp 12) (.skip)
      (.exit 0)))
    (.seq (.block 1 (.seq (.reg [1, 2] [⟨(some 15), .move (.tmp 2), none⟩,
       ⟨(some 16), .binOp .rem 3 (.tmp 15) (.const (.int .i64 4)) 3, none⟩,
       ⟨(some 17), .binOp .add 3 (.const (.int .i64 1)) (.tmp 16) 3, none⟩,
       ⟨(some 18), .move (.tmp 2), none⟩,
       ⟨(some 19), .binOp .quo 3 (.tmp 18) (.const (.int .i64 4)) 3, none⟩,
       ⟨(some 20), .binOp .rem 3 (.tmp 19) (.const (.int .i64 2)) 3, none⟩,
       ⟨(some 21), .binOp .add 3 (.const (.int .i64 1)) (.tmp 20) 3, none⟩,
       ⟨(some 22), .move (.tmp 2), none⟩,
       ⟨(some 23), .binOp .quo 3 (.tmp 22) (.const (.int .i64 8)) 3, none⟩,
       ⟨(some 24), .binOp .rem 3 (.tmp 23) (.const (.int .i64 4)) 3, none⟩,
       ⟨(some 25), .binOp .add 3 (.const (.int .i64 1)) (.tmp 24) 3, none⟩,
       ⟨(some 26), .move (.tmp 2), none⟩,
       ⟨(some 27), .binOp .quo 3 (.tmp 26) (.const (.int .i64 32)) 3, none⟩,
       ⟨(some 28), .binOp .rem 3 (.tmp 27) (.const (.int .i64 4)) 3, none⟩,
       ⟨(some 29), .binOp .add 3 (.const (.int .i64 1)) (.tmp 28) 3, none⟩,
       ⟨(some 30), .move (.tmp 2), none⟩,
       ⟨(some 31), .binOp .quo 3 (.tmp 30) (.const (.int .i64 128)) 3, none⟩,
       ⟨(some 32), .binOp .add 3 (.const (.int .i64 1)) (.tmp 31) 3, none⟩,
       ⟨(some 33), .build 23 #[(0, (.tmp 17)), (1, (.tmp 21)), (2, (.tmp 25)), (3, (.tmp 29)), (4, (.tmp 32))], none⟩,
       ⟨(some 3), .alloc 23, none⟩,
       ⟨none, .store 23 (.tmp 3) (.tmp 33), none⟩] 0)
     (.seq (.reg [1, 2, 3] [⟨(some 4), .assign (.const (.int .i64 0)), none⟩] 0)
     (.block 2 (.loop (m8_l1))))))
    (.reg [1, 2] [⟨(some 13), .move (.tmp 2), none⟩,
      ⟨(some 14), .binOp .add 3 (.tmp 13) (.const (.int .i64 1)) 3, none⟩,
      ⟨(some 2), .assign (.tmp 14), none⟩] 0))
theorem u8_l0 {C : Ctx} {k : List It} {st : St} {Q : Ex → St → Prop} : RunK C (.code m8_l0 :: k) st Q ↔ RunK C (.code (.seq (.seq (.reg [1, 2] [⟨(some 11), .move (.tmp 2), none⟩,
      ⟨(some 12), .binOp .lss 3 (.tmp 11) (.const (.int .i64 512)) 3, none⟩] 0)
    (.cond (.tmp 12) (.skip)
      (.exit 0)))
    (.seq (.block 1 (.seq (.reg [1, 2] [⟨(some 15), .move (.tmp 2), none⟩,
       ⟨(some 16), .binOp .rem 3 (.tmp 15) (.const (.int .i64 4)) 3, none⟩,
       ⟨(some 17), .binOp .add 3 (.const (.int .i64 1)) (.tmp 16) 3, none⟩,
       ⟨(some 18), .move (.tmp 2), none⟩,
       ⟨(some 19), .binOp .quo 3 (.tmp 18) (.const (.int .i64 4)) 3, none⟩,
       ⟨(some 20), .binOp .rem 3 (.tmp 19) (.const (.int .i64 2)) 3, none⟩,
       ⟨(some 21), .binOp .add 3 (.const (.int .i64 1)) (.tmp 20) 3, none⟩,
       ⟨(some 22), .move (.tmp 2), none⟩,
       ⟨(some 23), .binOp .quo 3 (.tmp 22) (.const (.int .i64 8)) 3, none⟩,
       ⟨(some 24), .binOp .rem 3 (.tmp 23) (.const (.int .i64 4)) 3, none⟩,
       ⟨(some 25), .binOp .add 3 (.const (.int .i64 1)) (.tmp 24) 3, none⟩,
       ⟨(some 26), .move (.tmp 2), none⟩,
       ⟨(some 27), .binOp .quo 3 (.tmp 26) (.const (.int .i64 32)) 3, none⟩,
       ⟨(some 28), .binOp .rem 3 (.tmp 27) (.const (.int .i64 4)) 3, none⟩,
       ⟨(some 29), .binOp .add 3 (.const (.int .i64 1)) (.tmp 28) 3, none⟩,
       ⟨(some 30), .move (.tmp 2), none⟩,
       ⟨(some 31), .binOp .quo 3 (.tmp 30) (.const (.int .i64 128)) 3, none⟩,
       ⟨(some 32), .binOp .add 3 (.const (.int .i64 1)) (.tmp 31) 3, none⟩,
       ⟨(some 33), .build 23 #[(0, (.tmp 17)), (1, (.tmp 21)), (2, (.tmp 25)), (3, (.tmp 29)), (4, (.tmp 32))], none⟩,
       ⟨(some 3), .alloc 23, none⟩,
       ⟨none, .store 23 (.tmp 3) (.tmp 33), none⟩] 0)
     (.seq (.reg [1, 2, 3] [⟨(some 4), .assign (.const (.int .i64 0)), none⟩] 0)
     (.block 2 (.loop (m8_l1))))))
    (.reg [1, 2] [⟨(some 13), .move (.tmp 2), none⟩,
      ⟨(some 14), .binOp .add 3 (.tmp 13) (.const (.int .i64 1)) 3, none⟩,
      ⟨(some 2), .assign (.tmp 14), none⟩] 0))) :: k) st Q := Iff.rfl
def m8_l3 : M :=
    .seq (.seq (.reg [1, 6, 7, 8, 9] [⟨(some 100), .move (.tmp 9), none⟩,
      ⟨(some 101), .binOp .lss 3 (.tmp 100) (.const (.int .i64 6)) 3, none⟩] 0)
    (.cond (.tmp 101) (.skip)
      (.exit 6)))
    (.seq (.block 7 (.seq (.reg [1, 6, 7, 8, 9] [⟨(some 104), .move (.tmp 8), none⟩,
       ⟨(some 105), .move (.tmp 9), none⟩,
       ⟨(some 106), .indexAddr 39 (.tmp 104) (.tmp 105), none⟩,
       ⟨(some 107), .load 23 (.tmp 106), none⟩,
       ⟨(some 108), .move (.tmp 7), none⟩,
       ⟨(some 109), .convert 3 5 (.tmp 108), none⟩,
       ⟨(some 110), .call ⟨.value (.func 20), #[(.tmp 107), (.tmp 109)], #[23, 5]⟩, none⟩,
       ⟨(some 111), .unOp .not 4 (.tmp 110), none⟩,
       ⟨(some 112), .move (.tmp 111), none⟩,
       ⟨(some 113), .move (.tmp 8), (some (112, false))⟩,
       ⟨(some 114), .move (.tmp 9), (some (112, false))⟩,
       ⟨(some 115), .indexAddr 39 (.tmp 113) (.tmp 114), (some (112, false))⟩,
       ⟨(some 116), .load 23 (.tmp 115), (some (112, false))⟩,
       ⟨(some 117), .load 32 (.tmp 1), (some (112, false))⟩,
       ⟨(some 118), .move (.tmp 7), (some (112, false))⟩,
       ⟨(some 119), .convert 3 5 (.tmp 118), (some (112, false))⟩,
       ⟨(some 120), .call ⟨.value (.func 4), #[(.tmp 116), (.tmp 117), (.tmp 119), (.const (.int .u8 1))], #[23, 32, 5, 5]⟩, (some (112, false))⟩,
       ⟨(some 121), .unOp .not 4 (.tmp 120), (some (112, false))⟩,
       ⟨(some 122), .pick (.tmp 112) (.const (.bool true)) (.tmp 121), none⟩] 16)
     (.cond (.tmp 122) (.seq (.reg [] [⟨(some 0), .assign (.const (.bool false)), none⟩] 0)
       (.ret))
       (.skip))))
    (.reg [1, 6, 7, 8, 9] [⟨(some 102), .move (.tmp 9), none⟩,
      ⟨(some 103), .binOp .add 3 (.tmp 102) (.const (.int .i64 1)) 3, none⟩,
      ⟨(some 9), .assign (.tmp 103), none⟩] 0))
theorem u8_l3 {C : Ctx} {k : List It} {st : St} {Q : Ex → St → Prop} : RunK C (.code m8_l3 :: k) st Q ↔ RunK C (.code (.seq (.seq (.reg [1, 6, 7, 8, 9] [⟨(some 100), .move (.tmp 9), none⟩,
      ⟨(some 101), .binOp .lss 3 (.tmp 100) (.const (.int .i64 6)) 3, none⟩] 0)
    (.cond (.tmp 101) (.skip)
      (.exit 6)))
    (.seq (.block 7 (.seq (.reg [1, 6, 7, 8, 9] [⟨(some 104), .move (.tmp 8), none⟩,
       ⟨(some 105), .move (.tmp 9), none⟩,
       ⟨(some 106), .indexAddr 39 (.tmp 104) (.tmp 105), none⟩,
       ⟨(some 107), .load 23 (.tmp 106), none⟩,
       ⟨(some 108), .move (.tmp 7), none⟩,
       ⟨(some 109), .convert 3 5 (.tmp 108), none⟩,
       ⟨(some 110), .call ⟨.value (.func 20), #[(.tmp 107), (.tmp 109)], #[23, 5]⟩, none⟩,
       ⟨(some 111), .unOp .not 4 (.tmp 110), none⟩,
       ⟨(some 112), .move (.tmp 111), none⟩,
       ⟨(some 113), .move (.tmp 8), (some (112, false))⟩,
       ⟨(some 114), .move (.tmp 9), (some (112, false))⟩,
       ⟨(some 115), .indexAddr 39 (.tmp 113) (.tmp 114), (some (112, false))⟩,
       ⟨(some 116), .load 23 (.tmp 115), (some (112, false))⟩,
       ⟨(some 117), .load 32 (.tmp 1), (some (112, false))⟩,
       ⟨(some 118), .move (.tmp 7), (some (112, false))⟩,
       ⟨(some 119), .convert 3 5 (.tmp 118), (some (112, false))⟩,
       ⟨(some 120), .call ⟨.value (.func 4), #[(.tmp 116), (.tmp 117), (.tmp 119), (.const (.int .u8 1))], #[23, 32, 5, 5]⟩, (some (112, false))⟩,
       ⟨(some 121), .unOp .not 4 (.tmp 120), (some (112, false))⟩,
       ⟨(some 122), .pick (.tmp 112) (.const (.bool true)) (.tmp 121), none⟩] 16)
     (.cond (.tmp 122) (.seq (.reg [] [⟨(some 0), .assign (.const (.bool false)), none⟩] 0)
       (.ret))
       (.skip))))
    (.reg [1, 6, 7, 8, 9] [⟨(some 102), .move (.tmp 9), none⟩,
      ⟨(some 103), .binOp .add 3 (.tmp 102) (.const (.int .i64 1)) 3, none⟩,
      ⟨(some 9), .assign (.tmp 103), none⟩] 0))) :: k) st Q := Iff.rfl
def m8_l2 : M :=
    .seq (.seq (.reg [1, 6, 7] [⟨(some 54), .move (.tmp 7), none⟩,
      ⟨(some 55), .binOp .lss 3 (.tmp 54) (.const (.int .i64 11)) 3, none⟩] 0)
    (.cond (.tmp 55) (.skip)
      (.exit 4)))
    (.seq (.block 5 (.seq (.reg [1, 6, 7] [⟨(some 58), .call ⟨.value (.func 25), #[], #[]⟩, none⟩,
       ⟨(some 59), .call ⟨.value (.func 25), #[], #[]⟩, none⟩,
       ⟨(some 60), .call ⟨.value (.func 25), #[], #[]⟩, none⟩,
       ⟨(some 61), .call ⟨.value (.func 25), #[], #[]⟩, none⟩,
       ⟨(some 62), .call ⟨.value (.func 25), #[], #[]⟩, none⟩,
       ⟨(some 63), .build 23 #[], none⟩,
       ⟨(some 64), .buildSlice 39 6 #[(0, (.tmp 58)), (1, (.tmp 59)), (2, (.tmp 60)), (3, (.tmp 61)), (4, (.tmp 62)), (5, (.tmp 63))], none⟩,
       ⟨(some 8), .assign (.tmp 64), none⟩] 0)
     (.seq (.reg [1, 6, 7, 8] [⟨(some 65), .move (.tmp 8), none⟩,
       ⟨(some 66), .move (.tmp 6), none⟩,
       ⟨(some 67), .move (.tmp 7), none⟩,
       ⟨(some 68), .indexAddr 37 (.tmp 66) (.tmp 67), none⟩,
       ⟨(some 69), .load 3 (.tmp 68), none⟩,
       ⟨(some 70), .indexAddr 39 (.tmp 65) (.const (.int .i64 0)), none⟩,
       ⟨(some 71), .fieldAddr 23 (.tmp 70) 0, none⟩,
       ⟨none, .store 3 (.tmp 71) (.tmp 69), none⟩] 0)
     (.seq (.reg [1, 6, 7, 8] [⟨(some 72), .move (.tmp 8), none⟩,
       ⟨(some 73), .move (.tmp 6), none⟩,
       ⟨(some 74), .move (.tmp 7), none⟩,
       ⟨(some 75), .indexAddr 37 (.tmp 73) (.tmp 74), none⟩,
       ⟨(some 76), .load 3 (.tmp 75), none⟩,
       ⟨(some 77), .indexAddr 39 (.tmp 72) (.const (.int .i64 1)), none⟩,
       ⟨(some 78), .fieldAddr 23 (.tmp 77) 1, none⟩,
       ⟨none, .store 3 (.tmp 78) (.tmp 76), none⟩] 0)
     (.seq (.reg [1, 6, 7, 8] [⟨(some 79), .move (.tmp 8), none⟩,
       ⟨(some 80), .move (.tmp 6), none⟩,
       ⟨(some 81), .move (.tmp 7), none⟩,
       ⟨(some 82), .indexAddr 37 (.tmp 80) (.tmp 81), none⟩,
       ⟨(some 83), .load 3 (.tmp 82), none⟩,
       ⟨(some 84), .indexAddr 39 (.tmp 79) (.const (.int .i64 2)), none⟩,
       ⟨(some 85), .fieldAddr 23 (.tmp 84) 2, none⟩,
       ⟨none, .store 3 (.tmp 85) (.tmp 83), none⟩] 0)
     (.seq (.reg [1, 6, 7, 8] [⟨(some 86), .move (.tmp 8), none⟩,
       ⟨(some 87), .move (.tmp 6), none⟩,
       ⟨(some 88), .move (.tmp 7), none⟩,
       ⟨(some 89), .indexAddr 37 (.tmp 87) (.tmp 88), none⟩,
       ⟨(some 90), .load 3 (.tmp 89), none⟩,
       ⟨(some 91), .indexAddr 39 (.tmp 86) (.const (.int .i64 3)), none⟩,
       ⟨(some 92), .fieldAddr 23 (.tmp 91) 3, none⟩,
       ⟨none, .store 3 (.tmp 92) (.tmp 90), none⟩] 0)
     (.seq (.reg [1, 6, 7, 8] [⟨(some 93), .move (.tmp 8), none⟩,
       ⟨(some 94), .move (.tmp 6), none⟩,
       ⟨(some 95), .move (.tmp 7), none⟩,
       ⟨(some 96), .indexAddr 37 (.tmp 94) (.tmp 95), none⟩,
       ⟨(some 97), .load 3 (.tmp 96), none⟩,
       ⟨(some 98), .indexAddr 39 (.tmp 93) (.const (.int .i64 4)), none⟩,
       ⟨(some 99), .fieldAddr 23 (.tmp 98) 4, none⟩,
       ⟨none, .store 3 (.tmp 99) (.tmp 97), none⟩] 0)
     (.seq (.reg [1, 6, 7, 8] [⟨(some 9), .assign (.const (.int .i64 0)), none⟩] 0)
     (.block 6 (.loop (m8_l3)))))))))))
    (.reg [1, 6, 7] [⟨(some 56), .move (.tmp 7), none⟩,
      ⟨(some 57), .binOp .add 3 (.tmp 56) (.const (.int .i64 1)) 3, none⟩,
      ⟨(some 7), .assign (.tmp 57), none⟩] 0))
theorem u8_l2 {C : Ctx} {k : List It} {st : St} {Q : Ex → St → Prop} : RunK C (.code m8_l2 :: k) st Q ↔ RunK C (.code (.seq (.seq (.reg [1, 6, 7] [⟨(some 54), .move (.tmp 7), none⟩,
      ⟨(some 55), .binOp .lss 3 (.tmp 54) (.const (.int .i64 11)) 3, none⟩] 0)
    (.cond (.tmp 55) (.skip)
      (.exit 4)))
    (.seq (.block 5 (.seq (.reg [1, 6, 7] [⟨(some 58), .call ⟨.value (.func 25), #[], #[]⟩, none⟩,
       ⟨(some 59), .call ⟨.value (.func 25), #[], #[]⟩, none⟩,
       ⟨(some 60), .call ⟨.value (.func 25), #[], #[]⟩, none⟩,
       ⟨(some 61), .call ⟨.value (.func 25), #[], #[]⟩, none⟩,
       ⟨(some 62), .call ⟨.value (.func 25), #[], #[]⟩, none⟩,
       ⟨(some 63), .build 23 #[], none⟩,
       ⟨(some 64), .buildSlice 39 6 #[(0, (.tmp 58)), (1, (.tmp 59)), (2, (.tmp 60)), (3, (.tmp 61)), (4, (.tmp 62)), (5, (.tmp 63))], none⟩,
       ⟨(some 8), .assign (.tmp 64), none⟩] 0)
     (.seq (.reg [1, 6, 7, 8] [⟨(some 65), .move (.tmp 8), none⟩,
       ⟨(some 66), .move (.tmp 6), none⟩,
       ⟨(some 67), .move (.tmp 7), none⟩,
       ⟨(some 68), .indexAddr 37 (.tmp 66) (.tmp 67), none⟩,
       ⟨(some 69), .load 3 (.tmp 68), none⟩,
       ⟨(some 70), .indexAddr 39 (.tmp 65) (.const (.int .i64 0)), none⟩,
       ⟨(some 71), .fieldAddr 23 (.tmp 70) 0, none⟩,
       ⟨none, .store 3 (.tmp 71) (.tmp 69), none⟩] 0)
     (.seq (.reg [1, 6, 7, 8] [⟨(some 72), .move (.tmp 8), none⟩,
       ⟨(some 73), .move (.tmp 6), none⟩,
       ⟨(some 74), .move (.tmp 7), none⟩,
       ⟨(some 75), .indexAddr 37 (.tmp 73) (.tmp 74), none⟩,
       ⟨(some 76), .load 3 (.tmp 75), none⟩,
       ⟨(some 77), .indexAddr 39 (.tmp 72) (.const (.int .i64 1)), none⟩,
       ⟨(some 78), .fieldAddr 23 (.tmp 77) 1, none⟩,
       ⟨none, .store 3 (.tmp 78) (.tmp 76), none⟩] 0)
     (.seq (.reg [1, 6, 7, 8] [⟨(some 79), .move (.tmp 8), none⟩,
       ⟨(some 80), .move (.tmp 6), none⟩,
       ⟨(some 81), .move (.tmp 7), none⟩,
       ⟨(some 82), .indexAddr 37 (.tmp 80) (.tmp 81), none⟩,
       ⟨(some 83), .load 3 (.tmp 82), none⟩,
       ⟨(some 84), .indexAddr 39 (.tmp 79) (.const (.int .i64 2)), none⟩,
       ⟨(some 85), .fieldAddr 23 (.tmp 84) 2, none⟩,
       ⟨none, .store 3 (.tmp 85) (.tmp 83), none⟩] 0)
     (.seq (.reg [1, 6, 7, 8] [⟨(some 86), .move (.tmp 8), none⟩,
       ⟨(some 87), .move (.tmp 6), none⟩,
       ⟨(some 88), .move (.tmp 7), none⟩,
       ⟨(some 89), .indexAddr 37 (.tmp 87) (.tmp 88), none⟩,
       ⟨(some 90), .load 3 (.tmp 89), none⟩,
       ⟨(some 91), .indexAddr 39 (.tmp 86) (.const (.int .i64 3)), none⟩,
       ⟨(some 92), .fieldAddr 23 (.tmp 91) 3, none⟩,
       ⟨none, .store 3 (.tmp 92) (.tmp 90), none⟩] 0)
     (.seq (.reg [1, 6, 7, 8] [⟨(some 93), .move (.tmp 8), none⟩,
       ⟨(some 94), .move (.tmp 6), none⟩,
       ⟨(some 95), .move (.tmp 7), none⟩,
       ⟨(some 96), .indexAddr 37 (.tmp 94) (.tmp 95), none⟩,
       ⟨(some 97), .load 3 (.tmp 96), none⟩,
       ⟨(some 98), .indexAddr 39 (.tmp 93) (.const (.int .i64 4)), none⟩,
       ⟨(some 99), .fieldAddr 23 (.tmp 98) 4, none⟩,
       ⟨none, .store 3 (.tmp 99) (.tmp 97), none⟩] 0)
     (.seq (.reg [1, 6, 7, 8] [⟨(some 9), .assign (.const (.int .i64 0)), none⟩] 0)
     (.block 6 (.loop (m8_l3)))))))))))
    (.reg [1, 6, 7] [⟨(some 56), .move (.tmp 7), none⟩,
      ⟨(some 57), .binOp .add 3 (.tmp 56) (.const (.int .i64 1)) 3, none⟩,
      ⟨(some 7), .assign (.tmp 57), none⟩] 0))) :: k) st Q := Iff.rfl
def m8 : M :=
  .seq (.reg [] [⟨(some 0), .assign (.const (.bool false)), none⟩] 0)
    (.seq (.reg [] [⟨(some 10), .build 32 #[(0, (.const (.int .u8 9))), (1, (.const (.int .u8 8))), (2, (.const (.int .u8 7))), (3, (.const (.int .u8 6)))], none⟩,
      ⟨(some 1), .alloc 32, none⟩,
      ⟨none, .store 32 (.tmp 1) (.tmp 10), none⟩] 0)
    (.seq (.seq (.reg [1] [⟨(some 2), .assign (.const (.int .i64 0)), none⟩] 0)
    (.block 0 (.loop (m8_l0))))
    (.seq (.reg [1] [⟨(some 53), .buildSlice 37 11 #[(0, (.const (.int .i64 (-9223372036854775808)))), (1, (.const (.int .i64 (-1)))), (2, (.const (.int .i64 0))), (3, (.const (.int .i64 1))), (4, (.const (.int .i64 2))), (5, (.const (.int .i64 3))), (6, (.const (.int .i64 4))), (7, (.const (.int .i64 5))), (8, (.const (.int .i64 256))), (9, (.const (.int .i64 257))), (10, (.const (.int .i64 9223372036854775807)))], none⟩,
      ⟨(some 6), .assign (.tmp 53), none⟩] 0)
    (.seq (.seq (.reg [1, 6] [⟨(some 7), .assign (.const (.int .i64 0)), none⟩] 0)
    (.block 4 (.loop (m8_l2))))
    (.seq (.reg [] [⟨(some 123), .call ⟨.value (.func 9), #[], #[]⟩, none⟩,
      ⟨(some 0), .assign (.tmp 123), none⟩] 0)
    (.ret))))))
def fn8 : MFn := ⟨124, [.tmp 0], m8, .shut⟩
theorem fnOk8 : FnOk Tryd.prog 8 fn8 := ⟨Tryd.f8, _, fun i => ([[], [], [1], [1, 2], [1, 2], [1, 2], [1, 2, 3], [1, 2, 3, 4], [1, 2, 3, 4], [1, 2, 3, 4], [1, 2, 3, 4, 5], [1, 2, 3, 4], [1, 2, 3, 4, 5], [], [1], [1, 6], [1, 6, 7], [1, 6, 7], [1, 6, 7], [1, 6, 7, 8], [1, 6, 7, 8], [1, 6, 7, 8], [1, 6, 7, 8], [1, 6, 7, 8], [1, 6, 7, 8], [1, 6, 7, 8, 9], [1, 6, 7, 8, 9], [1, 6, 7, 8, 9], [], []] : List (List Nat)).getD i [], Tryd.func8, rfl, by kernel_rfl, by kernel_rfl, by kernel_rfl, by kernel_rfl⟩
/- seisin/geo.Right -/
def m10_l0 : M :=
    .seq (.reg [15, 16] [⟨(some 17), .binOp .lss 3 (.tmp 16) (.const (.int .i64 5)) 3, none⟩] 0)
    (.seq (.cond (.tmp 17) (.skip)
      (.exit 0))
    (.seq (.block 1 (.seq (.reg [15, 16] [⟨(some 18), .move (.tmp 16), none⟩,
       ⟨(some 19), .index 40 (.tmp 15) (.tmp 16), none⟩,
       ⟨(some 3), .assign (.tmp 18), none⟩,
       ⟨(some 4), .assign (.tmp 19), none⟩] 0)
     (.seq (.reg [3, 4, 15, 16] [⟨(some 20), .move (.tmp 4), none⟩,
       ⟨(some 21), .binOp .lss 3 (.tmp 20) (.const (.int .i64 1)) 3, none⟩,
       ⟨(some 22), .move (.tmp 21), none⟩,
       ⟨(some 23), .move (.tmp 4), (some (22, false))⟩,
       ⟨(some 24), .move (.tmp 3), (some (22, false))⟩,
       ⟨(some 25), .indexAddr 40 (.global 0) (.tmp 24), (some (22, false))⟩,
       ⟨(some 26), .load 3 (.tmp 25), (some (22, false))⟩,
       ⟨(some 27), .binOp .gtr 3 (.tmp 23) (.tmp 26) 3, (some (22, false))⟩,
       ⟨(some 28), .pick (.tmp 22) (.const (.bool true)) (.tmp 27), none⟩] 0)
     (.cond (.tmp 28) (.seq (.reg [] [⟨(some 2), .assign (.const (.bool false)), none⟩] 0)
       (.ret))
       (.skip)))))
    (.reg [15, 16] [⟨(some 29), .binOp .add 3 (.tmp 16) (.const (.int .i64 1)) 3, none⟩,
      ⟨(some 16), .move (.tmp 29), none⟩] 0)))
theorem u10_l0 {C : Ctx} {k : List It} {st : St} {Q : Ex → St → Prop} : RunK C (.code m10_l0 :: k) st Q ↔ RunK C (.code (.seq (.reg [15, 16] [⟨(some 17), .binOp .lss 3 (.tmp 16) (.const (.int .i64 5)) 3, none⟩] 0)
    (.seq (.cond (.tmp 17) (.skip)
      (.exit 0))
    (.seq (.block 1 (.seq (.reg [15, 16] [⟨(some 18), .move (.tmp 16), none⟩,
       ⟨(some 19), .index 40 (.tmp 15) (.tmp 16), none⟩,
       ⟨(some 3), .assign (.tmp 18), none⟩,
       ⟨(some 4), .assign (.tmp 19), none⟩] 0)
     (.seq (.reg [3, 4, 15, 16] [⟨(some 20), .move (.tmp 4), none⟩,
       ⟨(some 21), .binOp .lss 3 (.tmp 20) (.const (.int .i64 1)) 3, none⟩,
       ⟨(some 22), .move (.tmp 21), none⟩,
       ⟨(some 23), .move (.tmp 4), (some (22, false))⟩,
       ⟨(some 24), .move (.tmp 3), (some (22, false))⟩,
       ⟨(some 25), .indexAddr 40 (.global 0) (.tmp 24), (some (22, false))⟩,
       ⟨(some 26), .load 3 (.tmp 25), (some (22, false))⟩,
       ⟨(some 27), .binOp .gtr 3 (.tmp 23) (.tmp 26) 3, (some (22, false))⟩,
       ⟨(some 28), .pick (.tmp 22) (.const (.bool true)) (.tmp 27), none⟩] 0)
     (.cond (.tmp 28) (.seq (.reg [] [⟨(some 2), .assign (.const (.bool false)), none⟩] 0)
       (.ret))
       (.skip)))))
    (.reg [15, 16] [⟨(some 29), .binOp .add 3 (.tmp 16) (.const (.int .i64 1)) 3, none⟩,
      ⟨(some 16), .move (.tmp 29), none⟩] 0)))) :: k) st Q := Iff.rfl
def m10 : M :=
  .seq (.reg [0] [⟨(some 1), .box 23 (.tmp 0), none⟩,
      ⟨(some 2), .assign (.const (.bool false)), none⟩] 0)
    (.seq (.seq (.reg [1] [⟨(some 5), .fieldAddr 23 (.tmp 1) 0, none⟩,
      ⟨(some 6), .load 3 (.tmp 5), none⟩,
      ⟨(some 7), .fieldAddr 23 (.tmp 1) 1, none⟩,
      ⟨(some 8), .load 3 (.tmp 7), none⟩,
      ⟨(some 9), .fieldAddr 23 (.tmp 1) 2, none⟩,
      ⟨(some 10), .load 3 (.tmp 9), none⟩,
      ⟨(some 11), .fieldAddr 23 (.tmp 1) 3, none⟩,
      ⟨(some 12), .load 3 (.tmp 11), none⟩,
      ⟨(some 13), .fieldAddr 23 (.tmp 1) 4, none⟩,
      ⟨(some 14), .load 3 (.tmp 13), none⟩,
      ⟨(some 15), .build 40 #[(0, (.tmp 6)), (1, (.tmp 8)), (2, (.tmp 10)), (3, (.tmp 12)), (4, (.tmp 14))], none⟩,
      ⟨(some 16), .move (.const (.int .i64 0)), none⟩] 0)
    (.block 0 (.loop (m10_l0))))
    (.seq (.reg [] [⟨(some 2), .assign (.const (.bool true)), none⟩] 0)
    (.ret)))
def fn10 : MFn := ⟨30, [.tmp 2], m10, .shut⟩
theorem fnOk10 : FnOk Tryd.prog 10 fn10 := ⟨Tryd.f10, _, fun i => ([[0], [1], [15, 16], [15, 16], [3, 4, 15, 16], [], [15, 16], []] : List (List Nat)).getD i [], Tryd.func10, rfl, by kernel_rfl, by kernel_rfl, by kernel_rfl, by kernel_rfl⟩
/- seisin/geo.Lines -/
def m11 : M :=
  .seq (.reg [0] [⟨(some 1), .box 23 (.tmp 0), none⟩,
      ⟨(some 2), .assign (.const (.int .i64 0)), none⟩] 0)
    (.seq (.reg [1] [⟨(some 6), .load 23 (.tmp 1), none⟩,
      ⟨(some 7), .call ⟨.value (.func 26), #[(.tmp 6)], #[23]⟩, none⟩,
      ⟨(some 5), .move (.tmp 7), none⟩,
      ⟨(some 8), .extract (.tmp 5) 0, none⟩,
      ⟨(some 9), .extract (.tmp 5) 1, none⟩,
      ⟨(some 3), .alloc 42, none⟩,
      ⟨none, .store 42 (.tmp 3) (.tmp 8), none⟩,
      ⟨(some 4), .assign (.tmp 9), none⟩] 0)
    (.seq (.seq (.reg [3, 4] [⟨(some 10), .move (.tmp 4), none⟩,
      ⟨(some 11), .unOp .not 4 (.tmp 10), none⟩] 0)
    (.cond (.tmp 11) (.seq (.reg [] [⟨(some 2), .assign (.const (.int .i64 0)), none⟩] 0)
      (.ret))
      (.skip)))
    (.seq (.reg [3] [⟨(some 12), .load 42 (.tmp 3), none⟩,
      ⟨(some 13), .call ⟨.value (.func 27), #[(.tmp 12), (.const (.int .u8 5))], #[42, 5]⟩, none⟩,
      ⟨(some 14), .convert 5 3 (.tmp 13), none⟩,
      ⟨(some 15), .binOp .add 3 (.tmp 14) (.const (.int .i64 1)) 3, none⟩,
      ⟨(some 2), .assign (.tmp 15), none⟩] 0)
    (.ret))))
def fn11 : MFn := ⟨16, [.tmp 2], m11, .shut⟩
theorem fnOk11 : FnOk Tryd.prog 11 fn11 := ⟨Tryd.f11, _, fun i => ([[0], [1], [3, 4], [], [3]] : List (List Nat)).getD i [], Tryd.func11, rfl, by kernel_rfl, by kernel_rfl, by kernel_rfl, by kernel_rfl⟩
/- seisin/geo.Nodes -/
def m12 : M :=
  .seq (.reg [0] [⟨(some 1), .box 23 (.tmp 0), none⟩,
      ⟨(some 2), .assign (.const (.int .i64 0)), none⟩] 0)
    (.seq (.reg [1] [⟨(some 6), .load 23 (.tmp 1), none⟩,
      ⟨(some 7), .call ⟨.value (.func 26), #[(.tmp 6)], #[23]⟩, none⟩,
      ⟨(some 5), .move (.tmp 7), none⟩,
      ⟨(some 8), .extract (.tmp 5) 0, none⟩,
      ⟨(some 9), .extract (.tmp 5) 1, none⟩,
      ⟨(some 3), .alloc 42, none⟩,
      ⟨none, .store 42 (.tmp 3) (.tmp 8), none⟩,
      ⟨(some 4), .assign (.tmp 9), none⟩] 0)
    (.seq (.seq (.reg [3, 4] [⟨(some 10), .move (.tmp 4), none⟩,
      ⟨(some 11), .unOp .not 4 (.tmp 10), none⟩] 0)
    (.cond (.tmp 11) (.seq (.reg [] [⟨(some 2), .assign (.const (.int .i64 0)), none⟩] 0)
      (.ret))
      (.skip)))
    (.seq (.reg [3] [⟨(some 12), .fieldAddr 42 (.tmp 3) 0, none⟩,
      ⟨(some 13), .fieldAddr 23 (.tmp 12) 0, none⟩,
      ⟨(some 14), .load 3 (.tmp 13), none⟩,
      ⟨(some 15), .fieldAddr 42 (.tmp 3) 0, none⟩,
      ⟨(some 16), .fieldAddr 23 (.tmp 15) 1, none⟩,
      ⟨(some 17), .load 3 (.tmp 16), none⟩,
      ⟨(some 18), .binOp .add 3 (.tmp 14) (.tmp 17) 3, none⟩,
      ⟨(some 2), .assign (.tmp 18), none⟩] 0)
    (.ret))))
def fn12 : MFn := ⟨19, [.tmp 2], m12, .shut⟩
theorem fnOk12 : FnOk Tryd.prog 12 fn12 := ⟨Tryd.f12, _, fun i => ([[0], [1], [3, 4], [], [3]] : List (List Nat)).getD i [], Tryd.func12, rfl, by kernel_rfl, by kernel_rfl, by kernel_rfl, by kernel_rfl⟩
/- seisin/geo.Line -/
def m14 : M :=
  .seq (.reg [0, 1] [⟨(some 2), .box 23 (.tmp 0), none⟩,
      ⟨(some 4), .assign (.const (.int .u8 0)), none⟩] 0)
    (.seq (.reg [1, 2] [⟨(some 8), .load 23 (.tmp 2), none⟩,
      ⟨(some 9), .call ⟨.value (.func 26), #[(.tmp 8)], #[23]⟩, none⟩,
      ⟨(some 7), .move (.tmp 9), none⟩,
      ⟨(some 10), .extract (.tmp 7) 0, none⟩,
      ⟨(some 11), .extract (.tmp 7) 1, none⟩,
      ⟨(some 5), .alloc 42, none⟩,
      ⟨none, .store 42 (.tmp 5) (.tmp 10), none⟩,
      ⟨(some 6), .assign (.tmp 11), none⟩] 0)
    (.seq (.seq (.reg [1, 5, 6] [⟨(some 12), .move (.tmp 6), none⟩,
      ⟨(some 13), .unOp .not 4 (.tmp 12), none⟩] 0)
    (.cond (.tmp 13) (.seq (.reg [] [⟨(some 4), .assign (.const (.int .u8 0)), none⟩] 0)
      (.ret))
      (.skip)))
    (.seq (.reg [1, 5] [⟨(some 14), .load 42 (.tmp 5), none⟩,
      ⟨(some 15), .move (.tmp 1), none⟩,
      ⟨(some 16), .call ⟨.value (.func 27), #[(.tmp 14), (.tmp 15)], #[42, 5]⟩, none⟩,
      ⟨(some 4), .assign (.tmp 16), none⟩] 0)
    (.ret))))
def fn14 : MFn := ⟨17, [.tmp 4], m14, .shut⟩
theorem fnOk14 : FnOk Tryd.prog 14 fn14 := ⟨Tryd.f14, _, fun i => ([[0, 1], [1, 2], [1, 5, 6], [], [1, 5]] : List (List Nat)).getD i [], Tryd.func14, rfl, by kernel_rfl, by kernel_rfl, by kernel_rfl, by kernel_rfl⟩
/- seisin/geo.Word -/
def m15 : M :=
  .seq (.reg [0, 1] [⟨(some 2), .box 23 (.tmp 0), none⟩,
      ⟨(some 4), .assign (.const (.int .u8 0)), none⟩] 0)
    (.seq (.reg [1, 2] [⟨(some 8), .load 23 (.tmp 2), none⟩,
      ⟨(some 9), .call ⟨.value (.func 26), #[(.tmp 8)], #[23]⟩, none⟩,
      ⟨(some 7), .move (.tmp 9), none⟩,
      ⟨(some 10), .extract (.tmp 7) 0, none⟩,
      ⟨(some 11), .extract (.tmp 7) 1, none⟩,
      ⟨(some 5), .alloc 42, none⟩,
      ⟨none, .store 42 (.tmp 5) (.tmp 10), none⟩,
      ⟨(some 6), .assign (.tmp 11), none⟩] 0)
    (.seq (.seq (.reg [1, 5, 6] [⟨(some 12), .move (.tmp 6), none⟩,
      ⟨(some 13), .unOp .not 4 (.tmp 12), none⟩] 0)
    (.cond (.tmp 13) (.seq (.reg [] [⟨(some 4), .assign (.const (.int .u8 0)), none⟩] 0)
      (.ret))
      (.skip)))
    (.seq (.reg [1, 5] [⟨(some 14), .load 42 (.tmp 5), none⟩,
      ⟨(some 15), .move (.tmp 1), none⟩,
      ⟨(some 16), .call ⟨.value (.func 29), #[(.tmp 14), (.tmp 15)], #[42, 5]⟩, none⟩,
      ⟨(some 4), .assign (.tmp 16), none⟩] 0)
    (.ret))))
def fn15 : MFn := ⟨17, [.tmp 4], m15, .shut⟩
theorem fnOk15 : FnOk Tryd.prog 15 fn15 := ⟨Tryd.f15, _, fun i => ([[0, 1], [1, 2], [1, 5, 6], [], [1, 5]] : List (List Nat)).getD i [], Tryd.func15, rfl, by kernel_rfl, by kernel_rfl, by kernel_rfl, by kernel_rfl⟩
/- seisin/geo.valid -/
def m26 : M :=
  .seq (.reg [0] [⟨(some 1), .box 23 (.tmp 0), none⟩,
      ⟨(some 2), .alloc 42, none⟩,
      ⟨(some 3), .assign (.const (.bool false)), none⟩] 0)
    (.seq (.seq (.reg [1, 2] [⟨(some 4), .load 23 (.tmp 1), none⟩,
      ⟨(some 5), .call ⟨.value (.func 10), #[(.tmp 4)], #[23]⟩, none⟩,
      ⟨(some 6), .unOp .not 4 (.tmp 5), none⟩] 0)
    (.cond (.tmp 6) (.seq (.reg [2] [⟨(some 7), .build 42 #[], none⟩,
        ⟨none, .store 42 (.tmp 2) (.tmp 7), none⟩,
        ⟨(some 3), .assign (.const (.bool false)), none⟩] 0)
      (.ret))
      (.skip)))
    (.seq (.reg [1, 2] [⟨(some 8), .load 23 (.tmp 1), none⟩,
      ⟨(some 9), .build 42 #[(0, (.tmp 8))], none⟩,
      ⟨none, .store 42 (.tmp 2) (.tmp 9), none⟩,
      ⟨(some 3), .assign (.const (.bool true)), none⟩] 0)
    (.ret)))
def fn26 : MFn := ⟨10, [.cell 2 42, .tmp 3], m26, .shut⟩
theorem fnOk26 : FnOk Tryd.prog 26 fn26 := ⟨Tryd.f26, _, fun i => ([[0], [1, 2], [2], [1, 2]] : List (List Nat)).getD i [], Tryd.func26, rfl, by kernel_rfl, by kernel_rfl, by kernel_rfl, by kernel_rfl⟩
/- (seisin/geo.place).line -/
def m27 : M :=
  .seq (.reg [0, 1] [⟨(some 2), .box 42 (.tmp 0), none⟩,
      ⟨(some 4), .assign (.const (.int .u8 0)), none⟩] 0)
    (.seq (.reg [1, 2] [⟨(some 5), .move (.tmp 1), none⟩,
      ⟨(some 6), .fieldAddr 42 (.tmp 2) 0, none⟩,
      ⟨(some 7), .fieldAddr 23 (.tmp 6) 2, none⟩,
      ⟨(some 8), .load 3 (.tmp 7), none⟩,
      ⟨(some 9), .convert 3 5 (.tmp 8), none⟩,
      ⟨(some 10), .binOp .quo 5 (.tmp 5) (.tmp 9) 5, none⟩,
      ⟨(some 4), .assign (.tmp 10), none⟩] 0)
    (.ret))
def fn27 : MFn := ⟨11, [.tmp 4], m27, .shut⟩
theorem fnOk27 : FnOk Tryd.prog 27 fn27 := ⟨Tryd.f27, _, fun i => ([[0, 1], [1, 2]] : List (List Nat)).getD i [], Tryd.func27, rfl, by kernel_rfl, by kernel_rfl, by kernel_rfl, by kernel_rfl⟩
/- (seisin/geo.place).word -/
def m29 : M :=
  .seq (.reg [0, 1] [⟨(some 2), .box 42 (.tmp 0), none⟩,
      ⟨(some 4), .assign (.const (.int .u8 0)), none⟩] 0)
    (.seq (.reg [1, 2] [⟨(some 5), .move (.tmp 1), none⟩,
      ⟨(some 6), .fieldAddr 42 (.tmp 2) 0, none⟩,
      ⟨(some 7), .fieldAddr 23 (.tmp 6) 2, none⟩,
      ⟨(some 8), .load 3 (.tmp 7), none⟩,
      ⟨(some 9), .convert 3 5 (.tmp 8), none⟩,
      ⟨(some 10), .binOp .rem 5 (.tmp 5) (.tmp 9) 5, none⟩,
      ⟨(some 4), .assign (.tmp 10), none⟩] 0)
    (.ret))
def fn29 : MFn := ⟨11, [.tmp 4], m29, .shut⟩
theorem fnOk29 : FnOk Tryd.prog 29 fn29 := ⟨Tryd.f29, _, fun i => ([[0, 1], [1, 2]] : List (List Nat)).getD i [], Tryd.func29, rfl, by kernel_rfl, by kernel_rfl, by kernel_rfl, by kernel_rfl⟩
/- seisin/seisinlaw16.example -/
def m25 : M :=
  .seq (.reg [] [⟨(some 0), .alloc 23, none⟩] 0)
    (.seq (.reg [0] [⟨(some 1), .build 23 #[(0, (.const (.int .i64 2))), (1, (.const (.int .i64 2))), (2, (.const (.int .i64 4))), (3, (.const (.int .i64 1))), (4, (.const (.int .i64 1)))], none⟩,
      ⟨none, .store 23 (.tmp 0) (.tmp 1), none⟩] 0)
    (.ret))
def fn25 : MFn := ⟨2, [.cell 0 23], m25, .shut⟩
theorem fnOk25 : FnOk Tryd.prog 25 fn25 := ⟨Tryd.f25, _, fun i => ([[], [0]] : List (List Nat)).getD i [], Tryd.func25, rfl, by kernel_rfl, by kernel_rfl, by kernel_rfl, by kernel_rfl⟩
def fnList : List (Nat × MFn) := [(3, fn3), (8, fn8), (10, fn10), (11, fn11), (12, fn12), (14, fn14), (15, fn15), (26, fn26), (27, fn27), (29, fn29), (25, fn25)]
def glList : List (Nat × List Value) := glGeo
def Cx : Ctx := ⟨⟨lookL tyList, lookL glList⟩, lookL fnList, xGeo⟩
theorem CxOk : CtxOk Tryd.prog Cx := ctxOk_of (by kernel_rfl) (by
  unfold tyList
  simp only [List.forall_mem_cons, List.not_mem_nil, false_implies, implies_true, and_true]
  exact ⟨tyOk3, tyOk4, tyOk5, tyOk23, tyOk27, tyOk28, tyOk32, tyOk37, tyOk39, tyOk40, tyOk42⟩) (by
  unfold fnList
  simp only [List.forall_mem_cons, List.not_mem_nil, false_implies, implies_true, and_true]
  exact ⟨fnOk3, fnOk8, fnOk10, fnOk11, fnOk12, fnOk14, fnOk15, fnOk26, fnOk27, fnOk29, fnOk25⟩) (xGeo_ok rfl)
theorem CxT3 : Cx.T 3 = some ty3 := by rfl
theorem CxT4 : Cx.T 4 = some ty4 := by rfl
theorem CxT5 : Cx.T 5 = some ty5 := by rfl
theorem CxT23 : Cx.T 23 = some ty23 := by rfl
theorem CxT27 : Cx.T 27 = some ty27 := by rfl
theorem CxT28 : Cx.T 28 = some ty28 := by rfl
theorem CxT32 : Cx.T 32 = some ty32 := by rfl
theorem CxT37 : Cx.T 37 = some ty37 := by rfl
theorem CxT39 : Cx.T 39 = some ty39 := by rfl
theorem CxT40 : Cx.T 40 = some ty40 := by rfl
theorem CxT42 : Cx.T 42 = some ty42 := by rfl
theorem CxB3 : Cx.B 3 = some fn3 := by rfl
theorem CxB8 : Cx.B 8 = some fn8 := by rfl
theorem CxB10 : Cx.B 10 = some fn10 := by rfl
theorem CxB11 : Cx.B 11 = some fn11 := by rfl
theorem CxB12 : Cx.B 12 = some fn12 := by rfl
theorem CxB14 : Cx.B 14 = some fn14 := by rfl
theorem CxB15 : Cx.B 15 = some fn15 := by rfl
theorem CxB26 : Cx.B 26 = some fn26 := by rfl
theorem CxB27 : Cx.B 27 = some fn27 := by rfl
theorem CxB29 : Cx.B 29 = some fn29 := by rfl
theorem CxB25 : Cx.B 25 = some fn25 := by rfl
theorem CxP3 : isPass Cx 3 = false := by rfl
theorem CxP8 : isPass Cx 8 = false := by rfl
theorem CxP10 : isPass Cx 10 = false := by rfl
theorem CxP11 : isPass Cx 11 = false := by rfl
theorem CxP12 : isPass Cx 12 = false := by rfl
theorem CxP14 : isPass Cx 14 = false := by rfl
theorem CxP15 : isPass Cx 15 = false := by rfl
theorem CxP26 : isPass Cx 26 = false := by rfl
theorem CxP27 : isPass Cx 27 = false := by rfl
theorem CxP29 : isPass Cx 29 = false := by rfl
theorem CxP25 : isPass Cx 25 = false := by rfl
theorem CxG0 : Cx.T.gl 0 = some ([.int .i64 4, .int .i64 2, .int .i64 4, .int .i64 4, .int .i64 4] : List Value) := by rfl
end Go.Proofs.YtolkajcgddiceaaDoor.Ev
