/- The evaluator's context: types and bodies, and that they are the program's. Printed by wip/ev/gen/ctx.py. -/
import Derived.Test.YtkpolehpdgnliaaE22
import Derived.Test.YtkpolehpdgnliaaChecked
set_option linter.unusedSimpArgs false
set_option linter.unusedVariables false
namespace Go.Proofs.Ytkpolehpdgnliaa.Ev
open Go Go.RowKit
set_option maxRecDepth 100000

def ty3 : Ty := ⟨(.int .i64), 1, 8, [(.int .i64 0)], true⟩
theorem tyOk3 : tyOf Try.prog 3 = some ty3 := by kernel_rfl
def ty4 : Ty := ⟨.bool, 1, 1, [(.bool false)], true⟩
theorem tyOk4 : tyOf Try.prog 4 = some ty4 := by kernel_rfl
def ty5 : Ty := ⟨(.int .u8), 1, 1, [(.int .u8 0)], true⟩
theorem tyOk5 : tyOf Try.prog 5 = some ty5 := by kernel_rfl
def ty23 : Ty := ⟨(.struct [(4, 0, true), (5, 1, true)]), 2, 2, [(.bool false), (.int .u8 0)], true⟩
theorem tyOk23 : tyOf Try.prog 23 = some ty23 := by kernel_rfl
def ty24 : Ty := ⟨(.array 8 5), 8, 8, [(.int .u8 0), (.int .u8 0), (.int .u8 0), (.int .u8 0), (.int .u8 0), (.int .u8 0), (.int .u8 0), (.int .u8 0)], true⟩
theorem tyOk24 : tyOf Try.prog 24 = some ty24 := by kernel_rfl
def ty25 : Ty := ⟨(.slice 59), 1, 24, [(.slice none 0 0)], true⟩
theorem tyOk25 : tyOf Try.prog 25 = some ty25 := by kernel_rfl
def ty27 : Ty := ⟨(.struct [(5, 0, true), (24, 1, true), (25, 9, true), (4, 10, true), (4, 11, true)]), 12, 48, [(.int .u8 0), (.int .u8 0), (.int .u8 0), (.int .u8 0), (.int .u8 0), (.int .u8 0), (.int .u8 0), (.int .u8 0), (.int .u8 0), (.slice none 0 0), (.bool false), (.bool false)], true⟩
theorem tyOk27 : tyOf Try.prog 27 = some ty27 := by kernel_rfl
def ty33 : Ty := ⟨(.slice 38), 1, 24, [(.slice none 0 0)], true⟩
theorem tyOk33 : tyOf Try.prog 33 = some ty33 := by kernel_rfl
def ty35 : Ty := ⟨(.struct [(5, 0, true), (5, 1, true), (5, 2, true), (3, 3, true), (4, 4, true)]), 5, 24, [(.int .u8 0), (.int .u8 0), (.int .u8 0), (.int .i64 0), (.bool false)], true⟩
theorem tyOk35 : tyOf Try.prog 35 = some ty35 := by kernel_rfl
def ty38 : Ty := ⟨(.struct [(5, 0, true), (5, 1, true), (5, 2, true), (23, 3, true), (23, 5, true), (5, 7, true), (5, 8, true), (5, 9, true)]), 10, 10, [(.int .u8 0), (.int .u8 0), (.int .u8 0), (.bool false), (.int .u8 0), (.bool false), (.int .u8 0), (.int .u8 0), (.int .u8 0), (.int .u8 0)], true⟩
theorem tyOk38 : tyOf Try.prog 38 = some ty38 := by kernel_rfl
def ty43 : Ty := ⟨(.array 4 5), 4, 4, [(.int .u8 0), (.int .u8 0), (.int .u8 0), (.int .u8 0)], true⟩
theorem tyOk43 : tyOf Try.prog 43 = some ty43 := by kernel_rfl
def ty44 : Ty := ⟨(.slice 4), 1, 24, [(.slice none 0 0)], true⟩
theorem tyOk44 : tyOf Try.prog 44 = some ty44 := by kernel_rfl
def ty50 : Ty := ⟨(.ptr 43), 1, 8, [(.pointer none)], true⟩
theorem tyOk50 : tyOf Try.prog 50 = some ty50 := by kernel_rfl
def ty55 : Ty := ⟨(.struct [(5, 0, true), (5, 1, true), (5, 2, true), (5, 3, true)]), 4, 4, [(.int .u8 0), (.int .u8 0), (.int .u8 0), (.int .u8 0)], true⟩
theorem tyOk55 : tyOf Try.prog 55 = some ty55 := by kernel_rfl
def ty59 : Ty := ⟨(.struct [(5, 0, true), (5, 1, true)]), 2, 2, [(.int .u8 0), (.int .u8 0)], true⟩
theorem tyOk59 : tyOf Try.prog 59 = some ty59 := by kernel_rfl
def ty68 : Ty := ⟨(.struct [(27, 0, true), (33, 12, true), (38, 13, true)]), 23, 88, [(.int .u8 0), (.int .u8 0), (.int .u8 0), (.int .u8 0), (.int .u8 0), (.int .u8 0), (.int .u8 0), (.int .u8 0), (.int .u8 0), (.slice none 0 0), (.bool false), (.bool false), (.slice none 0 0), (.int .u8 0), (.int .u8 0), (.int .u8 0), (.bool false), (.int .u8 0), (.bool false), (.int .u8 0), (.int .u8 0), (.int .u8 0), (.int .u8 0)], true⟩
theorem tyOk68 : tyOf Try.prog 68 = some ty68 := by kernel_rfl
def ty69 : Ty := ⟨.func, 1, 8, [.nilFunc], true⟩
theorem tyOk69 : tyOf Try.prog 69 = some ty69 := by kernel_rfl
def ty71 : Ty := ⟨(.ptr 68), 1, 8, [(.pointer none)], true⟩
theorem tyOk71 : tyOf Try.prog 71 = some ty71 := by kernel_rfl
def ty72 : Ty := ⟨(.map 5 69), 1, 8, [(.map none)], true⟩
theorem tyOk72 : tyOf Try.prog 72 = some ty72 := by kernel_rfl
def ty77 : Ty := ⟨(.struct [(5, 0, true), (55, 1, true), (5, 5, true), (5, 6, true)]), 7, 7, [(.int .u8 0), (.int .u8 0), (.int .u8 0), (.int .u8 0), (.int .u8 0), (.int .u8 0), (.int .u8 0)], true⟩
theorem tyOk77 : tyOf Try.prog 77 = some ty77 := by kernel_rfl
def passing : List Nat := [29, 30, 31, 32, 33, 34, 35, 38, 37, 22]
def tyList : List (Nat × Ty) := [(3, ty3), (4, ty4), (5, ty5), (23, ty23), (24, ty24), (25, ty25), (27, ty27), (33, ty33), (35, ty35), (38, ty38), (43, ty43), (44, ty44), (50, ty50), (55, ty55), (59, ty59), (68, ty68), (69, ty69), (71, ty71), (72, ty72), (77, ty77)]
/- seisin/seisinlaw30.CoreCalcs -/
def m3_l0 : M :=
    .seq (.seq (.reg [0, 1, 2, 8, 11, 12] [⟨(some 15), .move (.tmp 12), none⟩,
      ⟨(some 16), .binOp .lss 5 (.tmp 15) (.const (.int .u8 8)) 5, none⟩] 0)
    (.cond (.tmp 16) (.skip)
      (.exit 0)))
    (.seq (.block 1 (.seq (.reg [0, 1, 2, 8, 11, 12] [⟨(some 19), .move (.tmp 12), none⟩,
       ⟨(some 20), .move (.tmp 1), none⟩,
       ⟨(some 21), .move (.tmp 2), none⟩,
       ⟨(some 22), .call ⟨.value (.func 8), #[(.tmp 19), (.tmp 20), (.tmp 21)], #[5, 5, 5]⟩, none⟩,
       ⟨(some 23), .move (.tmp 12), none⟩,
       ⟨(some 24), .move (.tmp 1), none⟩,
       ⟨(some 25), .move (.tmp 2), none⟩,
       ⟨(some 26), .call ⟨.value (.func 9), #[(.tmp 23), (.tmp 24), (.tmp 25)], #[5, 5, 5]⟩, none⟩,
       ⟨(some 27), .binOp .neq 5 (.tmp 22) (.tmp 26) 5, none⟩,
       ⟨(some 28), .move (.tmp 27), none⟩,
       ⟨(some 29), .move (.tmp 12), (some (28, false))⟩,
       ⟨(some 30), .move (.tmp 1), (some (28, false))⟩,
       ⟨(some 31), .move (.tmp 2), (some (28, false))⟩,
       ⟨(some 32), .call ⟨.value (.func 10), #[(.tmp 29), (.tmp 30), (.tmp 31)], #[5, 5, 5]⟩, (some (28, false))⟩,
       ⟨(some 33), .move (.tmp 12), (some (28, false))⟩,
       ⟨(some 34), .move (.tmp 1), (some (28, false))⟩,
       ⟨(some 35), .move (.tmp 2), (some (28, false))⟩,
       ⟨(some 36), .call ⟨.value (.func 11), #[(.tmp 33), (.tmp 34), (.tmp 35)], #[5, 5, 5]⟩, (some (28, false))⟩,
       ⟨(some 37), .binOp .neq 4 (.tmp 32) (.tmp 36) 4, (some (28, false))⟩,
       ⟨(some 38), .pick (.tmp 28) (.const (.bool true)) (.tmp 37), none⟩] 0)
     (.cond (.tmp 38) (.seq (.reg [] [⟨(some 10), .assign (.const (.bool false)), none⟩] 0)
       (.ret))
       (.skip))))
    (.reg [0, 1, 2, 8, 11, 12] [⟨(some 17), .move (.tmp 12), none⟩,
      ⟨(some 18), .binOp .add 5 (.tmp 17) (.const (.int .u8 1)) 5, none⟩,
      ⟨(some 12), .assign (.tmp 18), none⟩] 0))
theorem u3_l0 {C : Ctx} {k : List It} {st : St} {Q : Ex → St → Prop} : RunK C (.code m3_l0 :: k) st Q ↔ RunK C (.code (.seq (.seq (.reg [0, 1, 2, 8, 11, 12] [⟨(some 15), .move (.tmp 12), none⟩,
      ⟨(some 16), .binOp .lss 5 (.tmp 15) (.const (.int .u8 8)) 5, none⟩] 0)
    (.cond (.tmp 16) (.skip)
      (.exit 0)))
    (.seq (.block 1 (.seq (.reg [0, 1, 2, 8, 11, 12] [⟨(some 19), .move (.tmp 12), none⟩,
       ⟨(some 20), .move (.tmp 1), none⟩,
       ⟨(some 21), .move (.tmp 2), none⟩,
       ⟨(some 22), .call ⟨.value (.func 8), #[(.tmp 19), (.tmp 20), (.tmp 21)], #[5, 5, 5]⟩, none⟩,
       ⟨(some 23), .move (.tmp 12), none⟩,
       ⟨(some 24), .move (.tmp 1), none⟩,
       ⟨(some 25), .move (.tmp 2), none⟩,
       ⟨(some 26), .call ⟨.value (.func 9), #[(.tmp 23), (.tmp 24), (.tmp 25)], #[5, 5, 5]⟩, none⟩,
       ⟨(some 27), .binOp .neq 5 (.tmp 22) (.tmp 26) 5, none⟩,
       ⟨(some 28), .move (.tmp 27), none⟩,
       ⟨(some 29), .move (.tmp 12), (some (28, false))⟩,
       ⟨(some 30), .move (.tmp 1), (some (28, false))⟩,
       ⟨(some 31), .move (.tmp 2), (some (28, false))⟩,
       ⟨(some 32), .call ⟨.value (.func 10), #[(.tmp 29), (.tmp 30), (.tmp 31)], #[5, 5, 5]⟩, (some (28, false))⟩,
       ⟨(some 33), .move (.tmp 12), (some (28, false))⟩,
       ⟨(some 34), .move (.tmp 1), (some (28, false))⟩,
       ⟨(some 35), .move (.tmp 2), (some (28, false))⟩,
       ⟨(some 36), .call ⟨.value (.func 11), #[(.tmp 33), (.tmp 34), (.tmp 35)], #[5, 5, 5]⟩, (some (28, false))⟩,
       ⟨(some 37), .binOp .neq 4 (.tmp 32) (.tmp 36) 4, (some (28, false))⟩,
       ⟨(some 38), .pick (.tmp 28) (.const (.bool true)) (.tmp 37), none⟩] 0)
     (.cond (.tmp 38) (.seq (.reg [] [⟨(some 10), .assign (.const (.bool false)), none⟩] 0)
       (.ret))
       (.skip))))
    (.reg [0, 1, 2, 8, 11, 12] [⟨(some 17), .move (.tmp 12), none⟩,
      ⟨(some 18), .binOp .add 5 (.tmp 17) (.const (.int .u8 1)) 5, none⟩,
      ⟨(some 12), .assign (.tmp 18), none⟩] 0))) :: k) st Q := Iff.rfl
def m3 : M :=
  .seq (.reg [0, 1, 2, 3, 4] [⟨(some 8), .box 23 (.tmp 3), none⟩,
      ⟨(some 9), .box 24 (.tmp 4), none⟩,
      ⟨(some 10), .assign (.const (.bool false)), none⟩] 0)
    (.seq (.reg [0, 1, 2, 8, 9] [⟨(some 13), .load 24 (.tmp 9), none⟩,
      ⟨(some 14), .build 27 #[(1, (.tmp 13))], none⟩,
      ⟨(some 11), .alloc 27, none⟩,
      ⟨none, .store 27 (.tmp 11) (.tmp 14), none⟩] 0)
    (.seq (.seq (.reg [0, 1, 2, 8, 11] [⟨(some 12), .assign (.const (.int .u8 0)), none⟩] 0)
    (.block 0 (.loop (m3_l0))))
    (.seq (.reg [0, 1, 2, 8, 11] [⟨(some 39), .move (.tmp 0), none⟩,
      ⟨(some 40), .move (.tmp 1), none⟩,
      ⟨(some 41), .move (.tmp 2), none⟩,
      ⟨(some 42), .call ⟨.value (.func 8), #[(.tmp 39), (.tmp 40), (.tmp 41)], #[5, 5, 5]⟩, none⟩,
      ⟨(some 43), .move (.tmp 0), none⟩,
      ⟨(some 44), .move (.tmp 1), none⟩,
      ⟨(some 45), .move (.tmp 2), none⟩,
      ⟨(some 46), .call ⟨.value (.func 9), #[(.tmp 43), (.tmp 44), (.tmp 45)], #[5, 5, 5]⟩, none⟩,
      ⟨(some 47), .binOp .eql 5 (.tmp 42) (.tmp 46) 5, none⟩,
      ⟨(some 48), .move (.tmp 47), none⟩,
      ⟨(some 49), .move (.tmp 0), (some (48, true))⟩,
      ⟨(some 50), .move (.tmp 1), (some (48, true))⟩,
      ⟨(some 51), .move (.tmp 2), (some (48, true))⟩,
      ⟨(some 52), .call ⟨.value (.func 10), #[(.tmp 49), (.tmp 50), (.tmp 51)], #[5, 5, 5]⟩, (some (48, true))⟩,
      ⟨(some 53), .move (.tmp 0), (some (48, true))⟩,
      ⟨(some 54), .move (.tmp 1), (some (48, true))⟩,
      ⟨(some 55), .move (.tmp 2), (some (48, true))⟩,
      ⟨(some 56), .call ⟨.value (.func 11), #[(.tmp 53), (.tmp 54), (.tmp 55)], #[5, 5, 5]⟩, (some (48, true))⟩,
      ⟨(some 57), .binOp .eql 4 (.tmp 52) (.tmp 56) 4, (some (48, true))⟩,
      ⟨(some 58), .pick (.tmp 48) (.tmp 57) (.const (.bool false)), none⟩,
      ⟨(some 59), .move (.tmp 58), none⟩,
      ⟨(some 60), .load 27 (.tmp 11), (some (59, true))⟩,
      ⟨(some 61), .load 23 (.tmp 8), (some (59, true))⟩,
      ⟨(some 62), .call ⟨.value (.func 12), #[(.tmp 60), (.tmp 61)], #[27, 23]⟩, (some (59, true))⟩,
      ⟨(some 63), .load 27 (.tmp 11), (some (59, true))⟩,
      ⟨(some 64), .load 23 (.tmp 8), (some (59, true))⟩,
      ⟨(some 65), .call ⟨.value (.func 13), #[(.tmp 63), (.tmp 64)], #[27, 23]⟩, (some (59, true))⟩,
      ⟨(some 66), .binOp .eql 5 (.tmp 62) (.tmp 65) 5, (some (59, true))⟩,
      ⟨(some 67), .pick (.tmp 59) (.tmp 66) (.const (.bool false)), none⟩,
      ⟨(some 68), .move (.tmp 67), none⟩,
      ⟨(some 69), .call ⟨.value (.func 14), #[], #[]⟩, (some (68, true))⟩,
      ⟨(some 70), .pick (.tmp 68) (.tmp 69) (.const (.bool false)), none⟩,
      ⟨(some 10), .assign (.tmp 70), none⟩] 26)
    (.ret))))
def fn3 : MFn := ⟨71, [.tmp 10], m3, .shut⟩
theorem fnOk3 : FnOk Try.prog 3 fn3 := ⟨Try.f3, _, fun i => bif Nat.beq i 1000000 then passing else ([[0, 1, 2, 3, 4], [0, 1, 2, 8, 9], [0, 1, 2, 8, 11], [0, 1, 2, 8, 11, 12], [0, 1, 2, 8, 11, 12], [0, 1, 2, 8, 11, 12], [], [0, 1, 2, 8, 11]] : List (List Nat)).getD i [], Try.func3, rfl, by kernel_rfl, by kernel_rfl, by kernel_rfl, by kernel_rfl⟩
/- seisin/seisinlaw30.CoreStuck -/
def m4_l0 : M :=
    .seq (.seq (.reg [5, 9, 10, 11] [⟨(some 100), .move (.tmp 11), none⟩,
      ⟨(some 101), .binOp .lss 3 (.tmp 100) (.const (.int .i64 8)) 3, none⟩] 0)
    (.cond (.tmp 101) (.skip)
      (.exit 0)))
    (.seq (.block 1 (.seq (.reg [5, 9, 10, 11] [⟨(some 104), .move (.tmp 11), none⟩,
       ⟨(some 105), .fieldAddr 27 (.tmp 5) 1, none⟩,
       ⟨(some 106), .indexAddr 24 (.tmp 105) (.tmp 104), none⟩,
       ⟨(some 107), .load 5 (.tmp 106), none⟩,
       ⟨(some 108), .move (.tmp 11), none⟩,
       ⟨(some 109), .fieldAddr 27 (.tmp 9) 1, none⟩,
       ⟨(some 110), .indexAddr 24 (.tmp 109) (.tmp 108), none⟩,
       ⟨(some 111), .load 5 (.tmp 110), none⟩,
       ⟨(some 112), .binOp .neq 5 (.tmp 107) (.tmp 111) 5, none⟩] 8)
     (.cond (.tmp 112) (.reg [5, 9, 10, 11] [⟨(some 113), .move (.tmp 10), none⟩,
         ⟨(some 114), .binOp .add 3 (.tmp 113) (.const (.int .i64 1)) 3, none⟩,
         ⟨(some 10), .assign (.tmp 114), none⟩] 0)
       (.skip))))
    (.reg [5, 9, 10, 11] [⟨(some 102), .move (.tmp 11), none⟩,
      ⟨(some 103), .binOp .add 3 (.tmp 102) (.const (.int .i64 1)) 3, none⟩,
      ⟨(some 11), .assign (.tmp 103), none⟩] 0))
theorem u4_l0 {C : Ctx} {k : List It} {st : St} {Q : Ex → St → Prop} : RunK C (.code m4_l0 :: k) st Q ↔ RunK C (.code (.seq (.seq (.reg [5, 9, 10, 11] [⟨(some 100), .move (.tmp 11), none⟩,
      ⟨(some 101), .binOp .lss 3 (.tmp 100) (.const (.int .i64 8)) 3, none⟩] 0)
    (.cond (.tmp 101) (.skip)
      (.exit 0)))
    (.seq (.block 1 (.seq (.reg [5, 9, 10, 11] [⟨(some 104), .move (.tmp 11), none⟩,
       ⟨(some 105), .fieldAddr 27 (.tmp 5) 1, none⟩,
       ⟨(some 106), .indexAddr 24 (.tmp 105) (.tmp 104), none⟩,
       ⟨(some 107), .load 5 (.tmp 106), none⟩,
       ⟨(some 108), .move (.tmp 11), none⟩,
       ⟨(some 109), .fieldAddr 27 (.tmp 9) 1, none⟩,
       ⟨(some 110), .indexAddr 24 (.tmp 109) (.tmp 108), none⟩,
       ⟨(some 111), .load 5 (.tmp 110), none⟩,
       ⟨(some 112), .binOp .neq 5 (.tmp 107) (.tmp 111) 5, none⟩] 8)
     (.cond (.tmp 112) (.reg [5, 9, 10, 11] [⟨(some 113), .move (.tmp 10), none⟩,
         ⟨(some 114), .binOp .add 3 (.tmp 113) (.const (.int .i64 1)) 3, none⟩,
         ⟨(some 10), .assign (.tmp 114), none⟩] 0)
       (.skip))))
    (.reg [5, 9, 10, 11] [⟨(some 102), .move (.tmp 11), none⟩,
      ⟨(some 103), .binOp .add 3 (.tmp 102) (.const (.int .i64 1)) 3, none⟩,
      ⟨(some 11), .assign (.tmp 103), none⟩] 0))) :: k) st Q := Iff.rfl
def m4 : M :=
  .seq (.reg [0, 1, 2] [⟨(some 4), .box 35 (.tmp 1), none⟩,
      ⟨(some 5), .box 27 (.tmp 2), none⟩,
      ⟨(some 6), .assign (.const (.bool false)), none⟩] 0)
    (.seq (.seq (.reg [0, 4, 5] [⟨(some 12), .call ⟨.value (.func 14), #[], #[]⟩, none⟩,
      ⟨(some 13), .unOp .not 4 (.tmp 12), none⟩] 0)
    (.cond (.tmp 13) (.seq (.reg [] [⟨(some 6), .assign (.const (.bool false)), none⟩] 0)
      (.ret))
      (.skip)))
    (.seq (.seq (.reg [0, 4, 5] [⟨(some 14), .move (.tmp 0), none⟩,
      ⟨(some 15), .call ⟨.builtin .len, #[(.tmp 14)], #[33]⟩, none⟩,
      ⟨(some 16), .fieldAddr 27 (.tmp 5) 2, none⟩,
      ⟨(some 17), .load 25 (.tmp 16), none⟩,
      ⟨(some 18), .call ⟨.builtin .len, #[(.tmp 17)], #[25]⟩, none⟩,
      ⟨(some 19), .binOp .add 3 (.tmp 15) (.tmp 18) 3, none⟩,
      ⟨(some 20), .binOp .gtr 3 (.tmp 19) (.const (.int .i64 300)) 3, none⟩] 0)
    (.cond (.tmp 20) (.seq (.reg [] [⟨(some 6), .assign (.const (.bool true)), none⟩] 0)
      (.ret))
      (.skip)))
    (.seq (.reg [0, 4, 5] [⟨(some 21), .move (.tmp 0), none⟩,
      ⟨(some 22), .load 35 (.tmp 4), none⟩,
      ⟨(some 23), .load 27 (.tmp 5), none⟩,
      ⟨(some 24), .call ⟨.value (.func 15), #[(.tmp 21), (.tmp 22), (.tmp 23)], #[33, 35, 27]⟩, none⟩,
      ⟨(some 7), .assign (.tmp 24), none⟩] 0)
    (.seq (.reg [0, 4, 5, 7] [⟨(some 25), .fieldAddr 27 (.tmp 5) 0, none⟩,
      ⟨(some 26), .load 5 (.tmp 25), none⟩,
      ⟨(some 27), .convert 5 3 (.tmp 26), none⟩,
      ⟨(some 28), .move (.tmp 0), none⟩,
      ⟨(some 29), .call ⟨.builtin .len, #[(.tmp 28)], #[33]⟩, none⟩,
      ⟨(some 30), .binOp .lss 3 (.tmp 27) (.tmp 29) 3, none⟩,
      ⟨(some 31), .move (.tmp 30), none⟩,
      ⟨(some 32), .move (.tmp 0), (some (31, true))⟩,
      ⟨(some 33), .fieldAddr 27 (.tmp 5) 0, (some (31, true))⟩,
      ⟨(some 34), .load 5 (.tmp 33), (some (31, true))⟩,
      ⟨(some 35), .indexAddr 33 (.tmp 32) (.tmp 34), (some (31, true))⟩,
      ⟨(some 36), .fieldAddr 38 (.tmp 35) 0, (some (31, true))⟩,
      ⟨(some 37), .load 5 (.tmp 36), (some (31, true))⟩,
      ⟨(some 38), .binOp .lss 5 (.tmp 37) (.const (.int .u8 1)) 5, (some (31, true))⟩,
      ⟨(some 39), .move (.tmp 38), (some (31, true))⟩,
      ⟨(some 40), .move (.tmp 0), (some (39, false))⟩,
      ⟨(some 41), .fieldAddr 27 (.tmp 5) 0, (some (39, false))⟩,
      ⟨(some 42), .load 5 (.tmp 41), (some (39, false))⟩,
      ⟨(some 43), .indexAddr 33 (.tmp 40) (.tmp 42), (some (39, false))⟩,
      ⟨(some 44), .fieldAddr 38 (.tmp 43) 0, (some (39, false))⟩,
      ⟨(some 45), .load 5 (.tmp 44), (some (39, false))⟩,
      ⟨(some 46), .binOp .gtr 5 (.tmp 45) (.const (.int .u8 8)) 5, (some (39, false))⟩,
      ⟨(some 47), .pick (.tmp 39) (.const (.bool true)) (.tmp 46), (some (31, true))⟩,
      ⟨(some 48), .pick (.tmp 31) (.tmp 47) (.const (.bool false)), none⟩,
      ⟨(some 8), .assign (.tmp 48), none⟩] 0)
    (.seq (.seq (.reg [0, 4, 5, 7, 8] [⟨(some 49), .move (.tmp 7), none⟩,
      ⟨(some 50), .binOp .eql 5 (.tmp 49) (.const (.int .u8 4)) 5, none⟩,
      ⟨(some 51), .move (.tmp 50), none⟩,
      ⟨(some 52), .fieldAddr 27 (.tmp 5) 3, (some (51, true))⟩,
      ⟨(some 53), .load 4 (.tmp 52), (some (51, true))⟩,
      ⟨(some 54), .unOp .not 4 (.tmp 53), (some (51, true))⟩,
      ⟨(some 55), .pick (.tmp 51) (.tmp 54) (.const (.bool false)), none⟩,
      ⟨(some 56), .move (.tmp 55), none⟩,
      ⟨(some 57), .fieldAddr 27 (.tmp 5) 4, (some (56, true))⟩,
      ⟨(some 58), .load 4 (.tmp 57), (some (56, true))⟩,
      ⟨(some 59), .unOp .not 4 (.tmp 58), (some (56, true))⟩,
      ⟨(some 60), .pick (.tmp 56) (.tmp 59) (.const (.bool false)), none⟩,
      ⟨(some 61), .move (.tmp 60), none⟩,
      ⟨(some 62), .fieldAddr 27 (.tmp 5) 2, (some (61, true))⟩,
      ⟨(some 63), .load 25 (.tmp 62), (some (61, true))⟩,
      ⟨(some 64), .call ⟨.builtin .len, #[(.tmp 63)], #[25]⟩, (some (61, true))⟩,
      ⟨(some 65), .binOp .eql 3 (.tmp 64) (.const (.int .i64 0)) 3, (some (61, true))⟩,
      ⟨(some 66), .pick (.tmp 61) (.tmp 65) (.const (.bool false)), none⟩,
      ⟨(some 67), .move (.tmp 66), none⟩,
      ⟨(some 68), .move (.tmp 8), (some (67, true))⟩,
      ⟨(some 69), .unOp .not 4 (.tmp 68), (some (67, true))⟩,
      ⟨(some 70), .pick (.tmp 67) (.tmp 69) (.const (.bool false)), none⟩,
      ⟨(some 71), .move (.tmp 70), none⟩,
      ⟨(some 72), .move (.tmp 7), (some (71, false))⟩,
      ⟨(some 73), .binOp .lss 5 (.tmp 72) (.const (.int .u8 1)) 5, (some (71, false))⟩,
      ⟨(some 74), .pick (.tmp 71) (.const (.bool true)) (.tmp 73), none⟩,
      ⟨(some 75), .move (.tmp 74), none⟩,
      ⟨(some 76), .move (.tmp 7), (some (75, false))⟩,
      ⟨(some 77), .binOp .gtr 5 (.tmp 76) (.const (.int .u8 4)) 5, (some (75, false))⟩,
      ⟨(some 78), .pick (.tmp 75) (.const (.bool true)) (.tmp 77), none⟩,
      ⟨(some 79), .move (.tmp 78), none⟩,
      ⟨(some 80), .move (.tmp 7), (some (79, false))⟩,
      ⟨(some 81), .binOp .eql 5 (.tmp 80) (.const (.int .u8 1)) 5, (some (79, false))⟩,
      ⟨(some 82), .move (.tmp 81), (some (79, false))⟩,
      ⟨(some 83), .fieldAddr 27 (.tmp 5) 0, (some (82, true))⟩,
      ⟨(some 84), .load 5 (.tmp 83), (some (82, true))⟩,
      ⟨(some 85), .convert 5 3 (.tmp 84), (some (82, true))⟩,
      ⟨(some 86), .move (.tmp 0), (some (82, true))⟩,
      ⟨(some 87), .call ⟨.builtin .len, #[(.tmp 86)], #[33]⟩, (some (82, true))⟩,
      ⟨(some 88), .binOp .lss 3 (.tmp 85) (.tmp 87) 3, (some (82, true))⟩,
      ⟨(some 89), .pick (.tmp 82) (.tmp 88) (.const (.bool false)), (some (79, false))⟩,
      ⟨(some 90), .pick (.tmp 79) (.const (.bool true)) (.tmp 89), none⟩] 0)
    (.cond (.tmp 90) (.seq (.reg [] [⟨(some 6), .assign (.const (.bool false)), none⟩] 0)
      (.ret))
      (.skip)))
    (.seq (.reg [0, 4, 5, 7] [⟨(some 91), .move (.tmp 0), none⟩,
      ⟨(some 92), .load 35 (.tmp 4), none⟩,
      ⟨(some 93), .load 27 (.tmp 5), none⟩,
      ⟨(some 94), .call ⟨.value (.func 16), #[(.tmp 91), (.tmp 92), (.tmp 93)], #[33, 35, 27]⟩, none⟩,
      ⟨(some 9), .alloc 27, none⟩,
      ⟨none, .store 27 (.tmp 9) (.tmp 94), none⟩] 0)
    (.seq (.seq (.reg [5, 7, 9] [⟨(some 95), .move (.tmp 7), none⟩,
      ⟨(some 96), .binOp .neq 5 (.tmp 95) (.const (.int .u8 2)) 5, none⟩] 0)
    (.cond (.tmp 96) (.seq (.reg [5, 9] [⟨(some 97), .load 27 (.tmp 5), none⟩,
        ⟨(some 98), .load 27 (.tmp 9), none⟩,
        ⟨(some 99), .call ⟨.value (.func 17), #[(.tmp 97), (.tmp 98)], #[27, 27]⟩, none⟩,
        ⟨(some 6), .assign (.tmp 99), none⟩] 0)
      (.ret))
      (.skip)))
    (.seq (.reg [5, 9] [⟨(some 10), .assign (.const (.int .i64 0)), none⟩] 0)
    (.seq (.seq (.reg [5, 9, 10] [⟨(some 11), .assign (.const (.int .i64 0)), none⟩] 0)
    (.block 0 (.loop (m4_l0))))
    (.seq (.reg [5, 9, 10] [⟨(some 115), .move (.tmp 10), none⟩,
      ⟨(some 116), .binOp .leq 3 (.tmp 115) (.const (.int .i64 1)) 3, none⟩,
      ⟨(some 117), .move (.tmp 116), none⟩,
      ⟨(some 118), .fieldAddr 27 (.tmp 9) 2, (some (117, true))⟩,
      ⟨(some 119), .load 25 (.tmp 118), (some (117, true))⟩,
      ⟨(some 120), .call ⟨.builtin .len, #[(.tmp 119)], #[25]⟩, (some (117, true))⟩,
      ⟨(some 121), .fieldAddr 27 (.tmp 5) 2, (some (117, true))⟩,
      ⟨(some 122), .load 25 (.tmp 121), (some (117, true))⟩,
      ⟨(some 123), .call ⟨.builtin .len, #[(.tmp 122)], #[25]⟩, (some (117, true))⟩,
      ⟨(some 124), .binOp .sub 3 (.tmp 120) (.tmp 123) 3, (some (117, true))⟩,
      ⟨(some 125), .binOp .geq 3 (.tmp 124) (.const (.int .i64 0)) 3, (some (117, true))⟩,
      ⟨(some 126), .pick (.tmp 117) (.tmp 125) (.const (.bool false)), none⟩,
      ⟨(some 127), .move (.tmp 126), none⟩,
      ⟨(some 128), .fieldAddr 27 (.tmp 9) 2, (some (127, true))⟩,
      ⟨(some 129), .load 25 (.tmp 128), (some (127, true))⟩,
      ⟨(some 130), .call ⟨.builtin .len, #[(.tmp 129)], #[25]⟩, (some (127, true))⟩,
      ⟨(some 131), .fieldAddr 27 (.tmp 5) 2, (some (127, true))⟩,
      ⟨(some 132), .load 25 (.tmp 131), (some (127, true))⟩,
      ⟨(some 133), .call ⟨.builtin .len, #[(.tmp 132)], #[25]⟩, (some (127, true))⟩,
      ⟨(some 134), .binOp .sub 3 (.tmp 130) (.tmp 133) 3, (some (127, true))⟩,
      ⟨(some 135), .binOp .leq 3 (.tmp 134) (.const (.int .i64 1)) 3, (some (127, true))⟩,
      ⟨(some 136), .pick (.tmp 127) (.tmp 135) (.const (.bool false)), none⟩,
      ⟨(some 137), .move (.tmp 136), none⟩,
      ⟨(some 138), .fieldAddr 27 (.tmp 9) 2, (some (137, true))⟩,
      ⟨(some 139), .load 25 (.tmp 138), (some (137, true))⟩,
      ⟨(some 140), .fieldAddr 27 (.tmp 5) 2, (some (137, true))⟩,
      ⟨(some 141), .load 25 (.tmp 140), (some (137, true))⟩,
      ⟨(some 142), .call ⟨.builtin .len, #[(.tmp 141)], #[25]⟩, (some (137, true))⟩,
      ⟨(some 143), .slice 25 (.tmp 139) none (some (.tmp 142)) none, (some (137, true))⟩,
      ⟨(some 144), .fieldAddr 27 (.tmp 5) 2, (some (137, true))⟩,
      ⟨(some 145), .load 25 (.tmp 144), (some (137, true))⟩,
      ⟨(some 146), .call ⟨.value (.func 18), #[(.tmp 143), (.tmp 145)], #[25, 25]⟩, (some (137, true))⟩,
      ⟨(some 147), .pick (.tmp 137) (.tmp 146) (.const (.bool false)), none⟩,
      ⟨(some 148), .move (.tmp 147), none⟩,
      ⟨(some 149), .fieldAddr 27 (.tmp 9) 3, (some (148, true))⟩,
      ⟨(some 150), .load 4 (.tmp 149), (some (148, true))⟩,
      ⟨(some 151), .fieldAddr 27 (.tmp 5) 3, (some (148, true))⟩,
      ⟨(some 152), .load 4 (.tmp 151), (some (148, true))⟩,
      ⟨(some 153), .binOp .eql 4 (.tmp 150) (.tmp 152) 4, (some (148, true))⟩,
      ⟨(some 154), .pick (.tmp 148) (.tmp 153) (.const (.bool false)), none⟩,
      ⟨(some 155), .move (.tmp 154), none⟩,
      ⟨(some 156), .fieldAddr 27 (.tmp 9) 4, (some (155, true))⟩,
      ⟨(some 157), .load 4 (.tmp 156), (some (155, true))⟩,
      ⟨(some 158), .fieldAddr 27 (.tmp 5) 4, (some (155, true))⟩,
      ⟨(some 159), .load 4 (.tmp 158), (some (155, true))⟩,
      ⟨(some 160), .binOp .eql 4 (.tmp 157) (.tmp 159) 4, (some (155, true))⟩,
      ⟨(some 161), .pick (.tmp 155) (.tmp 160) (.const (.bool false)), none⟩,
      ⟨(some 162), .move (.tmp 161), none⟩,
      ⟨(some 163), .fieldAddr 27 (.tmp 9) 0, (some (162, true))⟩,
      ⟨(some 164), .load 5 (.tmp 163), (some (162, true))⟩,
      ⟨(some 165), .fieldAddr 27 (.tmp 5) 0, (some (162, true))⟩,
      ⟨(some 166), .load 5 (.tmp 165), (some (162, true))⟩,
      ⟨(some 167), .binOp .gtr 5 (.tmp 164) (.tmp 166) 5, (some (162, true))⟩,
      ⟨(some 168), .move (.tmp 167), (some (162, true))⟩,
      ⟨(some 169), .fieldAddr 27 (.tmp 5) 0, (some (168, false))⟩,
      ⟨(some 170), .load 5 (.tmp 169), (some (168, false))⟩,
      ⟨(some 171), .binOp .eql 5 (.tmp 170) (.const (.int .u8 255)) 5, (some (168, false))⟩,
      ⟨(some 172), .pick (.tmp 168) (.const (.bool true)) (.tmp 171), (some (162, true))⟩,
      ⟨(some 173), .pick (.tmp 162) (.tmp 172) (.const (.bool false)), none⟩,
      ⟨(some 6), .assign (.tmp 173), none⟩] 52)
    (.ret)))))))))))
def fn4 : MFn := ⟨174, [.tmp 6], m4, .shut⟩
theorem fnOk4 : FnOk Try.prog 4 fn4 := ⟨Try.f4, _, fun i => bif Nat.beq i 1000000 then passing else ([[0, 1, 2], [0, 4, 5], [], [0, 4, 5], [], [0, 4, 5], [0, 4, 5, 7], [0, 4, 5, 7, 8], [], [0, 4, 5, 7], [5, 7, 9], [5, 9], [5, 9], [5, 9, 10], [5, 9, 10, 11], [5, 9, 10, 11], [5, 9, 10, 11], [5, 9, 10, 11], [5, 9, 10]] : List (List Nat)).getD i [], Try.func4, rfl, by kernel_rfl, by kernel_rfl, by kernel_rfl, by kernel_rfl⟩
/- seisin/seisinlaw30.CoreAlone -/
def m5_l0 : M :=
    .seq (.seq (.reg [3, 6, 9, 10, 11, 12, 13] [⟨(some 27), .move (.tmp 13), none⟩,
      ⟨(some 28), .binOp .lss 3 (.tmp 27) (.const (.int .i64 200)) 3, none⟩] 0)
    (.cond (.tmp 28) (.skip)
      (.exit 0)))
    (.seq (.block 1 (.seq (.seq (.reg [3, 6, 9, 10, 11, 12, 13] [⟨(some 31), .fieldAddr 27 (.tmp 11) 2, none⟩,
       ⟨(some 32), .load 25 (.tmp 31), none⟩,
       ⟨(some 33), .call ⟨.builtin .len, #[(.tmp 32)], #[25]⟩, none⟩,
       ⟨(some 34), .fieldAddr 35 (.tmp 10) 3, none⟩,
       ⟨(some 35), .load 3 (.tmp 34), none⟩,
       ⟨(some 36), .binOp .gtr 3 (.tmp 33) (.tmp 35) 3, none⟩] 0)
     (.cond (.tmp 36) (.seq (.reg [] [⟨(some 8), .assign (.const (.bool false)), none⟩] 0)
       (.ret))
       (.skip)))
     (.seq (.reg [3, 6, 9, 10, 11, 12, 13] [⟨(some 38), .move (.tmp 9), none⟩,
       ⟨(some 39), .load 35 (.tmp 10), none⟩,
       ⟨(some 40), .load 27 (.tmp 11), none⟩,
       ⟨(some 41), .move (.tmp 13), none⟩,
       ⟨(some 42), .move (.tmp 3), none⟩,
       ⟨(some 43), .call ⟨.builtin .len, #[(.tmp 42)], #[44]⟩, none⟩,
       ⟨(some 44), .binOp .lss 3 (.tmp 41) (.tmp 43) 3, none⟩,
       ⟨(some 45), .move (.tmp 44), none⟩,
       ⟨(some 46), .move (.tmp 3), (some (45, true))⟩,
       ⟨(some 47), .move (.tmp 13), (some (45, true))⟩,
       ⟨(some 48), .indexAddr 44 (.tmp 46) (.tmp 47), (some (45, true))⟩,
       ⟨(some 49), .load 4 (.tmp 48), (some (45, true))⟩,
       ⟨(some 50), .pick (.tmp 45) (.tmp 49) (.const (.bool false)), none⟩,
       ⟨(some 51), .call ⟨.value (.func 22), #[(.tmp 38), (.tmp 39), (.tmp 40), (.tmp 12), (.tmp 50)], #[33, 35, 27, 50, 4]⟩, none⟩,
       ⟨(some 37), .move (.tmp 51), none⟩,
       ⟨(some 52), .extract (.tmp 37) 0, none⟩,
       ⟨(some 53), .extract (.tmp 37) 1, none⟩,
       ⟨(some 14), .alloc 27, none⟩,
       ⟨none, .store 27 (.tmp 14) (.tmp 52), none⟩,
       ⟨(some 15), .assign (.tmp 53), none⟩] 13)
     (.seq (.seq (.reg [3, 6, 9, 10, 11, 12, 13, 14, 15] [⟨(some 54), .move (.tmp 15), none⟩,
       ⟨(some 55), .unOp .not 4 (.tmp 54), none⟩] 0)
     (.cond (.tmp 55) (.exit 0)
       (.skip)))
     (.reg [3, 6, 9, 10, 11, 12, 13, 14] [⟨(some 56), .load 27 (.tmp 14), none⟩,
       ⟨none, .store 27 (.tmp 11) (.tmp 56), none⟩] 0)))))
    (.reg [3, 6, 9, 10, 11, 12, 13] [⟨(some 29), .move (.tmp 13), none⟩,
      ⟨(some 30), .binOp .add 3 (.tmp 29) (.const (.int .i64 1)) 3, none⟩,
      ⟨(some 13), .assign (.tmp 30), none⟩] 0))
theorem u5_l0 {C : Ctx} {k : List It} {st : St} {Q : Ex → St → Prop} : RunK C (.code m5_l0 :: k) st Q ↔ RunK C (.code (.seq (.seq (.reg [3, 6, 9, 10, 11, 12, 13] [⟨(some 27), .move (.tmp 13), none⟩,
      ⟨(some 28), .binOp .lss 3 (.tmp 27) (.const (.int .i64 200)) 3, none⟩] 0)
    (.cond (.tmp 28) (.skip)
      (.exit 0)))
    (.seq (.block 1 (.seq (.seq (.reg [3, 6, 9, 10, 11, 12, 13] [⟨(some 31), .fieldAddr 27 (.tmp 11) 2, none⟩,
       ⟨(some 32), .load 25 (.tmp 31), none⟩,
       ⟨(some 33), .call ⟨.builtin .len, #[(.tmp 32)], #[25]⟩, none⟩,
       ⟨(some 34), .fieldAddr 35 (.tmp 10) 3, none⟩,
       ⟨(some 35), .load 3 (.tmp 34), none⟩,
       ⟨(some 36), .binOp .gtr 3 (.tmp 33) (.tmp 35) 3, none⟩] 0)
     (.cond (.tmp 36) (.seq (.reg [] [⟨(some 8), .assign (.const (.bool false)), none⟩] 0)
       (.ret))
       (.skip)))
     (.seq (.reg [3, 6, 9, 10, 11, 12, 13] [⟨(some 38), .move (.tmp 9), none⟩,
       ⟨(some 39), .load 35 (.tmp 10), none⟩,
       ⟨(some 40), .load 27 (.tmp 11), none⟩,
       ⟨(some 41), .move (.tmp 13), none⟩,
       ⟨(some 42), .move (.tmp 3), none⟩,
       ⟨(some 43), .call ⟨.builtin .len, #[(.tmp 42)], #[44]⟩, none⟩,
       ⟨(some 44), .binOp .lss 3 (.tmp 41) (.tmp 43) 3, none⟩,
       ⟨(some 45), .move (.tmp 44), none⟩,
       ⟨(some 46), .move (.tmp 3), (some (45, true))⟩,
       ⟨(some 47), .move (.tmp 13), (some (45, true))⟩,
       ⟨(some 48), .indexAddr 44 (.tmp 46) (.tmp 47), (some (45, true))⟩,
       ⟨(some 49), .load 4 (.tmp 48), (some (45, true))⟩,
       ⟨(some 50), .pick (.tmp 45) (.tmp 49) (.const (.bool false)), none⟩,
       ⟨(some 51), .call ⟨.value (.func 22), #[(.tmp 38), (.tmp 39), (.tmp 40), (.tmp 12), (.tmp 50)], #[33, 35, 27, 50, 4]⟩, none⟩,
       ⟨(some 37), .move (.tmp 51), none⟩,
       ⟨(some 52), .extract (.tmp 37) 0, none⟩,
       ⟨(some 53), .extract (.tmp 37) 1, none⟩,
       ⟨(some 14), .alloc 27, none⟩,
       ⟨none, .store 27 (.tmp 14) (.tmp 52), none⟩,
       ⟨(some 15), .assign (.tmp 53), none⟩] 13)
     (.seq (.seq (.reg [3, 6, 9, 10, 11, 12, 13, 14, 15] [⟨(some 54), .move (.tmp 15), none⟩,
       ⟨(some 55), .unOp .not 4 (.tmp 54), none⟩] 0)
     (.cond (.tmp 55) (.exit 0)
       (.skip)))
     (.reg [3, 6, 9, 10, 11, 12, 13, 14] [⟨(some 56), .load 27 (.tmp 14), none⟩,
       ⟨none, .store 27 (.tmp 11) (.tmp 56), none⟩] 0)))))
    (.reg [3, 6, 9, 10, 11, 12, 13] [⟨(some 29), .move (.tmp 13), none⟩,
      ⟨(some 30), .binOp .add 3 (.tmp 29) (.const (.int .i64 1)) 3, none⟩,
      ⟨(some 13), .assign (.tmp 30), none⟩] 0))) :: k) st Q := Iff.rfl
def m5 : M :=
  .seq (.reg [0, 1, 2, 3] [⟨(some 6), .box 43 (.tmp 2), none⟩,
      ⟨(some 8), .assign (.const (.bool false)), none⟩] 0)
    (.seq (.seq (.reg [0, 1, 3, 6] [⟨(some 18), .call ⟨.value (.func 14), #[], #[]⟩, none⟩,
      ⟨(some 19), .unOp .not 4 (.tmp 18), none⟩] 0)
    (.cond (.tmp 19) (.seq (.reg [] [⟨(some 8), .assign (.const (.bool false)), none⟩] 0)
      (.ret))
      (.skip)))
    (.seq (.reg [0, 1, 3, 6] [⟨(some 20), .move (.tmp 0), none⟩,
      ⟨(some 21), .call ⟨.value (.func 19), #[(.tmp 20)], #[33]⟩, none⟩,
      ⟨(some 9), .assign (.tmp 21), none⟩] 0)
    (.seq (.reg [1, 3, 6, 9] [⟨(some 22), .move (.tmp 1), none⟩,
      ⟨(some 23), .call ⟨.value (.func 20), #[(.tmp 22), (.const (.int .i64 5))], #[3, 3]⟩, none⟩,
      ⟨(some 24), .build 35 #[(3, (.tmp 23))], none⟩,
      ⟨(some 10), .alloc 35, none⟩,
      ⟨none, .store 35 (.tmp 10) (.tmp 24), none⟩] 0)
    (.seq (.reg [3, 6, 9, 10] [⟨(some 25), .call ⟨.value (.func 21), #[], #[]⟩, none⟩,
      ⟨(some 26), .load 43 (.tmp 6), none⟩,
      ⟨(some 11), .alloc 27, none⟩,
      ⟨(some 12), .alloc 43, none⟩,
      ⟨none, .store 27 (.tmp 11) (.tmp 25), none⟩,
      ⟨none, .store 43 (.tmp 12) (.tmp 26), none⟩] 2)
    (.seq (.seq (.reg [3, 6, 9, 10, 11, 12] [⟨(some 13), .assign (.const (.int .i64 0)), none⟩] 0)
    (.block 0 (.loop (m5_l0))))
    (.seq (.reg [6, 9, 10, 11, 12] [⟨(some 58), .move (.tmp 9), none⟩,
      ⟨(some 59), .load 43 (.tmp 6), none⟩,
      ⟨(some 60), .call ⟨.value (.func 23), #[(.tmp 58), (.tmp 59)], #[33, 43]⟩, none⟩,
      ⟨(some 57), .move (.tmp 60), none⟩,
      ⟨(some 61), .extract (.tmp 57) 0, none⟩,
      ⟨(some 62), .extract (.tmp 57) 1, none⟩,
      ⟨(some 16), .alloc 24, none⟩,
      ⟨(some 17), .alloc 43, none⟩,
      ⟨none, .store 24 (.tmp 16) (.tmp 61), none⟩,
      ⟨none, .store 43 (.tmp 17) (.tmp 62), none⟩] 0)
    (.seq (.reg [9, 10, 11, 12, 16, 17] [⟨(some 63), .move (.tmp 9), none⟩,
      ⟨(some 64), .load 35 (.tmp 10), none⟩,
      ⟨(some 65), .load 27 (.tmp 11), none⟩,
      ⟨(some 66), .call ⟨.value (.func 15), #[(.tmp 63), (.tmp 64), (.tmp 65)], #[33, 35, 27]⟩, none⟩,
      ⟨(some 67), .binOp .eql 5 (.tmp 66) (.const (.int .u8 1)) 5, none⟩,
      ⟨(some 68), .move (.tmp 67), none⟩,
      ⟨(some 69), .fieldAddr 27 (.tmp 11) 1, (some (68, true))⟩,
      ⟨(some 70), .load 24 (.tmp 69), (some (68, true))⟩,
      ⟨(some 71), .load 24 (.tmp 16), (some (68, true))⟩,
      ⟨(some 72), .binOp .eql 24 (.tmp 70) (.tmp 71) 24, (some (68, true))⟩,
      ⟨(some 73), .pick (.tmp 68) (.tmp 72) (.const (.bool false)), none⟩,
      ⟨(some 74), .move (.tmp 73), none⟩,
      ⟨(some 75), .load 43 (.tmp 12), (some (74, true))⟩,
      ⟨(some 76), .load 43 (.tmp 17), (some (74, true))⟩,
      ⟨(some 77), .binOp .eql 43 (.tmp 75) (.tmp 76) 43, (some (74, true))⟩,
      ⟨(some 78), .pick (.tmp 74) (.tmp 77) (.const (.bool false)), none⟩,
      ⟨(some 8), .assign (.tmp 78), none⟩] 0)
    (.ret))))))))
def fn5 : MFn := ⟨79, [.tmp 8], m5, .shut⟩
theorem fnOk5 : FnOk Try.prog 5 fn5 := ⟨Try.f5, _, fun i => bif Nat.beq i 1000000 then passing else ([[0, 1, 2, 3], [0, 1, 3, 6], [], [0, 1, 3, 6], [1, 3, 6, 9], [3, 6, 9, 10], [3, 6, 9, 10, 11, 12], [3, 6, 9, 10, 11, 12, 13], [3, 6, 9, 10, 11, 12, 13], [3, 6, 9, 10, 11, 12, 13], [], [3, 6, 9, 10, 11, 12, 13], [3, 6, 9, 10, 11, 12, 13, 14, 15], [3, 6, 9, 10, 11, 12, 13, 14], [6, 9, 10, 11, 12], [9, 10, 11, 12, 16, 17]] : List (List Nat)).getD i [], Try.func5, rfl, by kernel_rfl, by kernel_rfl, by kernel_rfl, by kernel_rfl⟩
/- seisin/seisinlaw30.CoreOrder -/
def m6_l0 : M :=
    .seq (.seq (.reg [2, 7, 8, 9, 10, 11, 12, 13] [⟨(some 30), .move (.tmp 13), none⟩,
      ⟨(some 31), .binOp .lss 3 (.tmp 30) (.const (.int .i64 200)) 3, none⟩] 0)
    (.cond (.tmp 31) (.skip)
      (.exit 0)))
    (.seq (.block 1 (.seq (.reg [2, 7, 8, 9, 10, 11, 12, 13] [⟨(some 34), .fieldAddr 27 (.tmp 9) 2, none⟩,
       ⟨(some 35), .load 25 (.tmp 34), none⟩,
       ⟨(some 36), .call ⟨.builtin .len, #[(.tmp 35)], #[25]⟩, none⟩,
       ⟨(some 14), .assign (.tmp 36), none⟩] 0)
     (.seq (.reg [2, 7, 8, 9, 10, 11, 12, 13, 14] [⟨(some 38), .load 27 (.tmp 9), none⟩,
       ⟨(some 39), .call ⟨.value (.func 24), #[(.tmp 38)], #[27]⟩, none⟩,
       ⟨(some 37), .move (.tmp 39), none⟩,
       ⟨(some 40), .extract (.tmp 37) 0, none⟩,
       ⟨(some 41), .extract (.tmp 37) 1, none⟩,
       ⟨(some 15), .alloc 55, none⟩,
       ⟨none, .store 55 (.tmp 15) (.tmp 40), none⟩,
       ⟨(some 16), .assign (.tmp 41), none⟩] 0)
     (.seq (.reg [2, 7, 8, 9, 10, 11, 12, 13, 14, 15, 16] [⟨(some 42), .build 38 #[], none⟩,
       ⟨(some 17), .alloc 38, none⟩,
       ⟨none, .store 38 (.tmp 17) (.tmp 42), none⟩] 0)
     (.seq (.seq (.reg [2, 7, 8, 9, 10, 11, 12, 13, 14, 15, 16, 17] [⟨(some 43), .fieldAddr 27 (.tmp 9) 0, none⟩,
       ⟨(some 44), .load 5 (.tmp 43), none⟩,
       ⟨(some 45), .convert 5 3 (.tmp 44), none⟩,
       ⟨(some 46), .move (.tmp 7), none⟩,
       ⟨(some 47), .call ⟨.builtin .len, #[(.tmp 46)], #[33]⟩, none⟩,
       ⟨(some 48), .binOp .lss 3 (.tmp 45) (.tmp 47) 3, none⟩] 0)
     (.cond (.tmp 48) (.reg [2, 7, 8, 9, 10, 11, 12, 13, 14, 15, 16, 17] [⟨(some 49), .move (.tmp 7), none⟩,
         ⟨(some 50), .fieldAddr 27 (.tmp 9) 0, none⟩,
         ⟨(some 51), .load 5 (.tmp 50), none⟩,
         ⟨(some 52), .indexAddr 33 (.tmp 49) (.tmp 51), none⟩,
         ⟨(some 53), .load 38 (.tmp 52), none⟩,
         ⟨none, .store 38 (.tmp 17) (.tmp 53), none⟩] 0)
       (.skip)))
     (.seq (.reg [2, 7, 8, 9, 10, 11, 12, 13, 14, 15, 16, 17] [⟨(some 54), .load 27 (.tmp 9), none⟩,
       ⟨(some 55), .fieldAddr 38 (.tmp 17) 3, none⟩,
       ⟨(some 56), .load 23 (.tmp 55), none⟩,
       ⟨(some 57), .call ⟨.value (.func 12), #[(.tmp 54), (.tmp 56)], #[27, 23]⟩, none⟩,
       ⟨(some 18), .assign (.tmp 57), none⟩] 0)
     (.seq (.reg [2, 7, 8, 9, 10, 11, 12, 13, 14, 15, 16, 17, 18] [⟨(some 59), .move (.tmp 7), none⟩,
       ⟨(some 60), .load 35 (.tmp 8), none⟩,
       ⟨(some 61), .load 27 (.tmp 9), none⟩,
       ⟨(some 62), .move (.tmp 13), none⟩,
       ⟨(some 63), .move (.tmp 2), none⟩,
       ⟨(some 64), .call ⟨.builtin .len, #[(.tmp 63)], #[44]⟩, none⟩,
       ⟨(some 65), .binOp .lss 3 (.tmp 62) (.tmp 64) 3, none⟩,
       ⟨(some 66), .move (.tmp 65), none⟩,
       ⟨(some 67), .move (.tmp 2), (some (66, true))⟩,
       ⟨(some 68), .move (.tmp 13), (some (66, true))⟩,
       ⟨(some 69), .indexAddr 44 (.tmp 67) (.tmp 68), (some (66, true))⟩,
       ⟨(some 70), .load 4 (.tmp 69), (some (66, true))⟩,
       ⟨(some 71), .pick (.tmp 66) (.tmp 70) (.const (.bool false)), none⟩,
       ⟨(some 72), .call ⟨.value (.func 22), #[(.tmp 59), (.tmp 60), (.tmp 61), (.tmp 12), (.tmp 71)], #[33, 35, 27, 50, 4]⟩, none⟩,
       ⟨(some 58), .move (.tmp 72), none⟩,
       ⟨(some 73), .extract (.tmp 58) 0, none⟩,
       ⟨(some 74), .extract (.tmp 58) 1, none⟩,
       ⟨(some 19), .alloc 27, none⟩,
       ⟨none, .store 27 (.tmp 19) (.tmp 73), none⟩,
       ⟨(some 20), .assign (.tmp 74), none⟩] 13)
     (.seq (.seq (.reg [2, 7, 8, 9, 10, 11, 12, 13, 14, 15, 16, 17, 18, 19, 20] [⟨(some 75), .move (.tmp 20), none⟩,
       ⟨(some 76), .unOp .not 4 (.tmp 75), none⟩] 0)
     (.cond (.tmp 76) (.exit 0)
       (.skip)))
     (.seq (.seq (.reg [2, 7, 8, 9, 10, 11, 12, 13, 14, 15, 16, 17, 18, 19] [⟨(some 77), .fieldAddr 27 (.tmp 19) 2, none⟩,
       ⟨(some 78), .load 25 (.tmp 77), none⟩,
       ⟨(some 79), .call ⟨.builtin .len, #[(.tmp 78)], #[25]⟩, none⟩,
       ⟨(some 80), .move (.tmp 14), none⟩,
       ⟨(some 81), .binOp .gtr 3 (.tmp 79) (.tmp 80) 3, none⟩] 0)
     (.cond (.tmp 81) (.reg [2, 7, 8, 9, 10, 11, 12, 13, 14, 15, 16, 17, 18, 19] [⟨(some 82), .move (.tmp 10), none⟩,
         ⟨(some 83), .fieldAddr 38 (.tmp 17) 2, none⟩,
         ⟨(some 84), .load 5 (.tmp 83), none⟩,
         ⟨(some 85), .move (.tmp 18), none⟩,
         ⟨(some 86), .build 59 #[(0, (.tmp 84)), (1, (.tmp 85))], none⟩,
         ⟨(some 87), .buildSlice 25 1 #[(0, (.tmp 86))], none⟩,
         ⟨(some 88), .call ⟨.builtin .append, #[(.tmp 82), (.tmp 87)], #[25, 25]⟩, none⟩,
         ⟨(some 10), .assign (.tmp 88), none⟩] 0)
       (.skip)))
     (.seq (.seq (.reg [2, 7, 8, 9, 10, 11, 12, 13, 14, 15, 16, 19] [⟨(some 89), .fieldAddr 27 (.tmp 19) 2, none⟩,
       ⟨(some 90), .load 25 (.tmp 89), none⟩,
       ⟨(some 91), .call ⟨.builtin .len, #[(.tmp 90)], #[25]⟩, none⟩,
       ⟨(some 92), .move (.tmp 14), none⟩,
       ⟨(some 93), .binOp .lss 3 (.tmp 91) (.tmp 92) 3, none⟩] 0)
     (.cond (.tmp 93) (.seq (.seq (.reg [2, 7, 8, 9, 10, 11, 12, 13, 15, 16, 19] [⟨(some 94), .move (.tmp 16), none⟩,
         ⟨(some 95), .unOp .not 4 (.tmp 94), none⟩] 0)
       (.cond (.tmp 95) (.seq (.reg [] [⟨(some 6), .assign (.const (.bool false)), none⟩] 0)
         (.ret))
         (.skip)))
       (.reg [2, 7, 8, 9, 10, 11, 12, 13, 15, 19] [⟨(some 96), .move (.tmp 11), none⟩,
         ⟨(some 97), .fieldAddr 55 (.tmp 15) 1, none⟩,
         ⟨(some 98), .load 5 (.tmp 97), none⟩,
         ⟨(some 99), .fieldAddr 55 (.tmp 15) 2, none⟩,
         ⟨(some 100), .load 5 (.tmp 99), none⟩,
         ⟨(some 101), .build 59 #[(0, (.tmp 98)), (1, (.tmp 100))], none⟩,
         ⟨(some 102), .buildSlice 25 1 #[(0, (.tmp 101))], none⟩,
         ⟨(some 103), .call ⟨.builtin .append, #[(.tmp 96), (.tmp 102)], #[25, 25]⟩, none⟩,
         ⟨(some 11), .assign (.tmp 103), none⟩] 0))
       (.skip)))
     (.reg [2, 7, 8, 9, 10, 11, 12, 13, 19] [⟨(some 104), .load 27 (.tmp 19), none⟩,
       ⟨none, .store 27 (.tmp 9) (.tmp 104), none⟩] 0)))))))))))
    (.reg [2, 7, 8, 9, 10, 11, 12, 13] [⟨(some 32), .move (.tmp 13), none⟩,
      ⟨(some 33), .binOp .add 3 (.tmp 32) (.const (.int .i64 1)) 3, none⟩,
      ⟨(some 13), .assign (.tmp 33), none⟩] 0))
theorem u6_l0 {C : Ctx} {k : List It} {st : St} {Q : Ex → St → Prop} : RunK C (.code m6_l0 :: k) st Q ↔ RunK C (.code (.seq (.seq (.reg [2, 7, 8, 9, 10, 11, 12, 13] [⟨(some 30), .move (.tmp 13), none⟩,
      ⟨(some 31), .binOp .lss 3 (.tmp 30) (.const (.int .i64 200)) 3, none⟩] 0)
    (.cond (.tmp 31) (.skip)
      (.exit 0)))
    (.seq (.block 1 (.seq (.reg [2, 7, 8, 9, 10, 11, 12, 13] [⟨(some 34), .fieldAddr 27 (.tmp 9) 2, none⟩,
       ⟨(some 35), .load 25 (.tmp 34), none⟩,
       ⟨(some 36), .call ⟨.builtin .len, #[(.tmp 35)], #[25]⟩, none⟩,
       ⟨(some 14), .assign (.tmp 36), none⟩] 0)
     (.seq (.reg [2, 7, 8, 9, 10, 11, 12, 13, 14] [⟨(some 38), .load 27 (.tmp 9), none⟩,
       ⟨(some 39), .call ⟨.value (.func 24), #[(.tmp 38)], #[27]⟩, none⟩,
       ⟨(some 37), .move (.tmp 39), none⟩,
       ⟨(some 40), .extract (.tmp 37) 0, none⟩,
       ⟨(some 41), .extract (.tmp 37) 1, none⟩,
       ⟨(some 15), .alloc 55, none⟩,
       ⟨none, .store 55 (.tmp 15) (.tmp 40), none⟩,
       ⟨(some 16), .assign (.tmp 41), none⟩] 0)
     (.seq (.reg [2, 7, 8, 9, 10, 11, 12, 13, 14, 15, 16] [⟨(some 42), .build 38 #[], none⟩,
       ⟨(some 17), .alloc 38, none⟩,
       ⟨none, .store 38 (.tmp 17) (.tmp 42), none⟩] 0)
     (.seq (.seq (.reg [2, 7, 8, 9, 10, 11, 12, 13, 14, 15, 16, 17] [⟨(some 43), .fieldAddr 27 (.tmp 9) 0, none⟩,
       ⟨(some 44), .load 5 (.tmp 43), none⟩,
       ⟨(some 45), .convert 5 3 (.tmp 44), none⟩,
       ⟨(some 46), .move (.tmp 7), none⟩,
       ⟨(some 47), .call ⟨.builtin .len, #[(.tmp 46)], #[33]⟩, none⟩,
       ⟨(some 48), .binOp .lss 3 (.tmp 45) (.tmp 47) 3, none⟩] 0)
     (.cond (.tmp 48) (.reg [2, 7, 8, 9, 10, 11, 12, 13, 14, 15, 16, 17] [⟨(some 49), .move (.tmp 7), none⟩,
         ⟨(some 50), .fieldAddr 27 (.tmp 9) 0, none⟩,
         ⟨(some 51), .load 5 (.tmp 50), none⟩,
         ⟨(some 52), .indexAddr 33 (.tmp 49) (.tmp 51), none⟩,
         ⟨(some 53), .load 38 (.tmp 52), none⟩,
         ⟨none, .store 38 (.tmp 17) (.tmp 53), none⟩] 0)
       (.skip)))
     (.seq (.reg [2, 7, 8, 9, 10, 11, 12, 13, 14, 15, 16, 17] [⟨(some 54), .load 27 (.tmp 9), none⟩,
       ⟨(some 55), .fieldAddr 38 (.tmp 17) 3, none⟩,
       ⟨(some 56), .load 23 (.tmp 55), none⟩,
       ⟨(some 57), .call ⟨.value (.func 12), #[(.tmp 54), (.tmp 56)], #[27, 23]⟩, none⟩,
       ⟨(some 18), .assign (.tmp 57), none⟩] 0)
     (.seq (.reg [2, 7, 8, 9, 10, 11, 12, 13, 14, 15, 16, 17, 18] [⟨(some 59), .move (.tmp 7), none⟩,
       ⟨(some 60), .load 35 (.tmp 8), none⟩,
       ⟨(some 61), .load 27 (.tmp 9), none⟩,
       ⟨(some 62), .move (.tmp 13), none⟩,
       ⟨(some 63), .move (.tmp 2), none⟩,
       ⟨(some 64), .call ⟨.builtin .len, #[(.tmp 63)], #[44]⟩, none⟩,
       ⟨(some 65), .binOp .lss 3 (.tmp 62) (.tmp 64) 3, none⟩,
       ⟨(some 66), .move (.tmp 65), none⟩,
       ⟨(some 67), .move (.tmp 2), (some (66, true))⟩,
       ⟨(some 68), .move (.tmp 13), (some (66, true))⟩,
       ⟨(some 69), .indexAddr 44 (.tmp 67) (.tmp 68), (some (66, true))⟩,
       ⟨(some 70), .load 4 (.tmp 69), (some (66, true))⟩,
       ⟨(some 71), .pick (.tmp 66) (.tmp 70) (.const (.bool false)), none⟩,
       ⟨(some 72), .call ⟨.value (.func 22), #[(.tmp 59), (.tmp 60), (.tmp 61), (.tmp 12), (.tmp 71)], #[33, 35, 27, 50, 4]⟩, none⟩,
       ⟨(some 58), .move (.tmp 72), none⟩,
       ⟨(some 73), .extract (.tmp 58) 0, none⟩,
       ⟨(some 74), .extract (.tmp 58) 1, none⟩,
       ⟨(some 19), .alloc 27, none⟩,
       ⟨none, .store 27 (.tmp 19) (.tmp 73), none⟩,
       ⟨(some 20), .assign (.tmp 74), none⟩] 13)
     (.seq (.seq (.reg [2, 7, 8, 9, 10, 11, 12, 13, 14, 15, 16, 17, 18, 19, 20] [⟨(some 75), .move (.tmp 20), none⟩,
       ⟨(some 76), .unOp .not 4 (.tmp 75), none⟩] 0)
     (.cond (.tmp 76) (.exit 0)
       (.skip)))
     (.seq (.seq (.reg [2, 7, 8, 9, 10, 11, 12, 13, 14, 15, 16, 17, 18, 19] [⟨(some 77), .fieldAddr 27 (.tmp 19) 2, none⟩,
       ⟨(some 78), .load 25 (.tmp 77), none⟩,
       ⟨(some 79), .call ⟨.builtin .len, #[(.tmp 78)], #[25]⟩, none⟩,
       ⟨(some 80), .move (.tmp 14), none⟩,
       ⟨(some 81), .binOp .gtr 3 (.tmp 79) (.tmp 80) 3, none⟩] 0)
     (.cond (.tmp 81) (.reg [2, 7, 8, 9, 10, 11, 12, 13, 14, 15, 16, 17, 18, 19] [⟨(some 82), .move (.tmp 10), none⟩,
         ⟨(some 83), .fieldAddr 38 (.tmp 17) 2, none⟩,
         ⟨(some 84), .load 5 (.tmp 83), none⟩,
         ⟨(some 85), .move (.tmp 18), none⟩,
         ⟨(some 86), .build 59 #[(0, (.tmp 84)), (1, (.tmp 85))], none⟩,
         ⟨(some 87), .buildSlice 25 1 #[(0, (.tmp 86))], none⟩,
         ⟨(some 88), .call ⟨.builtin .append, #[(.tmp 82), (.tmp 87)], #[25, 25]⟩, none⟩,
         ⟨(some 10), .assign (.tmp 88), none⟩] 0)
       (.skip)))
     (.seq (.seq (.reg [2, 7, 8, 9, 10, 11, 12, 13, 14, 15, 16, 19] [⟨(some 89), .fieldAddr 27 (.tmp 19) 2, none⟩,
       ⟨(some 90), .load 25 (.tmp 89), none⟩,
       ⟨(some 91), .call ⟨.builtin .len, #[(.tmp 90)], #[25]⟩, none⟩,
       ⟨(some 92), .move (.tmp 14), none⟩,
       ⟨(some 93), .binOp .lss 3 (.tmp 91) (.tmp 92) 3, none⟩] 0)
     (.cond (.tmp 93) (.seq (.seq (.reg [2, 7, 8, 9, 10, 11, 12, 13, 15, 16, 19] [⟨(some 94), .move (.tmp 16), none⟩,
         ⟨(some 95), .unOp .not 4 (.tmp 94), none⟩] 0)
       (.cond (.tmp 95) (.seq (.reg [] [⟨(some 6), .assign (.const (.bool false)), none⟩] 0)
         (.ret))
         (.skip)))
       (.reg [2, 7, 8, 9, 10, 11, 12, 13, 15, 19] [⟨(some 96), .move (.tmp 11), none⟩,
         ⟨(some 97), .fieldAddr 55 (.tmp 15) 1, none⟩,
         ⟨(some 98), .load 5 (.tmp 97), none⟩,
         ⟨(some 99), .fieldAddr 55 (.tmp 15) 2, none⟩,
         ⟨(some 100), .load 5 (.tmp 99), none⟩,
         ⟨(some 101), .build 59 #[(0, (.tmp 98)), (1, (.tmp 100))], none⟩,
         ⟨(some 102), .buildSlice 25 1 #[(0, (.tmp 101))], none⟩,
         ⟨(some 103), .call ⟨.builtin .append, #[(.tmp 96), (.tmp 102)], #[25, 25]⟩, none⟩,
         ⟨(some 11), .assign (.tmp 103), none⟩] 0))
       (.skip)))
     (.reg [2, 7, 8, 9, 10, 11, 12, 13, 19] [⟨(some 104), .load 27 (.tmp 19), none⟩,
       ⟨none, .store 27 (.tmp 9) (.tmp 104), none⟩] 0)))))))))))
    (.reg [2, 7, 8, 9, 10, 11, 12, 13] [⟨(some 32), .move (.tmp 13), none⟩,
      ⟨(some 33), .binOp .add 3 (.tmp 32) (.const (.int .i64 1)) 3, none⟩,
      ⟨(some 13), .assign (.tmp 33), none⟩] 0))) :: k) st Q := Iff.rfl
def m6 : M :=
  .seq (.reg [0, 1, 2] [⟨(some 6), .assign (.const (.bool false)), none⟩] 0)
    (.seq (.seq (.reg [0, 1, 2] [⟨(some 21), .call ⟨.value (.func 14), #[], #[]⟩, none⟩,
      ⟨(some 22), .unOp .not 4 (.tmp 21), none⟩] 0)
    (.cond (.tmp 22) (.seq (.reg [] [⟨(some 6), .assign (.const (.bool false)), none⟩] 0)
      (.ret))
      (.skip)))
    (.seq (.reg [0, 1, 2] [⟨(some 23), .move (.tmp 0), none⟩,
      ⟨(some 24), .call ⟨.value (.func 19), #[(.tmp 23)], #[33]⟩, none⟩,
      ⟨(some 7), .assign (.tmp 24), none⟩] 0)
    (.seq (.reg [1, 2, 7] [⟨(some 25), .move (.tmp 1), none⟩,
      ⟨(some 26), .call ⟨.value (.func 20), #[(.tmp 25), (.const (.int .i64 5))], #[3, 3]⟩, none⟩,
      ⟨(some 27), .binOp .add 3 (.const (.int .i64 1)) (.tmp 26) 3, none⟩,
      ⟨(some 28), .build 35 #[(3, (.tmp 27))], none⟩,
      ⟨(some 8), .alloc 35, none⟩,
      ⟨none, .store 35 (.tmp 8) (.tmp 28), none⟩] 0)
    (.seq (.reg [2, 7, 8] [⟨(some 29), .call ⟨.value (.func 21), #[], #[]⟩, none⟩,
      ⟨(some 9), .alloc 27, none⟩,
      ⟨none, .store 27 (.tmp 9) (.tmp 29), none⟩] 0)
    (.seq (.reg [2, 7, 8, 9] [⟨(some 10), .assign (.const (.slice none 0 0)), none⟩,
      ⟨(some 11), .assign (.const (.slice none 0 0)), none⟩] 0)
    (.seq (.reg [2, 7, 8, 9, 10, 11] [⟨(some 12), .alloc 43, none⟩] 0)
    (.seq (.seq (.reg [2, 7, 8, 9, 10, 11, 12] [⟨(some 13), .assign (.const (.int .i64 0)), none⟩] 0)
    (.block 0 (.loop (m6_l0))))
    (.seq (.reg [9, 10, 11] [⟨(some 105), .fieldAddr 27 (.tmp 9) 2, none⟩,
      ⟨(some 106), .load 25 (.tmp 105), none⟩,
      ⟨(some 107), .call ⟨.builtin .len, #[(.tmp 106)], #[25]⟩, none⟩,
      ⟨(some 108), .binOp .eql 3 (.tmp 107) (.const (.int .i64 0)) 3, none⟩,
      ⟨(some 109), .move (.tmp 108), none⟩,
      ⟨(some 110), .move (.tmp 10), (some (109, true))⟩,
      ⟨(some 111), .move (.tmp 11), (some (109, true))⟩,
      ⟨(some 112), .call ⟨.value (.func 18), #[(.tmp 110), (.tmp 111)], #[25, 25]⟩, (some (109, true))⟩,
      ⟨(some 113), .pick (.tmp 109) (.tmp 112) (.const (.bool false)), none⟩,
      ⟨(some 6), .assign (.tmp 113), none⟩] 0)
    (.ret)))))))))
def fn6 : MFn := ⟨114, [.tmp 6], m6, .shut⟩
theorem fnOk6 : FnOk Try.prog 6 fn6 := ⟨Try.f6, _, fun i => bif Nat.beq i 1000000 then passing else ([[0, 1, 2], [0, 1, 2], [], [0, 1, 2], [1, 2, 7], [2, 7, 8], [2, 7, 8, 9], [2, 7, 8, 9, 10, 11], [2, 7, 8, 9, 10, 11, 12], [2, 7, 8, 9, 10, 11, 12, 13], [2, 7, 8, 9, 10, 11, 12, 13], [2, 7, 8, 9, 10, 11, 12, 13], [2, 7, 8, 9, 10, 11, 12, 13, 14], [2, 7, 8, 9, 10, 11, 12, 13, 14, 15, 16], [2, 7, 8, 9, 10, 11, 12, 13, 14, 15, 16, 17], [2, 7, 8, 9, 10, 11, 12, 13, 14, 15, 16, 17], [2, 7, 8, 9, 10, 11, 12, 13, 14, 15, 16, 17], [2, 7, 8, 9, 10, 11, 12, 13, 14, 15, 16, 17, 18], [2, 7, 8, 9, 10, 11, 12, 13, 14, 15, 16, 17, 18, 19, 20], [2, 7, 8, 9, 10, 11, 12, 13, 14, 15, 16, 17, 18, 19], [2, 7, 8, 9, 10, 11, 12, 13, 14, 15, 16, 17, 18, 19], [2, 7, 8, 9, 10, 11, 12, 13, 14, 15, 16, 19], [2, 7, 8, 9, 10, 11, 12, 13, 15, 16, 19], [], [2, 7, 8, 9, 10, 11, 12, 13, 15, 19], [2, 7, 8, 9, 10, 11, 12, 13, 19], [9, 10, 11]] : List (List Nat)).getD i [], Try.func6, rfl, by kernel_rfl, by kernel_rfl, by kernel_rfl, by kernel_rfl⟩
/- seisin/seisinlaw30.CoreFences -/
def m7_l0 : M :=
    .seq (.seq (.reg [2, 7, 8, 9, 10, 11] [⟨(some 24), .move (.tmp 11), none⟩,
      ⟨(some 25), .binOp .lss 3 (.tmp 24) (.const (.int .i64 200)) 3, none⟩] 0)
    (.cond (.tmp 25) (.skip)
      (.exit 0)))
    (.seq (.block 1 (.seq (.reg [2, 7, 8, 9, 10, 11] [⟨(some 28), .build 38 #[], none⟩,
       ⟨(some 12), .alloc 38, none⟩,
       ⟨none, .store 38 (.tmp 12) (.tmp 28), none⟩] 0)
     (.seq (.seq (.reg [2, 7, 8, 9, 10, 11, 12] [⟨(some 29), .fieldAddr 27 (.tmp 9) 0, none⟩,
       ⟨(some 30), .load 5 (.tmp 29), none⟩,
       ⟨(some 31), .convert 5 3 (.tmp 30), none⟩,
       ⟨(some 32), .move (.tmp 7), none⟩,
       ⟨(some 33), .call ⟨.builtin .len, #[(.tmp 32)], #[33]⟩, none⟩,
       ⟨(some 34), .binOp .lss 3 (.tmp 31) (.tmp 33) 3, none⟩] 0)
     (.cond (.tmp 34) (.reg [2, 7, 8, 9, 10, 11, 12] [⟨(some 35), .move (.tmp 7), none⟩,
         ⟨(some 36), .fieldAddr 27 (.tmp 9) 0, none⟩,
         ⟨(some 37), .load 5 (.tmp 36), none⟩,
         ⟨(some 38), .indexAddr 33 (.tmp 35) (.tmp 37), none⟩,
         ⟨(some 39), .load 38 (.tmp 38), none⟩,
         ⟨none, .store 38 (.tmp 12) (.tmp 39), none⟩] 0)
       (.skip)))
     (.seq (.reg [2, 7, 8, 9, 10, 11, 12] [⟨(some 41), .move (.tmp 7), none⟩,
       ⟨(some 42), .load 35 (.tmp 8), none⟩,
       ⟨(some 43), .load 27 (.tmp 9), none⟩,
       ⟨(some 44), .move (.tmp 11), none⟩,
       ⟨(some 45), .move (.tmp 2), none⟩,
       ⟨(some 46), .call ⟨.builtin .len, #[(.tmp 45)], #[44]⟩, none⟩,
       ⟨(some 47), .binOp .lss 3 (.tmp 44) (.tmp 46) 3, none⟩,
       ⟨(some 48), .move (.tmp 47), none⟩,
       ⟨(some 49), .move (.tmp 2), (some (48, true))⟩,
       ⟨(some 50), .move (.tmp 11), (some (48, true))⟩,
       ⟨(some 51), .indexAddr 44 (.tmp 49) (.tmp 50), (some (48, true))⟩,
       ⟨(some 52), .load 4 (.tmp 51), (some (48, true))⟩,
       ⟨(some 53), .pick (.tmp 48) (.tmp 52) (.const (.bool false)), none⟩,
       ⟨(some 54), .call ⟨.value (.func 22), #[(.tmp 41), (.tmp 42), (.tmp 43), (.tmp 10), (.tmp 53)], #[33, 35, 27, 50, 4]⟩, none⟩,
       ⟨(some 40), .move (.tmp 54), none⟩,
       ⟨(some 55), .extract (.tmp 40) 0, none⟩,
       ⟨(some 56), .extract (.tmp 40) 1, none⟩,
       ⟨(some 13), .alloc 27, none⟩,
       ⟨none, .store 27 (.tmp 13) (.tmp 55), none⟩,
       ⟨(some 14), .assign (.tmp 56), none⟩] 13)
     (.seq (.seq (.reg [2, 7, 8, 9, 10, 11, 12, 13, 14] [⟨(some 57), .move (.tmp 14), none⟩,
       ⟨(some 58), .unOp .not 4 (.tmp 57), none⟩] 0)
     (.cond (.tmp 58) (.exit 0)
       (.skip)))
     (.seq (.reg [2, 7, 8, 9, 10, 11, 12, 13] [⟨(some 59), .fieldAddr 27 (.tmp 13) 0, none⟩,
       ⟨(some 60), .load 5 (.tmp 59), none⟩,
       ⟨(some 61), .fieldAddr 27 (.tmp 9) 0, none⟩,
       ⟨(some 62), .load 5 (.tmp 61), none⟩,
       ⟨(some 63), .binOp .neq 5 (.tmp 60) (.tmp 62) 5, none⟩,
       ⟨(some 15), .assign (.tmp 63), none⟩] 0)
     (.seq (.seq (.reg [2, 7, 8, 9, 10, 11, 12, 13, 15] [⟨(some 64), .move (.tmp 15), none⟩,
       ⟨(some 65), .move (.tmp 64), none⟩,
       ⟨(some 66), .fieldAddr 38 (.tmp 12) 0, (some (65, true))⟩,
       ⟨(some 67), .load 5 (.tmp 66), (some (65, true))⟩,
       ⟨(some 68), .binOp .eql 5 (.tmp 67) (.const (.int .u8 7)) 5, (some (65, true))⟩,
       ⟨(some 69), .move (.tmp 68), (some (65, true))⟩,
       ⟨(some 70), .fieldAddr 38 (.tmp 12) 6, (some (69, true))⟩,
       ⟨(some 71), .load 5 (.tmp 70), (some (69, true))⟩,
       ⟨(some 72), .binOp .eql 5 (.tmp 71) (.const (.int .u8 3)) 5, (some (69, true))⟩,
       ⟨(some 73), .pick (.tmp 69) (.tmp 72) (.const (.bool false)), (some (65, true))⟩,
       ⟨(some 74), .move (.tmp 73), (some (65, true))⟩,
       ⟨(some 75), .fieldAddr 38 (.tmp 12) 0, (some (74, false))⟩,
       ⟨(some 76), .load 5 (.tmp 75), (some (74, false))⟩,
       ⟨(some 77), .binOp .geq 5 (.tmp 76) (.const (.int .u8 4)) 5, (some (74, false))⟩,
       ⟨(some 78), .move (.tmp 77), (some (74, false))⟩,
       ⟨(some 79), .fieldAddr 38 (.tmp 12) 0, (some (78, true))⟩,
       ⟨(some 80), .load 5 (.tmp 79), (some (78, true))⟩,
       ⟨(some 81), .binOp .leq 5 (.tmp 80) (.const (.int .u8 6)) 5, (some (78, true))⟩,
       ⟨(some 82), .pick (.tmp 78) (.tmp 81) (.const (.bool false)), (some (74, false))⟩,
       ⟨(some 83), .pick (.tmp 74) (.const (.bool true)) (.tmp 82), (some (65, true))⟩,
       ⟨(some 84), .pick (.tmp 65) (.tmp 83) (.const (.bool false)), none⟩,
       ⟨(some 85), .move (.tmp 84), none⟩,
       ⟨(some 86), .fieldAddr 27 (.tmp 13) 2, (some (85, true))⟩,
       ⟨(some 87), .load 25 (.tmp 86), (some (85, true))⟩,
       ⟨(some 88), .call ⟨.builtin .len, #[(.tmp 87)], #[25]⟩, (some (85, true))⟩,
       ⟨(some 89), .binOp .gtr 3 (.tmp 88) (.const (.int .i64 0)) 3, (some (85, true))⟩,
       ⟨(some 90), .pick (.tmp 85) (.tmp 89) (.const (.bool false)), none⟩] 0)
     (.cond (.tmp 90) (.seq (.reg [] [⟨(some 6), .assign (.const (.bool false)), none⟩] 0)
       (.ret))
       (.skip)))
     (.seq (.seq (.reg [2, 7, 8, 9, 10, 11, 12, 13] [⟨(some 91), .fieldAddr 38 (.tmp 12) 0, none⟩,
       ⟨(some 92), .load 5 (.tmp 91), none⟩,
       ⟨(some 93), .binOp .eql 5 (.tmp 92) (.const (.int .u8 7)) 5, none⟩,
       ⟨(some 94), .move (.tmp 93), none⟩,
       ⟨(some 95), .fieldAddr 38 (.tmp 12) 6, (some (94, true))⟩,
       ⟨(some 96), .load 5 (.tmp 95), (some (94, true))⟩,
       ⟨(some 97), .binOp .neq 5 (.tmp 96) (.const (.int .u8 3)) 5, (some (94, true))⟩,
       ⟨(some 98), .pick (.tmp 94) (.tmp 97) (.const (.bool false)), none⟩,
       ⟨(some 99), .move (.tmp 98), none⟩,
       ⟨(some 100), .move (.tmp 7), (some (99, true))⟩,
       ⟨(some 101), .load 35 (.tmp 8), (some (99, true))⟩,
       ⟨(some 102), .load 27 (.tmp 9), (some (99, true))⟩,
       ⟨(some 103), .call ⟨.value (.func 15), #[(.tmp 100), (.tmp 101), (.tmp 102)], #[33, 35, 27]⟩, (some (99, true))⟩,
       ⟨(some 104), .binOp .neq 5 (.tmp 103) (.const (.int .u8 2)) 5, (some (99, true))⟩,
       ⟨(some 105), .pick (.tmp 99) (.tmp 104) (.const (.bool false)), none⟩] 0)
     (.cond (.tmp 105) (.seq (.reg [] [⟨(some 6), .assign (.const (.bool false)), none⟩] 0)
       (.ret))
       (.skip)))
     (.seq (.reg [2, 7, 8, 9, 10, 11, 13] [⟨(some 106), .load 27 (.tmp 13), none⟩,
       ⟨none, .store 27 (.tmp 9) (.tmp 106), none⟩] 0)
     (.seq (.reg [2, 7, 8, 9, 10, 11] [⟨(some 107), .fieldAddr 35 (.tmp 8) 3, none⟩,
       ⟨(some 108), .load 3 (.tmp 107), none⟩,
       ⟨(some 109), .binOp .eql 3 (.tmp 108) (.const (.int .i64 0)) 3, none⟩,
       ⟨(some 110), .move (.tmp 109), none⟩,
       ⟨(some 111), .fieldAddr 27 (.tmp 9) 2, (some (110, true))⟩,
       ⟨(some 112), .load 25 (.tmp 111), (some (110, true))⟩,
       ⟨(some 113), .call ⟨.builtin .len, #[(.tmp 112)], #[25]⟩, (some (110, true))⟩,
       ⟨(some 114), .binOp .gtr 3 (.tmp 113) (.const (.int .i64 0)) 3, (some (110, true))⟩,
       ⟨(some 115), .pick (.tmp 110) (.tmp 114) (.const (.bool false)), none⟩] 0)
     (.cond (.tmp 115) (.seq (.reg [] [⟨(some 6), .assign (.const (.bool false)), none⟩] 0)
       (.ret))
       (.skip))))))))))))
    (.reg [2, 7, 8, 9, 10, 11] [⟨(some 26), .move (.tmp 11), none⟩,
      ⟨(some 27), .binOp .add 3 (.tmp 26) (.const (.int .i64 1)) 3, none⟩,
      ⟨(some 11), .assign (.tmp 27), none⟩] 0))
theorem u7_l0 {C : Ctx} {k : List It} {st : St} {Q : Ex → St → Prop} : RunK C (.code m7_l0 :: k) st Q ↔ RunK C (.code (.seq (.seq (.reg [2, 7, 8, 9, 10, 11] [⟨(some 24), .move (.tmp 11), none⟩,
      ⟨(some 25), .binOp .lss 3 (.tmp 24) (.const (.int .i64 200)) 3, none⟩] 0)
    (.cond (.tmp 25) (.skip)
      (.exit 0)))
    (.seq (.block 1 (.seq (.reg [2, 7, 8, 9, 10, 11] [⟨(some 28), .build 38 #[], none⟩,
       ⟨(some 12), .alloc 38, none⟩,
       ⟨none, .store 38 (.tmp 12) (.tmp 28), none⟩] 0)
     (.seq (.seq (.reg [2, 7, 8, 9, 10, 11, 12] [⟨(some 29), .fieldAddr 27 (.tmp 9) 0, none⟩,
       ⟨(some 30), .load 5 (.tmp 29), none⟩,
       ⟨(some 31), .convert 5 3 (.tmp 30), none⟩,
       ⟨(some 32), .move (.tmp 7), none⟩,
       ⟨(some 33), .call ⟨.builtin .len, #[(.tmp 32)], #[33]⟩, none⟩,
       ⟨(some 34), .binOp .lss 3 (.tmp 31) (.tmp 33) 3, none⟩] 0)
     (.cond (.tmp 34) (.reg [2, 7, 8, 9, 10, 11, 12] [⟨(some 35), .move (.tmp 7), none⟩,
         ⟨(some 36), .fieldAddr 27 (.tmp 9) 0, none⟩,
         ⟨(some 37), .load 5 (.tmp 36), none⟩,
         ⟨(some 38), .indexAddr 33 (.tmp 35) (.tmp 37), none⟩,
         ⟨(some 39), .load 38 (.tmp 38), none⟩,
         ⟨none, .store 38 (.tmp 12) (.tmp 39), none⟩] 0)
       (.skip)))
     (.seq (.reg [2, 7, 8, 9, 10, 11, 12] [⟨(some 41), .move (.tmp 7), none⟩,
       ⟨(some 42), .load 35 (.tmp 8), none⟩,
       ⟨(some 43), .load 27 (.tmp 9), none⟩,
       ⟨(some 44), .move (.tmp 11), none⟩,
       ⟨(some 45), .move (.tmp 2), none⟩,
       ⟨(some 46), .call ⟨.builtin .len, #[(.tmp 45)], #[44]⟩, none⟩,
       ⟨(some 47), .binOp .lss 3 (.tmp 44) (.tmp 46) 3, none⟩,
       ⟨(some 48), .move (.tmp 47), none⟩,
       ⟨(some 49), .move (.tmp 2), (some (48, true))⟩,
       ⟨(some 50), .move (.tmp 11), (some (48, true))⟩,
       ⟨(some 51), .indexAddr 44 (.tmp 49) (.tmp 50), (some (48, true))⟩,
       ⟨(some 52), .load 4 (.tmp 51), (some (48, true))⟩,
       ⟨(some 53), .pick (.tmp 48) (.tmp 52) (.const (.bool false)), none⟩,
       ⟨(some 54), .call ⟨.value (.func 22), #[(.tmp 41), (.tmp 42), (.tmp 43), (.tmp 10), (.tmp 53)], #[33, 35, 27, 50, 4]⟩, none⟩,
       ⟨(some 40), .move (.tmp 54), none⟩,
       ⟨(some 55), .extract (.tmp 40) 0, none⟩,
       ⟨(some 56), .extract (.tmp 40) 1, none⟩,
       ⟨(some 13), .alloc 27, none⟩,
       ⟨none, .store 27 (.tmp 13) (.tmp 55), none⟩,
       ⟨(some 14), .assign (.tmp 56), none⟩] 13)
     (.seq (.seq (.reg [2, 7, 8, 9, 10, 11, 12, 13, 14] [⟨(some 57), .move (.tmp 14), none⟩,
       ⟨(some 58), .unOp .not 4 (.tmp 57), none⟩] 0)
     (.cond (.tmp 58) (.exit 0)
       (.skip)))
     (.seq (.reg [2, 7, 8, 9, 10, 11, 12, 13] [⟨(some 59), .fieldAddr 27 (.tmp 13) 0, none⟩,
       ⟨(some 60), .load 5 (.tmp 59), none⟩,
       ⟨(some 61), .fieldAddr 27 (.tmp 9) 0, none⟩,
       ⟨(some 62), .load 5 (.tmp 61), none⟩,
       ⟨(some 63), .binOp .neq 5 (.tmp 60) (.tmp 62) 5, none⟩,
       ⟨(some 15), .assign (.tmp 63), none⟩] 0)
     (.seq (.seq (.reg [2, 7, 8, 9, 10, 11, 12, 13, 15] [⟨(some 64), .move (.tmp 15), none⟩,
       ⟨(some 65), .move (.tmp 64), none⟩,
       ⟨(some 66), .fieldAddr 38 (.tmp 12) 0, (some (65, true))⟩,
       ⟨(some 67), .load 5 (.tmp 66), (some (65, true))⟩,
       ⟨(some 68), .binOp .eql 5 (.tmp 67) (.const (.int .u8 7)) 5, (some (65, true))⟩,
       ⟨(some 69), .move (.tmp 68), (some (65, true))⟩,
       ⟨(some 70), .fieldAddr 38 (.tmp 12) 6, (some (69, true))⟩,
       ⟨(some 71), .load 5 (.tmp 70), (some (69, true))⟩,
       ⟨(some 72), .binOp .eql 5 (.tmp 71) (.const (.int .u8 3)) 5, (some (69, true))⟩,
       ⟨(some 73), .pick (.tmp 69) (.tmp 72) (.const (.bool false)), (some (65, true))⟩,
       ⟨(some 74), .move (.tmp 73), (some (65, true))⟩,
       ⟨(some 75), .fieldAddr 38 (.tmp 12) 0, (some (74, false))⟩,
       ⟨(some 76), .load 5 (.tmp 75), (some (74, false))⟩,
       ⟨(some 77), .binOp .geq 5 (.tmp 76) (.const (.int .u8 4)) 5, (some (74, false))⟩,
       ⟨(some 78), .move (.tmp 77), (some (74, false))⟩,
       ⟨(some 79), .fieldAddr 38 (.tmp 12) 0, (some (78, true))⟩,
       ⟨(some 80), .load 5 (.tmp 79), (some (78, true))⟩,
       ⟨(some 81), .binOp .leq 5 (.tmp 80) (.const (.int .u8 6)) 5, (some (78, true))⟩,
       ⟨(some 82), .pick (.tmp 78) (.tmp 81) (.const (.bool false)), (some (74, false))⟩,
       ⟨(some 83), .pick (.tmp 74) (.const (.bool true)) (.tmp 82), (some (65, true))⟩,
       ⟨(some 84), .pick (.tmp 65) (.tmp 83) (.const (.bool false)), none⟩,
       ⟨(some 85), .move (.tmp 84), none⟩,
       ⟨(some 86), .fieldAddr 27 (.tmp 13) 2, (some (85, true))⟩,
       ⟨(some 87), .load 25 (.tmp 86), (some (85, true))⟩,
       ⟨(some 88), .call ⟨.builtin .len, #[(.tmp 87)], #[25]⟩, (some (85, true))⟩,
       ⟨(some 89), .binOp .gtr 3 (.tmp 88) (.const (.int .i64 0)) 3, (some (85, true))⟩,
       ⟨(some 90), .pick (.tmp 85) (.tmp 89) (.const (.bool false)), none⟩] 0)
     (.cond (.tmp 90) (.seq (.reg [] [⟨(some 6), .assign (.const (.bool false)), none⟩] 0)
       (.ret))
       (.skip)))
     (.seq (.seq (.reg [2, 7, 8, 9, 10, 11, 12, 13] [⟨(some 91), .fieldAddr 38 (.tmp 12) 0, none⟩,
       ⟨(some 92), .load 5 (.tmp 91), none⟩,
       ⟨(some 93), .binOp .eql 5 (.tmp 92) (.const (.int .u8 7)) 5, none⟩,
       ⟨(some 94), .move (.tmp 93), none⟩,
       ⟨(some 95), .fieldAddr 38 (.tmp 12) 6, (some (94, true))⟩,
       ⟨(some 96), .load 5 (.tmp 95), (some (94, true))⟩,
       ⟨(some 97), .binOp .neq 5 (.tmp 96) (.const (.int .u8 3)) 5, (some (94, true))⟩,
       ⟨(some 98), .pick (.tmp 94) (.tmp 97) (.const (.bool false)), none⟩,
       ⟨(some 99), .move (.tmp 98), none⟩,
       ⟨(some 100), .move (.tmp 7), (some (99, true))⟩,
       ⟨(some 101), .load 35 (.tmp 8), (some (99, true))⟩,
       ⟨(some 102), .load 27 (.tmp 9), (some (99, true))⟩,
       ⟨(some 103), .call ⟨.value (.func 15), #[(.tmp 100), (.tmp 101), (.tmp 102)], #[33, 35, 27]⟩, (some (99, true))⟩,
       ⟨(some 104), .binOp .neq 5 (.tmp 103) (.const (.int .u8 2)) 5, (some (99, true))⟩,
       ⟨(some 105), .pick (.tmp 99) (.tmp 104) (.const (.bool false)), none⟩] 0)
     (.cond (.tmp 105) (.seq (.reg [] [⟨(some 6), .assign (.const (.bool false)), none⟩] 0)
       (.ret))
       (.skip)))
     (.seq (.reg [2, 7, 8, 9, 10, 11, 13] [⟨(some 106), .load 27 (.tmp 13), none⟩,
       ⟨none, .store 27 (.tmp 9) (.tmp 106), none⟩] 0)
     (.seq (.reg [2, 7, 8, 9, 10, 11] [⟨(some 107), .fieldAddr 35 (.tmp 8) 3, none⟩,
       ⟨(some 108), .load 3 (.tmp 107), none⟩,
       ⟨(some 109), .binOp .eql 3 (.tmp 108) (.const (.int .i64 0)) 3, none⟩,
       ⟨(some 110), .move (.tmp 109), none⟩,
       ⟨(some 111), .fieldAddr 27 (.tmp 9) 2, (some (110, true))⟩,
       ⟨(some 112), .load 25 (.tmp 111), (some (110, true))⟩,
       ⟨(some 113), .call ⟨.builtin .len, #[(.tmp 112)], #[25]⟩, (some (110, true))⟩,
       ⟨(some 114), .binOp .gtr 3 (.tmp 113) (.const (.int .i64 0)) 3, (some (110, true))⟩,
       ⟨(some 115), .pick (.tmp 110) (.tmp 114) (.const (.bool false)), none⟩] 0)
     (.cond (.tmp 115) (.seq (.reg [] [⟨(some 6), .assign (.const (.bool false)), none⟩] 0)
       (.ret))
       (.skip))))))))))))
    (.reg [2, 7, 8, 9, 10, 11] [⟨(some 26), .move (.tmp 11), none⟩,
      ⟨(some 27), .binOp .add 3 (.tmp 26) (.const (.int .i64 1)) 3, none⟩,
      ⟨(some 11), .assign (.tmp 27), none⟩] 0))) :: k) st Q := Iff.rfl
def m7 : M :=
  .seq (.reg [0, 1, 2] [⟨(some 6), .assign (.const (.bool false)), none⟩] 0)
    (.seq (.seq (.reg [0, 1, 2] [⟨(some 16), .call ⟨.value (.func 14), #[], #[]⟩, none⟩,
      ⟨(some 17), .unOp .not 4 (.tmp 16), none⟩] 0)
    (.cond (.tmp 17) (.seq (.reg [] [⟨(some 6), .assign (.const (.bool false)), none⟩] 0)
      (.ret))
      (.skip)))
    (.seq (.reg [0, 1, 2] [⟨(some 18), .move (.tmp 0), none⟩,
      ⟨(some 19), .call ⟨.value (.func 19), #[(.tmp 18)], #[33]⟩, none⟩,
      ⟨(some 7), .assign (.tmp 19), none⟩] 0)
    (.seq (.reg [1, 2, 7] [⟨(some 20), .move (.tmp 1), none⟩,
      ⟨(some 21), .call ⟨.value (.func 20), #[(.tmp 20), (.const (.int .i64 5))], #[3, 3]⟩, none⟩,
      ⟨(some 22), .build 35 #[(3, (.tmp 21))], none⟩,
      ⟨(some 8), .alloc 35, none⟩,
      ⟨none, .store 35 (.tmp 8) (.tmp 22), none⟩] 0)
    (.seq (.reg [2, 7, 8] [⟨(some 23), .call ⟨.value (.func 21), #[], #[]⟩, none⟩,
      ⟨(some 9), .alloc 27, none⟩,
      ⟨none, .store 27 (.tmp 9) (.tmp 23), none⟩] 0)
    (.seq (.reg [2, 7, 8, 9] [⟨(some 10), .alloc 43, none⟩] 0)
    (.seq (.seq (.reg [2, 7, 8, 9, 10] [⟨(some 11), .assign (.const (.int .i64 0)), none⟩] 0)
    (.block 0 (.loop (m7_l0))))
    (.seq (.reg [] [⟨(some 6), .assign (.const (.bool true)), none⟩] 0)
    (.ret))))))))
def fn7 : MFn := ⟨116, [.tmp 6], m7, .shut⟩
theorem fnOk7 : FnOk Try.prog 7 fn7 := ⟨Try.f7, _, fun i => bif Nat.beq i 1000000 then passing else ([[0, 1, 2], [0, 1, 2], [], [0, 1, 2], [1, 2, 7], [2, 7, 8], [2, 7, 8, 9], [2, 7, 8, 9, 10], [2, 7, 8, 9, 10, 11], [2, 7, 8, 9, 10, 11], [2, 7, 8, 9, 10, 11], [2, 7, 8, 9, 10, 11, 12], [2, 7, 8, 9, 10, 11, 12], [2, 7, 8, 9, 10, 11, 12], [2, 7, 8, 9, 10, 11, 12, 13, 14], [2, 7, 8, 9, 10, 11, 12, 13], [2, 7, 8, 9, 10, 11, 12, 13, 15], [], [2, 7, 8, 9, 10, 11, 12, 13], [], [2, 7, 8, 9, 10, 11, 13], [2, 7, 8, 9, 10, 11], [], []] : List (List Nat)).getD i [], Try.func7, rfl, by kernel_rfl, by kernel_rfl, by kernel_rfl, by kernel_rfl⟩
/- seisin/core.Calc -/
def m8 : M :=
  .seq (.reg [0, 1, 2] [⟨(some 6), .assign (.const (.int .u8 0)), none⟩] 0)
    (.seq (.seq (.reg [0, 1, 2] [⟨(some 7), .move (.tmp 0), none⟩] 0)
    (.block 0 (.seq (.reg [1, 2, 7] [⟨(some 9), .binOp .eql 5 (.tmp 7) (.const (.int .u8 1)) 5, none⟩,
       ⟨(some 8), .assign (.tmp 9), none⟩] 0)
     (.cond (.tmp 8) (.seq (.reg [1, 2] [⟨(some 10), .move (.tmp 1), none⟩,
         ⟨(some 11), .move (.tmp 2), none⟩,
         ⟨(some 12), .binOp .add 5 (.tmp 10) (.tmp 11) 5, none⟩,
         ⟨(some 6), .assign (.tmp 12), none⟩] 0)
       (.ret))
       (.seq (.reg [1, 2, 7] [⟨(some 14), .binOp .eql 5 (.tmp 7) (.const (.int .u8 2)) 5, none⟩,
         ⟨(some 13), .assign (.tmp 14), none⟩] 0)
       (.cond (.tmp 13) (.seq (.reg [1, 2] [⟨(some 15), .move (.tmp 1), none⟩,
           ⟨(some 16), .move (.tmp 2), none⟩,
           ⟨(some 17), .binOp .sub 5 (.tmp 15) (.tmp 16) 5, none⟩,
           ⟨(some 6), .assign (.tmp 17), none⟩] 0)
         (.ret))
         (.seq (.reg [1, 2, 7] [⟨(some 19), .binOp .eql 5 (.tmp 7) (.const (.int .u8 3)) 5, none⟩,
           ⟨(some 18), .assign (.tmp 19), none⟩] 0)
         (.cond (.tmp 18) (.seq (.reg [1, 2] [⟨(some 20), .move (.tmp 1), none⟩,
             ⟨(some 21), .move (.tmp 2), none⟩,
             ⟨(some 22), .binOp .xor 5 (.tmp 20) (.tmp 21) 5, none⟩,
             ⟨(some 6), .assign (.tmp 22), none⟩] 0)
           (.ret))
           (.skip)))))))))
    (.seq (.reg [] [⟨(some 6), .assign (.const (.int .u8 0)), none⟩] 0)
    (.ret)))
def fn8 : MFn := ⟨23, [.tmp 6], m8, .shut⟩
theorem fnOk8 : FnOk Try.prog 8 fn8 := ⟨Try.f8, _, fun i => bif Nat.beq i 1000000 then passing else ([[0, 1, 2], [0, 1, 2], [1, 2, 7], [1, 2], [1, 2, 7], [1, 2], [1, 2, 7], [1, 2], []] : List (List Nat)).getD i [], Try.func8, rfl, by kernel_rfl, by kernel_rfl, by kernel_rfl, by kernel_rfl⟩
/- seisin/seisinref30.Calc -/
def m9 : M :=
  .seq (.reg [0, 1, 2] [⟨(some 6), .assign (.const (.int .u8 0)), none⟩] 0)
    (.seq (.reg [0, 1, 2] [⟨(some 7), .assign (.const (.int .i64 0)), none⟩] 0)
    (.seq (.seq (.reg [0, 1, 2, 7] [⟨(some 8), .move (.tmp 0), none⟩] 0)
    (.block 0 (.seq (.reg [1, 2, 7, 8] [⟨(some 10), .binOp .eql 5 (.tmp 8) (.const (.int .u8 1)) 5, none⟩,
       ⟨(some 9), .assign (.tmp 10), none⟩] 0)
     (.cond (.tmp 9) (.reg [1, 2] [⟨(some 11), .move (.tmp 1), none⟩,
         ⟨(some 12), .convert 5 3 (.tmp 11), none⟩,
         ⟨(some 13), .move (.tmp 2), none⟩,
         ⟨(some 14), .convert 5 3 (.tmp 13), none⟩,
         ⟨(some 15), .binOp .add 3 (.tmp 12) (.tmp 14) 3, none⟩,
         ⟨(some 7), .assign (.tmp 15), none⟩] 0)
       (.seq (.reg [1, 2, 7, 8] [⟨(some 17), .binOp .eql 5 (.tmp 8) (.const (.int .u8 2)) 5, none⟩,
         ⟨(some 16), .assign (.tmp 17), none⟩] 0)
       (.cond (.tmp 16) (.reg [1, 2] [⟨(some 18), .move (.tmp 1), none⟩,
           ⟨(some 19), .convert 5 3 (.tmp 18), none⟩,
           ⟨(some 20), .binOp .add 3 (.tmp 19) (.const (.int .i64 256)) 3, none⟩,
           ⟨(some 21), .move (.tmp 2), none⟩,
           ⟨(some 22), .convert 5 3 (.tmp 21), none⟩,
           ⟨(some 23), .binOp .sub 3 (.tmp 20) (.tmp 22) 3, none⟩,
           ⟨(some 7), .assign (.tmp 23), none⟩] 0)
         (.seq (.reg [1, 2, 7, 8] [⟨(some 25), .binOp .eql 5 (.tmp 8) (.const (.int .u8 3)) 5, none⟩,
           ⟨(some 24), .assign (.tmp 25), none⟩] 0)
         (.cond (.tmp 24) (.reg [1, 2] [⟨(some 26), .move (.tmp 1), none⟩,
             ⟨(some 27), .move (.tmp 2), none⟩,
             ⟨(some 28), .binOp .xor 5 (.tmp 26) (.tmp 27) 5, none⟩,
             ⟨(some 29), .convert 5 3 (.tmp 28), none⟩,
             ⟨(some 7), .assign (.tmp 29), none⟩] 0)
           (.skip)))))))))
    (.seq (.reg [7] [⟨(some 30), .move (.tmp 7), none⟩,
      ⟨(some 31), .binOp .rem 3 (.tmp 30) (.const (.int .i64 256)) 3, none⟩,
      ⟨(some 32), .convert 3 5 (.tmp 31), none⟩,
      ⟨(some 6), .assign (.tmp 32), none⟩] 0)
    (.ret))))
def fn9 : MFn := ⟨33, [.tmp 6], m9, .shut⟩
theorem fnOk9 : FnOk Try.prog 9 fn9 := ⟨Try.f9, _, fun i => bif Nat.beq i 1000000 then passing else ([[0, 1, 2], [0, 1, 2], [0, 1, 2, 7], [1, 2, 7, 8], [1, 2], [1, 2, 7, 8], [1, 2], [1, 2, 7, 8], [1, 2], [7]] : List (List Nat)).getD i [], Try.func9, rfl, by kernel_rfl, by kernel_rfl, by kernel_rfl, by kernel_rfl⟩
/- seisin/core.Test -/
def m10 : M :=
  .seq (.reg [0, 1, 2] [⟨(some 6), .assign (.const (.bool false)), none⟩] 0)
    (.seq (.seq (.reg [0, 1, 2] [⟨(some 7), .move (.tmp 0), none⟩] 0)
    (.block 0 (.seq (.reg [1, 2, 7] [⟨(some 9), .binOp .eql 5 (.tmp 7) (.const (.int .u8 4)) 5, none⟩,
       ⟨(some 8), .assign (.tmp 9), none⟩] 0)
     (.cond (.tmp 8) (.seq (.reg [1, 2] [⟨(some 10), .move (.tmp 1), none⟩,
         ⟨(some 11), .move (.tmp 2), none⟩,
         ⟨(some 12), .binOp .eql 5 (.tmp 10) (.tmp 11) 5, none⟩,
         ⟨(some 6), .assign (.tmp 12), none⟩] 0)
       (.ret))
       (.seq (.reg [1, 2, 7] [⟨(some 14), .binOp .eql 5 (.tmp 7) (.const (.int .u8 5)) 5, none⟩,
         ⟨(some 13), .assign (.tmp 14), none⟩] 0)
       (.cond (.tmp 13) (.seq (.reg [1, 2] [⟨(some 15), .move (.tmp 1), none⟩,
           ⟨(some 16), .move (.tmp 2), none⟩,
           ⟨(some 17), .binOp .neq 5 (.tmp 15) (.tmp 16) 5, none⟩,
           ⟨(some 6), .assign (.tmp 17), none⟩] 0)
         (.ret))
         (.seq (.reg [1, 2, 7] [⟨(some 19), .binOp .eql 5 (.tmp 7) (.const (.int .u8 6)) 5, none⟩,
           ⟨(some 18), .assign (.tmp 19), none⟩] 0)
         (.cond (.tmp 18) (.seq (.reg [1, 2] [⟨(some 20), .move (.tmp 1), none⟩,
             ⟨(some 21), .move (.tmp 2), none⟩,
             ⟨(some 22), .binOp .lss 5 (.tmp 20) (.tmp 21) 5, none⟩,
             ⟨(some 6), .assign (.tmp 22), none⟩] 0)
           (.ret))
           (.skip)))))))))
    (.seq (.reg [] [⟨(some 6), .assign (.const (.bool false)), none⟩] 0)
    (.ret)))
def fn10 : MFn := ⟨23, [.tmp 6], m10, .shut⟩
theorem fnOk10 : FnOk Try.prog 10 fn10 := ⟨Try.f10, _, fun i => bif Nat.beq i 1000000 then passing else ([[0, 1, 2], [0, 1, 2], [1, 2, 7], [1, 2], [1, 2, 7], [1, 2], [1, 2, 7], [1, 2], []] : List (List Nat)).getD i [], Try.func10, rfl, by kernel_rfl, by kernel_rfl, by kernel_rfl, by kernel_rfl⟩
/- seisin/seisinref30.Test -/
def m11 : M :=
  .seq (.reg [0, 1, 2] [⟨(some 6), .assign (.const (.bool false)), none⟩] 0)
    (.seq (.reg [0, 1, 2] [⟨(some 7), .move (.tmp 0), none⟩,
      ⟨(some 8), .binOp .eql 5 (.tmp 7) (.const (.int .u8 4)) 5, none⟩,
      ⟨(some 9), .move (.tmp 8), none⟩,
      ⟨(some 10), .move (.tmp 1), (some (9, true))⟩,
      ⟨(some 11), .move (.tmp 2), (some (9, true))⟩,
      ⟨(some 12), .binOp .eql 5 (.tmp 10) (.tmp 11) 5, (some (9, true))⟩,
      ⟨(some 13), .pick (.tmp 9) (.tmp 12) (.const (.bool false)), none⟩,
      ⟨(some 14), .move (.tmp 13), none⟩,
      ⟨(some 15), .move (.tmp 0), (some (14, false))⟩,
      ⟨(some 16), .binOp .eql 5 (.tmp 15) (.const (.int .u8 5)) 5, (some (14, false))⟩,
      ⟨(some 17), .move (.tmp 16), (some (14, false))⟩,
      ⟨(some 18), .move (.tmp 1), (some (17, true))⟩,
      ⟨(some 19), .move (.tmp 2), (some (17, true))⟩,
      ⟨(some 20), .binOp .neq 5 (.tmp 18) (.tmp 19) 5, (some (17, true))⟩,
      ⟨(some 21), .pick (.tmp 17) (.tmp 20) (.const (.bool false)), (some (14, false))⟩,
      ⟨(some 22), .pick (.tmp 14) (.const (.bool true)) (.tmp 21), none⟩,
      ⟨(some 23), .move (.tmp 22), none⟩,
      ⟨(some 24), .move (.tmp 0), (some (23, false))⟩,
      ⟨(some 25), .binOp .eql 5 (.tmp 24) (.const (.int .u8 6)) 5, (some (23, false))⟩,
      ⟨(some 26), .move (.tmp 25), (some (23, false))⟩,
      ⟨(some 27), .move (.tmp 1), (some (26, true))⟩,
      ⟨(some 28), .move (.tmp 2), (some (26, true))⟩,
      ⟨(some 29), .binOp .lss 5 (.tmp 27) (.tmp 28) 5, (some (26, true))⟩,
      ⟨(some 30), .pick (.tmp 26) (.tmp 29) (.const (.bool false)), (some (23, false))⟩,
      ⟨(some 31), .pick (.tmp 23) (.const (.bool true)) (.tmp 30), none⟩,
      ⟨(some 6), .assign (.tmp 31), none⟩] 0)
    (.ret))
def fn11 : MFn := ⟨32, [.tmp 6], m11, .shut⟩
theorem fnOk11 : FnOk Try.prog 11 fn11 := ⟨Try.f11, _, fun i => bif Nat.beq i 1000000 then passing else ([[0, 1, 2], [0, 1, 2]] : List (List Nat)).getD i [], Try.func11, rfl, by kernel_rfl, by kernel_rfl, by kernel_rfl, by kernel_rfl⟩
/- seisin/core.Value -/
def m12 : M :=
  .seq (.reg [0, 1] [⟨(some 2), .box 27 (.tmp 0), none⟩,
      ⟨(some 3), .box 23 (.tmp 1), none⟩,
      ⟨(some 4), .assign (.const (.int .u8 0)), none⟩] 0)
    (.seq (.seq (.reg [2, 3] [⟨(some 5), .fieldAddr 23 (.tmp 3) 0, none⟩,
      ⟨(some 6), .load 4 (.tmp 5), none⟩,
      ⟨(some 7), .unOp .not 4 (.tmp 6), none⟩] 0)
    (.cond (.tmp 7) (.seq (.reg [3] [⟨(some 8), .fieldAddr 23 (.tmp 3) 1, none⟩,
        ⟨(some 9), .load 5 (.tmp 8), none⟩,
        ⟨(some 4), .assign (.tmp 9), none⟩] 0)
      (.ret))
      (.skip)))
    (.seq (.seq (.reg [2, 3] [⟨(some 10), .fieldAddr 23 (.tmp 3) 1, none⟩,
      ⟨(some 11), .load 5 (.tmp 10), none⟩,
      ⟨(some 12), .binOp .lss 5 (.tmp 11) (.const (.int .u8 8)) 5, none⟩] 0)
    (.cond (.tmp 12) (.seq (.reg [2, 3] [⟨(some 13), .fieldAddr 23 (.tmp 3) 1, none⟩,
        ⟨(some 14), .load 5 (.tmp 13), none⟩,
        ⟨(some 15), .fieldAddr 27 (.tmp 2) 1, none⟩,
        ⟨(some 16), .indexAddr 24 (.tmp 15) (.tmp 14), none⟩,
        ⟨(some 17), .load 5 (.tmp 16), none⟩,
        ⟨(some 4), .assign (.tmp 17), none⟩] 0)
      (.ret))
      (.skip)))
    (.seq (.reg [] [⟨(some 4), .assign (.const (.int .u8 0)), none⟩] 0)
    (.ret))))
def fn12 : MFn := ⟨18, [.tmp 4], m12, .shut⟩
theorem fnOk12 : FnOk Try.prog 12 fn12 := ⟨Try.f12, _, fun i => bif Nat.beq i 1000000 then passing else ([[0, 1], [2, 3], [3], [2, 3], [2, 3], []] : List (List Nat)).getD i [], Try.func12, rfl, by kernel_rfl, by kernel_rfl, by kernel_rfl, by kernel_rfl⟩
/- seisin/seisinref30.Value -/
def m13 : M :=
  .seq (.reg [0, 1] [⟨(some 2), .box 27 (.tmp 0), none⟩,
      ⟨(some 3), .box 23 (.tmp 1), none⟩,
      ⟨(some 4), .assign (.const (.int .u8 0)), none⟩] 0)
    (.seq (.seq (.reg [2, 3] [⟨(some 5), .fieldAddr 23 (.tmp 3) 0, none⟩,
      ⟨(some 6), .load 4 (.tmp 5), none⟩,
      ⟨(some 7), .unOp .not 4 (.tmp 6), none⟩] 0)
    (.cond (.tmp 7) (.seq (.reg [3] [⟨(some 8), .fieldAddr 23 (.tmp 3) 1, none⟩,
        ⟨(some 9), .load 5 (.tmp 8), none⟩,
        ⟨(some 4), .assign (.tmp 9), none⟩] 0)
      (.ret))
      (.skip)))
    (.seq (.seq (.reg [2, 3] [⟨(some 10), .fieldAddr 23 (.tmp 3) 1, none⟩,
      ⟨(some 11), .load 5 (.tmp 10), none⟩,
      ⟨(some 12), .binOp .geq 5 (.tmp 11) (.const (.int .u8 8)) 5, none⟩] 0)
    (.cond (.tmp 12) (.seq (.reg [] [⟨(some 4), .assign (.const (.int .u8 0)), none⟩] 0)
      (.ret))
      (.skip)))
    (.seq (.reg [2, 3] [⟨(some 13), .fieldAddr 23 (.tmp 3) 1, none⟩,
      ⟨(some 14), .load 5 (.tmp 13), none⟩,
      ⟨(some 15), .fieldAddr 27 (.tmp 2) 1, none⟩,
      ⟨(some 16), .indexAddr 24 (.tmp 15) (.tmp 14), none⟩,
      ⟨(some 17), .load 5 (.tmp 16), none⟩,
      ⟨(some 4), .assign (.tmp 17), none⟩] 0)
    (.ret))))
def fn13 : MFn := ⟨18, [.tmp 4], m13, .shut⟩
theorem fnOk13 : FnOk Try.prog 13 fn13 := ⟨Try.f13, _, fun i => bif Nat.beq i 1000000 then passing else ([[0, 1], [2, 3], [3], [2, 3], [], [2, 3]] : List (List Nat)).getD i [], Try.func13, rfl, by kernel_rfl, by kernel_rfl, by kernel_rfl, by kernel_rfl⟩
/- seisin/seisinlaw30.awake -/
def m14 : M :=
  .seq (.reg [] [⟨(some 0), .assign (.const (.bool false)), none⟩] 0)
    (.seq (.reg [] [⟨(some 11), .call ⟨.value (.func 25), #[], #[]⟩, none⟩,
      ⟨(some 1), .assign (.tmp 11), none⟩] 0)
    (.seq (.reg [1] [⟨(some 12), .build 35 #[(3, (.const (.int .i64 1)))], none⟩,
      ⟨(some 13), .build 35 #[], none⟩,
      ⟨(some 2), .alloc 35, none⟩,
      ⟨(some 3), .alloc 35, none⟩,
      ⟨none, .store 35 (.tmp 2) (.tmp 12), none⟩,
      ⟨none, .store 35 (.tmp 3) (.tmp 13), none⟩] 0)
    (.seq (.reg [1, 2, 3] [⟨(some 14), .call ⟨.value (.func 21), #[], #[]⟩, none⟩,
      ⟨(some 4), .alloc 27, none⟩,
      ⟨none, .store 27 (.tmp 4) (.tmp 14), none⟩] 0)
    (.seq (.reg [1, 2, 3, 4] [⟨(some 15), .move (.tmp 1), none⟩,
      ⟨(some 16), .load 35 (.tmp 2), none⟩,
      ⟨(some 17), .load 27 (.tmp 4), none⟩,
      ⟨(some 18), .call ⟨.value (.func 15), #[(.tmp 15), (.tmp 16), (.tmp 17)], #[33, 35, 27]⟩, none⟩,
      ⟨(some 19), .move (.tmp 1), none⟩,
      ⟨(some 20), .load 35 (.tmp 3), none⟩,
      ⟨(some 21), .load 27 (.tmp 4), none⟩,
      ⟨(some 22), .call ⟨.value (.func 15), #[(.tmp 19), (.tmp 20), (.tmp 21)], #[33, 35, 27]⟩, none⟩,
      ⟨(some 23), .move (.tmp 1), none⟩,
      ⟨(some 24), .load 27 (.tmp 4), none⟩,
      ⟨(some 25), .call ⟨.value (.func 26), #[(.tmp 23), (.tmp 24)], #[33, 27]⟩, none⟩,
      ⟨(some 7), .alloc 55, none⟩,
      ⟨(some 5), .assign (.tmp 18), none⟩,
      ⟨(some 6), .assign (.tmp 22), none⟩,
      ⟨none, .store 55 (.tmp 7) (.tmp 25), none⟩] 10)
    (.seq (.reg [1, 2, 4, 5, 6, 7] [⟨(some 26), .move (.tmp 1), none⟩,
      ⟨(some 27), .load 35 (.tmp 2), none⟩,
      ⟨(some 28), .load 27 (.tmp 4), none⟩,
      ⟨(some 29), .call ⟨.value (.func 16), #[(.tmp 26), (.tmp 27), (.tmp 28)], #[33, 35, 27]⟩, none⟩,
      ⟨(some 8), .alloc 27, none⟩,
      ⟨none, .store 27 (.tmp 8) (.tmp 29), none⟩] 0)
    (.seq (.reg [1, 2, 5, 6, 7, 8] [⟨(some 30), .move (.tmp 1), none⟩,
      ⟨(some 31), .load 35 (.tmp 2), none⟩,
      ⟨(some 32), .load 27 (.tmp 8), none⟩,
      ⟨(some 33), .call ⟨.value (.func 15), #[(.tmp 30), (.tmp 31), (.tmp 32)], #[33, 35, 27]⟩, none⟩,
      ⟨(some 9), .assign (.tmp 33), none⟩] 0)
    (.seq (.reg [1, 2, 5, 6, 7, 8, 9] [⟨(some 34), .move (.tmp 1), none⟩,
      ⟨(some 35), .load 35 (.tmp 2), none⟩,
      ⟨(some 36), .load 27 (.tmp 8), none⟩,
      ⟨(some 37), .call ⟨.value (.func 16), #[(.tmp 34), (.tmp 35), (.tmp 36)], #[33, 35, 27]⟩, none⟩,
      ⟨(some 10), .alloc 27, none⟩,
      ⟨none, .store 27 (.tmp 10) (.tmp 37), none⟩] 0)
    (.seq (.reg [1, 2, 5, 6, 7, 8, 9, 10] [⟨(some 38), .move (.tmp 5), none⟩,
      ⟨(some 39), .binOp .eql 5 (.tmp 38) (.const (.int .u8 2)) 5, none⟩,
      ⟨(some 40), .move (.tmp 39), none⟩,
      ⟨(some 41), .move (.tmp 6), (some (40, true))⟩,
      ⟨(some 42), .binOp .eql 5 (.tmp 41) (.const (.int .u8 3)) 5, (some (40, true))⟩,
      ⟨(some 43), .pick (.tmp 40) (.tmp 42) (.const (.bool false)), none⟩,
      ⟨(some 44), .move (.tmp 43), none⟩,
      ⟨(some 45), .load 55 (.tmp 7), (some (44, true))⟩,
      ⟨(some 46), .build 55 #[(0, (.const (.int .u8 2))), (2, (.const (.int .u8 1)))], (some (44, true))⟩,
      ⟨(some 47), .binOp .eql 55 (.tmp 45) (.tmp 46) 55, (some (44, true))⟩,
      ⟨(some 48), .pick (.tmp 44) (.tmp 47) (.const (.bool false)), none⟩,
      ⟨(some 49), .move (.tmp 48), none⟩,
      ⟨(some 50), .fieldAddr 27 (.tmp 8) 2, (some (49, true))⟩,
      ⟨(some 51), .load 25 (.tmp 50), (some (49, true))⟩,
      ⟨(some 52), .call ⟨.builtin .len, #[(.tmp 51)], #[25]⟩, (some (49, true))⟩,
      ⟨(some 53), .binOp .eql 3 (.tmp 52) (.const (.int .i64 1)) 3, (some (49, true))⟩,
      ⟨(some 54), .pick (.tmp 49) (.tmp 53) (.const (.bool false)), none⟩,
      ⟨(some 55), .move (.tmp 54), none⟩,
      ⟨(some 56), .fieldAddr 27 (.tmp 8) 2, (some (55, true))⟩,
      ⟨(some 57), .load 25 (.tmp 56), (some (55, true))⟩,
      ⟨(some 58), .indexAddr 25 (.tmp 57) (.const (.int .i64 0)), (some (55, true))⟩,
      ⟨(some 59), .load 59 (.tmp 58), (some (55, true))⟩,
      ⟨(some 60), .build 59 #[(1, (.const (.int .u8 1)))], (some (55, true))⟩,
      ⟨(some 61), .binOp .eql 59 (.tmp 59) (.tmp 60) 59, (some (55, true))⟩,
      ⟨(some 62), .pick (.tmp 55) (.tmp 61) (.const (.bool false)), none⟩,
      ⟨(some 63), .move (.tmp 62), none⟩,
      ⟨(some 64), .move (.tmp 9), (some (63, true))⟩,
      ⟨(some 65), .binOp .eql 5 (.tmp 64) (.const (.int .u8 2)) 5, (some (63, true))⟩,
      ⟨(some 66), .pick (.tmp 63) (.tmp 65) (.const (.bool false)), none⟩,
      ⟨(some 67), .move (.tmp 66), none⟩,
      ⟨(some 68), .fieldAddr 27 (.tmp 10) 1, (some (67, true))⟩,
      ⟨(some 69), .indexAddr 24 (.tmp 68) (.const (.int .i64 1)), (some (67, true))⟩,
      ⟨(some 70), .load 5 (.tmp 69), (some (67, true))⟩,
      ⟨(some 71), .binOp .eql 5 (.tmp 70) (.const (.int .u8 1)) 5, (some (67, true))⟩,
      ⟨(some 72), .pick (.tmp 67) (.tmp 71) (.const (.bool false)), none⟩,
      ⟨(some 73), .move (.tmp 72), none⟩,
      ⟨(some 74), .move (.tmp 1), (some (73, true))⟩,
      ⟨(some 75), .load 35 (.tmp 2), (some (73, true))⟩,
      ⟨(some 76), .load 27 (.tmp 10), (some (73, true))⟩,
      ⟨(some 77), .call ⟨.value (.func 15), #[(.tmp 74), (.tmp 75), (.tmp 76)], #[33, 35, 27]⟩, (some (73, true))⟩,
      ⟨(some 78), .binOp .eql 5 (.tmp 77) (.const (.int .u8 4)) 5, (some (73, true))⟩,
      ⟨(some 79), .pick (.tmp 73) (.tmp 78) (.const (.bool false)), none⟩,
      ⟨(some 0), .assign (.tmp 79), none⟩] 0)
    (.ret)))))))))
def fn14 : MFn := ⟨80, [.tmp 0], m14, .shut⟩
theorem fnOk14 : FnOk Try.prog 14 fn14 := ⟨Try.f14, _, fun i => bif Nat.beq i 1000000 then passing else ([[], [], [1], [1, 2, 3], [1, 2, 3, 4], [1, 2, 4, 5, 6, 7], [1, 2, 5, 6, 7, 8], [1, 2, 5, 6, 7, 8, 9], [1, 2, 5, 6, 7, 8, 9, 10]] : List (List Nat)).getD i [], Try.func14, rfl, by kernel_rfl, by kernel_rfl, by kernel_rfl, by kernel_rfl⟩
/- seisin/core.Next -/
def m15 : M :=
  .seq (.reg [0, 1, 2] [⟨(some 4), .box 35 (.tmp 1), none⟩,
      ⟨(some 5), .box 27 (.tmp 2), none⟩,
      ⟨(some 6), .assign (.const (.int .u8 0)), none⟩] 0)
    (.seq (.reg [0, 4, 5] [⟨(some 12), .fieldAddr 27 (.tmp 5) 2, none⟩,
      ⟨(some 13), .load 25 (.tmp 12), none⟩,
      ⟨(some 14), .call ⟨.builtin .len, #[(.tmp 13)], #[25]⟩, none⟩,
      ⟨(some 15), .binOp .eql 3 (.tmp 14) (.const (.int .i64 0)) 3, none⟩,
      ⟨(some 7), .assign (.tmp 15), none⟩] 0)
    (.seq (.reg [0, 4, 5, 7] [⟨(some 16), .makeFunc (.func 27) #[] #[(.tmp 5)], none⟩,
      ⟨(some 8), .assign (.tmp 16), none⟩] 0)
    (.seq (.seq (.reg [0, 4, 5, 7, 8] [⟨(some 17), .fieldAddr 27 (.tmp 5) 0, none⟩,
      ⟨(some 18), .load 5 (.tmp 17), none⟩,
      ⟨(some 19), .convert 5 3 (.tmp 18), none⟩,
      ⟨(some 20), .move (.tmp 0), none⟩,
      ⟨(some 21), .call ⟨.builtin .len, #[(.tmp 20)], #[33]⟩, none⟩,
      ⟨(some 22), .binOp .geq 3 (.tmp 19) (.tmp 21) 3, none⟩] 0)
    (.cond (.tmp 22) (.seq (.reg [7, 8] [⟨(some 23), .move (.tmp 8), none⟩,
        ⟨(some 24), .move (.tmp 7), none⟩,
        ⟨(some 25), .call ⟨.value (.tmp 23), #[(.const (.int .u8 1)), (.tmp 24)], #[5, 4]⟩, none⟩,
        ⟨(some 6), .assign (.tmp 25), none⟩] 0)
      (.ret))
      (.skip)))
    (.seq (.reg [0, 4, 5, 7, 8] [⟨(some 26), .move (.tmp 0), none⟩,
      ⟨(some 27), .fieldAddr 27 (.tmp 5) 0, none⟩,
      ⟨(some 28), .load 5 (.tmp 27), none⟩,
      ⟨(some 29), .indexAddr 33 (.tmp 26) (.tmp 28), none⟩,
      ⟨(some 30), .load 38 (.tmp 29), none⟩,
      ⟨(some 9), .alloc 38, none⟩,
      ⟨none, .store 38 (.tmp 9) (.tmp 30), none⟩] 0)
    (.seq (.seq (.reg [4, 5, 7, 8, 9] [⟨(some 31), .fieldAddr 38 (.tmp 9) 0, none⟩,
      ⟨(some 32), .load 5 (.tmp 31), none⟩] 0)
    (.block 0 (.seq (.seq (.reg [4, 5, 7, 8, 9, 32] [⟨(some 34), .binOp .eql 5 (.tmp 32) (.const (.int .u8 3)) 5, none⟩,
       ⟨(some 33), .assign (.tmp 34), none⟩] 0)
     (.cond (.tmp 33) (.skip)
       (.reg [4, 5, 7, 8, 9, 32] [⟨(some 35), .binOp .eql 5 (.tmp 32) (.const (.int .u8 8)) 5, none⟩,
         ⟨(some 33), .assign (.tmp 35), none⟩] 0)))
     (.cond (.tmp 33) (.seq (.reg [8] [⟨(some 36), .move (.tmp 8), none⟩,
         ⟨(some 37), .call ⟨.value (.tmp 36), #[(.const (.int .u8 2)), (.const (.bool true))], #[5, 4]⟩, none⟩,
         ⟨(some 6), .assign (.tmp 37), none⟩] 0)
       (.ret))
       (.seq (.reg [4, 5, 7, 8, 9, 32] [⟨(some 39), .binOp .eql 5 (.tmp 32) (.const (.int .u8 7)) 5, none⟩,
         ⟨(some 38), .assign (.tmp 39), none⟩] 0)
       (.cond (.tmp 38) (.seq (.reg [7, 8, 9] [⟨(some 40), .move (.tmp 8), none⟩,
           ⟨(some 41), .move (.tmp 7), none⟩,
           ⟨(some 42), .move (.tmp 41), none⟩,
           ⟨(some 43), .fieldAddr 38 (.tmp 9) 6, (some (42, false))⟩,
           ⟨(some 44), .load 5 (.tmp 43), (some (42, false))⟩,
           ⟨(some 45), .binOp .neq 5 (.tmp 44) (.const (.int .u8 3)) 5, (some (42, false))⟩,
           ⟨(some 46), .pick (.tmp 42) (.const (.bool true)) (.tmp 45), none⟩,
           ⟨(some 47), .call ⟨.value (.tmp 40), #[(.const (.int .u8 2)), (.tmp 46)], #[5, 4]⟩, none⟩,
           ⟨(some 6), .assign (.tmp 47), none⟩] 0)
         (.ret))
         (.seq (.reg [4, 5, 7, 8, 9, 32] [⟨(some 49), .binOp .eql 5 (.tmp 32) (.const (.int .u8 2)) 5, none⟩,
           ⟨(some 48), .assign (.tmp 49), none⟩] 0)
         (.cond (.tmp 48) (.seq (.seq (.reg [4, 5, 8] [⟨(some 50), .fieldAddr 35 (.tmp 4) 3, none⟩,
             ⟨(some 51), .load 3 (.tmp 50), none⟩,
             ⟨(some 52), .binOp .gtr 3 (.tmp 51) (.const (.int .i64 0)) 3, none⟩] 0)
           (.cond (.tmp 52) (.seq (.reg [4, 5, 8] [⟨(some 53), .move (.tmp 8), none⟩,
               ⟨(some 54), .fieldAddr 27 (.tmp 5) 2, none⟩,
               ⟨(some 55), .load 25 (.tmp 54), none⟩,
               ⟨(some 56), .call ⟨.builtin .len, #[(.tmp 55)], #[25]⟩, none⟩,
               ⟨(some 57), .fieldAddr 35 (.tmp 4) 3, none⟩,
               ⟨(some 58), .load 3 (.tmp 57), none⟩,
               ⟨(some 59), .binOp .lss 3 (.tmp 56) (.tmp 58) 3, none⟩,
               ⟨(some 60), .call ⟨.value (.tmp 53), #[(.const (.int .u8 2)), (.tmp 59)], #[5, 4]⟩, none⟩,
               ⟨(some 6), .assign (.tmp 60), none⟩] 0)
             (.ret))
             (.skip)))
           (.seq (.reg [5, 8] [⟨(some 61), .move (.tmp 8), none⟩,
             ⟨(some 62), .fieldAddr 27 (.tmp 5) 4, none⟩,
             ⟨(some 63), .load 4 (.tmp 62), none⟩,
             ⟨(some 64), .unOp .not 4 (.tmp 63), none⟩,
             ⟨(some 65), .call ⟨.value (.tmp 61), #[(.const (.int .u8 3)), (.tmp 64)], #[5, 4]⟩, none⟩,
             ⟨(some 6), .assign (.tmp 65), none⟩] 0)
           (.ret)))
           (.seq (.reg [5, 7, 8, 9, 32] [⟨(some 67), .binOp .eql 5 (.tmp 32) (.const (.int .u8 1)) 5, none⟩,
             ⟨(some 66), .assign (.tmp 67), none⟩] 0)
           (.cond (.tmp 66) (.seq (.seq (.reg [5, 8, 9] [⟨(some 69), .fieldAddr 27 (.tmp 5) 2, none⟩,
               ⟨(some 70), .load 25 (.tmp 69), none⟩,
               ⟨(some 71), .fieldAddr 38 (.tmp 9) 2, none⟩,
               ⟨(some 72), .load 5 (.tmp 71), none⟩,
               ⟨(some 73), .call ⟨.value (.func 28), #[(.tmp 70), (.tmp 72)], #[25, 5]⟩, none⟩,
               ⟨(some 68), .move (.tmp 73), none⟩,
               ⟨(some 74), .extract (.tmp 68) 0, none⟩,
               ⟨(some 75), .extract (.tmp 68) 1, none⟩,
               ⟨(some 10), .assign (.tmp 74), none⟩,
               ⟨(some 11), .assign (.tmp 75), none⟩] 0)
             (.seq (.reg [5, 8, 11] [⟨(some 76), .move (.tmp 11), none⟩] 0)
             (.cond (.tmp 76) (.seq (.reg [8] [⟨(some 77), .move (.tmp 8), none⟩,
                 ⟨(some 78), .call ⟨.value (.tmp 77), #[(.const (.int .u8 2)), (.const (.bool true))], #[5, 4]⟩, none⟩,
                 ⟨(some 6), .assign (.tmp 78), none⟩] 0)
               (.ret))
               (.skip))))
             (.seq (.reg [5, 8] [⟨(some 79), .move (.tmp 8), none⟩,
               ⟨(some 80), .fieldAddr 27 (.tmp 5) 4, none⟩,
               ⟨(some 81), .load 4 (.tmp 80), none⟩,
               ⟨(some 82), .unOp .not 4 (.tmp 81), none⟩,
               ⟨(some 83), .call ⟨.value (.tmp 79), #[(.const (.int .u8 3)), (.tmp 82)], #[5, 4]⟩, none⟩,
               ⟨(some 6), .assign (.tmp 83), none⟩] 0)
             (.ret)))
             (.seq (.seq (.reg [5, 7, 8, 32] [⟨(some 85), .binOp .eql 5 (.tmp 32) (.const (.int .u8 4)) 5, none⟩,
               ⟨(some 84), .assign (.tmp 85), none⟩] 0)
             (.cond (.tmp 84) (.skip)
               (.seq (.reg [5, 7, 8, 32] [⟨(some 86), .binOp .eql 5 (.tmp 32) (.const (.int .u8 5)) 5, none⟩,
                 ⟨(some 84), .assign (.tmp 86), none⟩] 0)
               (.cond (.tmp 84) (.skip)
                 (.reg [5, 7, 8, 32] [⟨(some 87), .binOp .eql 5 (.tmp 32) (.const (.int .u8 6)) 5, none⟩,
                   ⟨(some 84), .assign (.tmp 87), none⟩] 0)))))
             (.cond (.tmp 84) (.seq (.reg [5, 7, 8] [⟨(some 88), .move (.tmp 8), none⟩,
                 ⟨(some 89), .move (.tmp 7), none⟩,
                 ⟨(some 90), .move (.tmp 89), none⟩,
                 ⟨(some 91), .fieldAddr 27 (.tmp 5) 4, (some (90, true))⟩,
                 ⟨(some 92), .load 4 (.tmp 91), (some (90, true))⟩,
                 ⟨(some 93), .unOp .not 4 (.tmp 92), (some (90, true))⟩,
                 ⟨(some 94), .pick (.tmp 90) (.tmp 93) (.const (.bool false)), none⟩,
                 ⟨(some 95), .call ⟨.value (.tmp 88), #[(.const (.int .u8 3)), (.tmp 94)], #[5, 4]⟩, none⟩,
                 ⟨(some 6), .assign (.tmp 95), none⟩] 0)
               (.ret))
               (.skip)))))))))))))
    (.seq (.reg [] [⟨(some 6), .assign (.const (.int .u8 4)), none⟩] 0)
    (.ret)))))))
def fn15 : MFn := ⟨96, [.tmp 6], m15, .shut⟩
theorem fnOk15 : FnOk Try.prog 15 fn15 := ⟨Try.f15, _, fun i => bif Nat.beq i 1000000 then passing else ([[0, 1, 2], [0, 4, 5], [0, 4, 5, 7], [0, 4, 5, 7, 8], [7, 8], [0, 4, 5, 7, 8], [4, 5, 7, 8, 9], [4, 5, 7, 8, 9, 32], [4, 5, 7, 8, 9, 32], [8], [4, 5, 7, 8, 9, 32], [7, 8, 9], [4, 5, 7, 8, 9, 32], [4, 5, 8], [4, 5, 8], [5, 8], [5, 7, 8, 9, 32], [5, 8, 9], [5, 8, 11], [8], [5, 8], [5, 7, 8, 32], [5, 7, 8, 32], [5, 7, 8, 32], [5, 7, 8], []] : List (List Nat)).getD i [], Try.func15, rfl, by kernel_rfl, by kernel_rfl, by kernel_rfl, by kernel_rfl⟩
/- seisin/core.Local -/
def m16 : M :=
  .seq (.reg [0, 1, 2] [⟨(some 4), .box 35 (.tmp 1), none⟩,
      ⟨(some 5), .box 27 (.tmp 2), none⟩,
      ⟨(some 6), .alloc 27, none⟩] 0)
    (.seq (.reg [0, 4, 5, 6] [⟨(some 11), .load 27 (.tmp 5), none⟩,
      ⟨(some 12), .call ⟨.value (.func 29), #[(.tmp 11)], #[27]⟩, none⟩,
      ⟨(some 13), .move (.tmp 0), none⟩,
      ⟨(some 14), .build 68 #[(0, (.tmp 12)), (1, (.tmp 13))], none⟩,
      ⟨(some 7), .alloc 68, none⟩,
      ⟨none, .store 68 (.tmp 7) (.tmp 14), none⟩] 0)
    (.seq (.seq (.reg [0, 4, 5, 6, 7] [⟨(some 15), .move (.tmp 0), none⟩,
      ⟨(some 16), .load 35 (.tmp 4), none⟩,
      ⟨(some 17), .load 27 (.tmp 5), none⟩,
      ⟨(some 18), .call ⟨.value (.func 15), #[(.tmp 15), (.tmp 16), (.tmp 17)], #[33, 35, 27]⟩, none⟩,
      ⟨(some 19), .binOp .neq 5 (.tmp 18) (.const (.int .u8 2)) 5, none⟩] 0)
    (.cond (.tmp 19) (.seq (.reg [6, 7] [⟨(some 20), .fieldAddr 68 (.tmp 7) 0, none⟩,
        ⟨(some 21), .load 27 (.tmp 20), none⟩,
        ⟨none, .store 27 (.tmp 6) (.tmp 21), none⟩] 0)
      (.ret))
      (.skip)))
    (.seq (.reg [0, 5, 6, 7] [⟨(some 22), .move (.tmp 0), none⟩,
      ⟨(some 23), .fieldAddr 27 (.tmp 5) 0, none⟩,
      ⟨(some 24), .load 5 (.tmp 23), none⟩,
      ⟨(some 25), .indexAddr 33 (.tmp 22) (.tmp 24), none⟩,
      ⟨(some 26), .load 38 (.tmp 25), none⟩,
      ⟨(some 27), .fieldAddr 68 (.tmp 7) 2, none⟩,
      ⟨none, .store 38 (.tmp 27) (.tmp 26), none⟩] 0)
    (.seq (.reg [6, 7] [⟨(some 28), .makeMap 72 none, none⟩,
      ⟨none, .insert 72 (.tmp 28) (.const (.int .u8 3)) (.func 30), none⟩,
      ⟨none, .insert 72 (.tmp 28) (.const (.int .u8 8)) (.func 31), none⟩,
      ⟨none, .insert 72 (.tmp 28) (.const (.int .u8 7)) (.func 32), none⟩,
      ⟨none, .insert 72 (.tmp 28) (.const (.int .u8 2)) (.func 33), none⟩,
      ⟨none, .insert 72 (.tmp 28) (.const (.int .u8 1)) (.func 34), none⟩,
      ⟨(some 29), .move (.tmp 28), none⟩,
      ⟨(some 8), .assign (.tmp 29), none⟩] 0)
    (.seq (.seq (.reg [6, 7, 8] [⟨(some 31), .move (.tmp 8), none⟩,
      ⟨(some 32), .fieldAddr 68 (.tmp 7) 2, none⟩,
      ⟨(some 33), .fieldAddr 38 (.tmp 32) 0, none⟩,
      ⟨(some 34), .load 5 (.tmp 33), none⟩,
      ⟨(some 35), .lookup 72 (.tmp 31) (.tmp 34) true, none⟩,
      ⟨(some 30), .move (.tmp 35), none⟩,
      ⟨(some 36), .extract (.tmp 30) 0, none⟩,
      ⟨(some 37), .extract (.tmp 30) 1, none⟩,
      ⟨(some 9), .assign (.tmp 36), none⟩,
      ⟨(some 10), .assign (.tmp 37), none⟩] 0)
    (.seq (.reg [6, 7, 9, 10] [⟨(some 38), .move (.tmp 10), none⟩] 0)
    (.cond (.tmp 38) (.reg [6, 7, 9] [⟨(some 39), .move (.tmp 9), none⟩,
        ⟨(some 40), .call ⟨.value (.tmp 39), #[(.tmp 7)], #[71]⟩, none⟩,
        ⟨(some 41), .call ⟨.value (.func 35), #[(.tmp 7), (.tmp 40)], #[68, 3]⟩, none⟩] 0)
      (.skip))))
    (.seq (.reg [6, 7] [⟨(some 42), .fieldAddr 68 (.tmp 7) 0, none⟩,
      ⟨(some 43), .load 27 (.tmp 42), none⟩,
      ⟨none, .store 27 (.tmp 6) (.tmp 43), none⟩] 0)
    (.ret)))))))
def fn16 : MFn := ⟨44, [.cell 6 27], m16, .shut⟩
theorem fnOk16 : FnOk Try.prog 16 fn16 := ⟨Try.f16, _, fun i => bif Nat.beq i 1000000 then passing else ([[0, 1, 2], [0, 4, 5, 6], [0, 4, 5, 6, 7], [6, 7], [0, 5, 6, 7], [6, 7], [6, 7, 8], [6, 7, 9, 10], [6, 7, 9], [6, 7]] : List (List Nat)).getD i [], Try.func16, rfl, by kernel_rfl, by kernel_rfl, by kernel_rfl, by kernel_rfl⟩
/- seisin/seisinkit.SameCore -/
def m17 : M :=
  .seq (.reg [0, 1] [⟨(some 2), .box 27 (.tmp 0), none⟩,
      ⟨(some 3), .box 27 (.tmp 1), none⟩,
      ⟨(some 4), .assign (.const (.bool false)), none⟩] 0)
    (.seq (.reg [2, 3] [⟨(some 5), .fieldAddr 27 (.tmp 2) 0, none⟩,
      ⟨(some 6), .load 5 (.tmp 5), none⟩,
      ⟨(some 7), .fieldAddr 27 (.tmp 3) 0, none⟩,
      ⟨(some 8), .load 5 (.tmp 7), none⟩,
      ⟨(some 9), .binOp .eql 5 (.tmp 6) (.tmp 8) 5, none⟩,
      ⟨(some 10), .move (.tmp 9), none⟩,
      ⟨(some 11), .fieldAddr 27 (.tmp 2) 1, (some (10, true))⟩,
      ⟨(some 12), .load 24 (.tmp 11), (some (10, true))⟩,
      ⟨(some 13), .fieldAddr 27 (.tmp 3) 1, (some (10, true))⟩,
      ⟨(some 14), .load 24 (.tmp 13), (some (10, true))⟩,
      ⟨(some 15), .binOp .eql 24 (.tmp 12) (.tmp 14) 24, (some (10, true))⟩,
      ⟨(some 16), .pick (.tmp 10) (.tmp 15) (.const (.bool false)), none⟩,
      ⟨(some 17), .move (.tmp 16), none⟩,
      ⟨(some 18), .fieldAddr 27 (.tmp 2) 2, (some (17, true))⟩,
      ⟨(some 19), .load 25 (.tmp 18), (some (17, true))⟩,
      ⟨(some 20), .fieldAddr 27 (.tmp 3) 2, (some (17, true))⟩,
      ⟨(some 21), .load 25 (.tmp 20), (some (17, true))⟩,
      ⟨(some 22), .call ⟨.value (.func 18), #[(.tmp 19), (.tmp 21)], #[25, 25]⟩, (some (17, true))⟩,
      ⟨(some 23), .pick (.tmp 17) (.tmp 22) (.const (.bool false)), none⟩,
      ⟨(some 24), .move (.tmp 23), none⟩,
      ⟨(some 25), .fieldAddr 27 (.tmp 2) 3, (some (24, true))⟩,
      ⟨(some 26), .load 4 (.tmp 25), (some (24, true))⟩,
      ⟨(some 27), .fieldAddr 27 (.tmp 3) 3, (some (24, true))⟩,
      ⟨(some 28), .load 4 (.tmp 27), (some (24, true))⟩,
      ⟨(some 29), .binOp .eql 4 (.tmp 26) (.tmp 28) 4, (some (24, true))⟩,
      ⟨(some 30), .pick (.tmp 24) (.tmp 29) (.const (.bool false)), none⟩,
      ⟨(some 31), .move (.tmp 30), none⟩,
      ⟨(some 32), .fieldAddr 27 (.tmp 2) 4, (some (31, true))⟩,
      ⟨(some 33), .load 4 (.tmp 32), (some (31, true))⟩,
      ⟨(some 34), .fieldAddr 27 (.tmp 3) 4, (some (31, true))⟩,
      ⟨(some 35), .load 4 (.tmp 34), (some (31, true))⟩,
      ⟨(some 36), .binOp .eql 4 (.tmp 33) (.tmp 35) 4, (some (31, true))⟩,
      ⟨(some 37), .pick (.tmp 31) (.tmp 36) (.const (.bool false)), none⟩,
      ⟨(some 4), .assign (.tmp 37), none⟩] 0)
    (.ret))
def fn17 : MFn := ⟨38, [.tmp 4], m17, .shut⟩
theorem fnOk17 : FnOk Try.prog 17 fn17 := ⟨Try.f17, _, fun i => bif Nat.beq i 1000000 then passing else ([[0, 1], [2, 3]] : List (List Nat)).getD i [], Try.func17, rfl, by kernel_rfl, by kernel_rfl, by kernel_rfl, by kernel_rfl⟩
/- seisin/seisinkit.SameStores -/
def m18_l0 : M :=
    .seq (.seq (.reg [0, 1, 5] [⟨(some 11), .move (.tmp 5), none⟩,
      ⟨(some 12), .move (.tmp 0), none⟩,
      ⟨(some 13), .call ⟨.builtin .len, #[(.tmp 12)], #[25]⟩, none⟩,
      ⟨(some 14), .binOp .lss 3 (.tmp 11) (.tmp 13) 3, none⟩] 0)
    (.cond (.tmp 14) (.skip)
      (.exit 0)))
    (.seq (.block 1 (.seq (.reg [0, 1, 5] [⟨(some 17), .move (.tmp 0), none⟩,
       ⟨(some 18), .move (.tmp 5), none⟩,
       ⟨(some 19), .indexAddr 25 (.tmp 17) (.tmp 18), none⟩,
       ⟨(some 20), .load 59 (.tmp 19), none⟩,
       ⟨(some 21), .move (.tmp 1), none⟩,
       ⟨(some 22), .move (.tmp 5), none⟩,
       ⟨(some 23), .indexAddr 25 (.tmp 21) (.tmp 22), none⟩,
       ⟨(some 24), .load 59 (.tmp 23), none⟩,
       ⟨(some 25), .binOp .neq 59 (.tmp 20) (.tmp 24) 59, none⟩] 8)
     (.cond (.tmp 25) (.seq (.reg [] [⟨(some 4), .assign (.const (.bool false)), none⟩] 0)
       (.ret))
       (.skip))))
    (.reg [0, 1, 5] [⟨(some 15), .move (.tmp 5), none⟩,
      ⟨(some 16), .binOp .add 3 (.tmp 15) (.const (.int .i64 1)) 3, none⟩,
      ⟨(some 5), .assign (.tmp 16), none⟩] 0))
theorem u18_l0 {C : Ctx} {k : List It} {st : St} {Q : Ex → St → Prop} : RunK C (.code m18_l0 :: k) st Q ↔ RunK C (.code (.seq (.seq (.reg [0, 1, 5] [⟨(some 11), .move (.tmp 5), none⟩,
      ⟨(some 12), .move (.tmp 0), none⟩,
      ⟨(some 13), .call ⟨.builtin .len, #[(.tmp 12)], #[25]⟩, none⟩,
      ⟨(some 14), .binOp .lss 3 (.tmp 11) (.tmp 13) 3, none⟩] 0)
    (.cond (.tmp 14) (.skip)
      (.exit 0)))
    (.seq (.block 1 (.seq (.reg [0, 1, 5] [⟨(some 17), .move (.tmp 0), none⟩,
       ⟨(some 18), .move (.tmp 5), none⟩,
       ⟨(some 19), .indexAddr 25 (.tmp 17) (.tmp 18), none⟩,
       ⟨(some 20), .load 59 (.tmp 19), none⟩,
       ⟨(some 21), .move (.tmp 1), none⟩,
       ⟨(some 22), .move (.tmp 5), none⟩,
       ⟨(some 23), .indexAddr 25 (.tmp 21) (.tmp 22), none⟩,
       ⟨(some 24), .load 59 (.tmp 23), none⟩,
       ⟨(some 25), .binOp .neq 59 (.tmp 20) (.tmp 24) 59, none⟩] 8)
     (.cond (.tmp 25) (.seq (.reg [] [⟨(some 4), .assign (.const (.bool false)), none⟩] 0)
       (.ret))
       (.skip))))
    (.reg [0, 1, 5] [⟨(some 15), .move (.tmp 5), none⟩,
      ⟨(some 16), .binOp .add 3 (.tmp 15) (.const (.int .i64 1)) 3, none⟩,
      ⟨(some 5), .assign (.tmp 16), none⟩] 0))) :: k) st Q := Iff.rfl
def m18 : M :=
  .seq (.reg [0, 1] [⟨(some 4), .assign (.const (.bool false)), none⟩] 0)
    (.seq (.seq (.reg [0, 1] [⟨(some 6), .move (.tmp 0), none⟩,
      ⟨(some 7), .call ⟨.builtin .len, #[(.tmp 6)], #[25]⟩, none⟩,
      ⟨(some 8), .move (.tmp 1), none⟩,
      ⟨(some 9), .call ⟨.builtin .len, #[(.tmp 8)], #[25]⟩, none⟩,
      ⟨(some 10), .binOp .neq 3 (.tmp 7) (.tmp 9) 3, none⟩] 0)
    (.cond (.tmp 10) (.seq (.reg [] [⟨(some 4), .assign (.const (.bool false)), none⟩] 0)
      (.ret))
      (.skip)))
    (.seq (.seq (.reg [0, 1] [⟨(some 5), .assign (.const (.int .i64 0)), none⟩] 0)
    (.block 0 (.loop (m18_l0))))
    (.seq (.reg [] [⟨(some 4), .assign (.const (.bool true)), none⟩] 0)
    (.ret))))
def fn18 : MFn := ⟨26, [.tmp 4], m18, .shut⟩
theorem fnOk18 : FnOk Try.prog 18 fn18 := ⟨Try.f18, _, fun i => bif Nat.beq i 1000000 then passing else ([[0, 1], [0, 1], [], [0, 1], [0, 1, 5], [0, 1, 5], [0, 1, 5], [], []] : List (List Nat)).getD i [], Try.func18, rfl, by kernel_rfl, by kernel_rfl, by kernel_rfl, by kernel_rfl⟩
/- seisin/seisinlaw30.tame -/
def m19_l0 : M :=
    .seq (.seq (.reg [0, 3, 4] [⟨(some 6), .move (.tmp 4), none⟩,
      ⟨(some 7), .move (.tmp 0), none⟩,
      ⟨(some 8), .call ⟨.builtin .len, #[(.tmp 7)], #[33]⟩, none⟩,
      ⟨(some 9), .binOp .lss 3 (.tmp 6) (.tmp 8) 3, none⟩,
      ⟨(some 10), .move (.tmp 9), none⟩,
      ⟨(some 11), .move (.tmp 4), (some (10, true))⟩,
      ⟨(some 12), .binOp .lss 3 (.tmp 11) (.const (.int .i64 60)) 3, (some (10, true))⟩,
      ⟨(some 13), .pick (.tmp 10) (.tmp 12) (.const (.bool false)), none⟩] 0)
    (.cond (.tmp 13) (.skip)
      (.exit 0)))
    (.seq (.block 1 (.seq (.reg [0, 3, 4] [⟨(some 16), .move (.tmp 0), none⟩,
       ⟨(some 17), .move (.tmp 4), none⟩,
       ⟨(some 18), .indexAddr 33 (.tmp 16) (.tmp 17), none⟩,
       ⟨(some 19), .load 38 (.tmp 18), none⟩,
       ⟨(some 5), .alloc 38, none⟩,
       ⟨none, .store 38 (.tmp 5) (.tmp 19), none⟩] 0)
     (.seq (.reg [0, 3, 4, 5] [⟨(some 20), .fieldAddr 38 (.tmp 5) 0, none⟩,
       ⟨(some 21), .load 5 (.tmp 20), none⟩,
       ⟨(some 22), .binOp .rem 5 (.tmp 21) (.const (.int .u8 8)) 5, none⟩,
       ⟨(some 23), .binOp .add 5 (.const (.int .u8 1)) (.tmp 22) 5, none⟩,
       ⟨(some 24), .fieldAddr 38 (.tmp 5) 0, none⟩,
       ⟨none, .store 5 (.tmp 24) (.tmp 23), none⟩] 0)
     (.seq (.reg [0, 3, 4, 5] [⟨(some 25), .fieldAddr 38 (.tmp 5) 2, none⟩,
       ⟨(some 26), .load 5 (.tmp 25), none⟩,
       ⟨(some 27), .binOp .rem 5 (.tmp 26) (.const (.int .u8 4)) 5, none⟩,
       ⟨(some 28), .fieldAddr 38 (.tmp 5) 2, none⟩,
       ⟨none, .store 5 (.tmp 28) (.tmp 27), none⟩] 0)
     (.reg [0, 3, 4, 5] [⟨(some 29), .move (.tmp 3), none⟩,
       ⟨(some 30), .load 38 (.tmp 5), none⟩,
       ⟨(some 31), .buildSlice 33 1 #[(0, (.tmp 30))], none⟩,
       ⟨(some 32), .call ⟨.builtin .append, #[(.tmp 29), (.tmp 31)], #[33, 33]⟩, none⟩,
       ⟨(some 3), .assign (.tmp 32), none⟩] 0)))))
    (.reg [0, 3, 4] [⟨(some 14), .move (.tmp 4), none⟩,
      ⟨(some 15), .binOp .add 3 (.tmp 14) (.const (.int .i64 1)) 3, none⟩,
      ⟨(some 4), .assign (.tmp 15), none⟩] 0))
theorem u19_l0 {C : Ctx} {k : List It} {st : St} {Q : Ex → St → Prop} : RunK C (.code m19_l0 :: k) st Q ↔ RunK C (.code (.seq (.seq (.reg [0, 3, 4] [⟨(some 6), .move (.tmp 4), none⟩,
      ⟨(some 7), .move (.tmp 0), none⟩,
      ⟨(some 8), .call ⟨.builtin .len, #[(.tmp 7)], #[33]⟩, none⟩,
      ⟨(some 9), .binOp .lss 3 (.tmp 6) (.tmp 8) 3, none⟩,
      ⟨(some 10), .move (.tmp 9), none⟩,
      ⟨(some 11), .move (.tmp 4), (some (10, true))⟩,
      ⟨(some 12), .binOp .lss 3 (.tmp 11) (.const (.int .i64 60)) 3, (some (10, true))⟩,
      ⟨(some 13), .pick (.tmp 10) (.tmp 12) (.const (.bool false)), none⟩] 0)
    (.cond (.tmp 13) (.skip)
      (.exit 0)))
    (.seq (.block 1 (.seq (.reg [0, 3, 4] [⟨(some 16), .move (.tmp 0), none⟩,
       ⟨(some 17), .move (.tmp 4), none⟩,
       ⟨(some 18), .indexAddr 33 (.tmp 16) (.tmp 17), none⟩,
       ⟨(some 19), .load 38 (.tmp 18), none⟩,
       ⟨(some 5), .alloc 38, none⟩,
       ⟨none, .store 38 (.tmp 5) (.tmp 19), none⟩] 0)
     (.seq (.reg [0, 3, 4, 5] [⟨(some 20), .fieldAddr 38 (.tmp 5) 0, none⟩,
       ⟨(some 21), .load 5 (.tmp 20), none⟩,
       ⟨(some 22), .binOp .rem 5 (.tmp 21) (.const (.int .u8 8)) 5, none⟩,
       ⟨(some 23), .binOp .add 5 (.const (.int .u8 1)) (.tmp 22) 5, none⟩,
       ⟨(some 24), .fieldAddr 38 (.tmp 5) 0, none⟩,
       ⟨none, .store 5 (.tmp 24) (.tmp 23), none⟩] 0)
     (.seq (.reg [0, 3, 4, 5] [⟨(some 25), .fieldAddr 38 (.tmp 5) 2, none⟩,
       ⟨(some 26), .load 5 (.tmp 25), none⟩,
       ⟨(some 27), .binOp .rem 5 (.tmp 26) (.const (.int .u8 4)) 5, none⟩,
       ⟨(some 28), .fieldAddr 38 (.tmp 5) 2, none⟩,
       ⟨none, .store 5 (.tmp 28) (.tmp 27), none⟩] 0)
     (.reg [0, 3, 4, 5] [⟨(some 29), .move (.tmp 3), none⟩,
       ⟨(some 30), .load 38 (.tmp 5), none⟩,
       ⟨(some 31), .buildSlice 33 1 #[(0, (.tmp 30))], none⟩,
       ⟨(some 32), .call ⟨.builtin .append, #[(.tmp 29), (.tmp 31)], #[33, 33]⟩, none⟩,
       ⟨(some 3), .assign (.tmp 32), none⟩] 0)))))
    (.reg [0, 3, 4] [⟨(some 14), .move (.tmp 4), none⟩,
      ⟨(some 15), .binOp .add 3 (.tmp 14) (.const (.int .i64 1)) 3, none⟩,
      ⟨(some 4), .assign (.tmp 15), none⟩] 0))) :: k) st Q := Iff.rfl
def m19 : M :=
  .seq (.reg [0] [⟨(some 2), .assign (.const (.slice none 0 0)), none⟩] 0)
    (.seq (.reg [0] [⟨(some 3), .assign (.const (.slice none 0 0)), none⟩] 0)
    (.seq (.seq (.reg [0, 3] [⟨(some 4), .assign (.const (.int .i64 0)), none⟩] 0)
    (.block 0 (.loop (m19_l0))))
    (.seq (.reg [3] [⟨(some 33), .move (.tmp 3), none⟩,
      ⟨(some 2), .assign (.tmp 33), none⟩] 0)
    (.ret))))
def fn19 : MFn := ⟨34, [.tmp 2], m19, .norm⟩
theorem fnOk19 : FnOk Try.prog 19 fn19 := ⟨Try.f19, _, fun i => bif Nat.beq i 1000000 then passing else ([[0], [0], [0, 3], [0, 3, 4], [0, 3, 4], [0, 3, 4], [0, 3, 4, 5], [0, 3, 4, 5], [0, 3, 4, 5], [3]] : List (List Nat)).getD i [], Try.func19, rfl, by kernel_rfl, by kernel_rfl, by kernel_rfl, by kernel_rfl⟩
/- seisin/seisinkit.Pick -/
def m20 : M :=
  .seq (.reg [0, 1] [⟨(some 4), .assign (.const (.int .i64 0)), none⟩] 0)
    (.seq (.seq (.reg [0, 1] [⟨(some 5), .move (.tmp 1), none⟩,
      ⟨(some 6), .binOp .lss 3 (.tmp 5) (.const (.int .i64 1)) 3, none⟩] 0)
    (.cond (.tmp 6) (.seq (.reg [] [⟨(some 4), .assign (.const (.int .i64 0)), none⟩] 0)
      (.ret))
      (.skip)))
    (.seq (.reg [0, 1] [⟨(some 7), .move (.tmp 0), none⟩,
      ⟨(some 8), .move (.tmp 1), none⟩,
      ⟨(some 9), .binOp .rem 3 (.tmp 7) (.tmp 8) 3, none⟩,
      ⟨(some 0), .assign (.tmp 9), none⟩] 0)
    (.seq (.seq (.reg [0, 1] [⟨(some 10), .move (.tmp 0), none⟩,
      ⟨(some 11), .binOp .lss 3 (.tmp 10) (.const (.int .i64 0)) 3, none⟩] 0)
    (.cond (.tmp 11) (.reg [0, 1] [⟨(some 12), .move (.tmp 0), none⟩,
        ⟨(some 13), .move (.tmp 1), none⟩,
        ⟨(some 14), .binOp .add 3 (.tmp 12) (.tmp 13) 3, none⟩,
        ⟨(some 0), .assign (.tmp 14), none⟩] 0)
      (.skip)))
    (.seq (.reg [0] [⟨(some 15), .move (.tmp 0), none⟩,
      ⟨(some 4), .assign (.tmp 15), none⟩] 0)
    (.ret)))))
def fn20 : MFn := ⟨16, [.tmp 4], m20, .shut⟩
theorem fnOk20 : FnOk Try.prog 20 fn20 := ⟨Try.f20, _, fun i => bif Nat.beq i 1000000 then passing else ([[0, 1], [0, 1], [], [0, 1], [0, 1], [0, 1], [0]] : List (List Nat)).getD i [], Try.func20, rfl, by kernel_rfl, by kernel_rfl, by kernel_rfl, by kernel_rfl⟩
/- seisin/core.New -/
def m21 : M :=
  .seq (.reg [] [⟨(some 0), .alloc 27, none⟩] 0)
    (.seq (.reg [0] [⟨(some 1), .build 27 #[], none⟩,
      ⟨none, .store 27 (.tmp 0) (.tmp 1), none⟩] 0)
    (.ret))
def fn21 : MFn := ⟨2, [.cell 0 27], m21, .norm⟩
theorem fnOk21 : FnOk Try.prog 21 fn21 := ⟨Try.f21, _, fun i => bif Nat.beq i 1000000 then passing else ([[], [0]] : List (List Nat)).getD i [], Try.func21, rfl, by kernel_rfl, by kernel_rfl, by kernel_rfl, by kernel_rfl⟩
/- seisin/seisinlaw30.alone -/
def m22 : M :=
  .seq (.reg [0, 1, 2, 3, 4] [⟨(some 6), .box 35 (.tmp 1), none⟩,
      ⟨(some 7), .box 27 (.tmp 2), none⟩,
      ⟨(some 10), .alloc 27, none⟩,
      ⟨(some 11), .assign (.const (.bool false)), none⟩] 0)
    (.seq (.reg [0, 3, 4, 6, 7, 10] [⟨(some 15), .move (.tmp 0), none⟩,
      ⟨(some 16), .load 35 (.tmp 6), none⟩,
      ⟨(some 17), .load 27 (.tmp 7), none⟩,
      ⟨(some 18), .call ⟨.value (.func 15), #[(.tmp 15), (.tmp 16), (.tmp 17)], #[33, 35, 27]⟩, none⟩,
      ⟨(some 12), .assign (.tmp 18), none⟩] 0)
    (.seq (.reg [0, 3, 4, 6, 7, 10, 12] [⟨(some 20), .load 27 (.tmp 7), none⟩,
      ⟨(some 21), .call ⟨.value (.func 24), #[(.tmp 20)], #[27]⟩, none⟩,
      ⟨(some 19), .move (.tmp 21), none⟩,
      ⟨(some 22), .extract (.tmp 19) 0, none⟩,
      ⟨(some 23), .extract (.tmp 19) 1, none⟩,
      ⟨(some 13), .alloc 55, none⟩,
      ⟨none, .store 55 (.tmp 13) (.tmp 22), none⟩,
      ⟨(some 14), .assign (.tmp 23), none⟩] 0)
    (.seq (.seq (.reg [0, 3, 4, 6, 7, 10, 12, 13, 14] [⟨(some 24), .move (.tmp 14), none⟩,
      ⟨(some 25), .move (.tmp 24), none⟩,
      ⟨(some 26), .move (.tmp 4), (some (25, true))⟩,
      ⟨(some 27), .move (.tmp 26), (some (25, true))⟩,
      ⟨(some 28), .move (.tmp 12), (some (27, false))⟩,
      ⟨(some 29), .binOp .eql 5 (.tmp 28) (.const (.int .u8 4)) 5, (some (27, false))⟩,
      ⟨(some 30), .pick (.tmp 27) (.const (.bool true)) (.tmp 29), (some (25, true))⟩,
      ⟨(some 31), .pick (.tmp 25) (.tmp 30) (.const (.bool false)), none⟩] 0)
    (.cond (.tmp 31) (.seq (.reg [0, 3, 7, 10, 13] [⟨(some 32), .fieldAddr 27 (.tmp 7) 4, none⟩,
        ⟨none, .store 4 (.tmp 32) (.const (.bool true)), none⟩] 0)
      (.seq (.seq (.reg [0, 3, 7, 10, 13] [⟨(some 33), .move (.tmp 0), none⟩,
        ⟨(some 34), .load 27 (.tmp 7), none⟩,
        ⟨(some 35), .move (.tmp 3), none⟩] 3)
      (.seq (.ops [⟨(some 36), .load 55 (.tmp 13), none⟩])
      (.seq (.again [⟨(some 34), .load 27 (.tmp 7), none⟩])
      (.seq (.ops [⟨(some 37), .call ⟨.value (.func 37), #[(.tmp 35), (.tmp 36)], #[50, 55]⟩, none⟩])
      (.seq (.again [⟨(some 34), .load 27 (.tmp 7), none⟩])
      (.seq (.ops [⟨(some 38), .call ⟨.value (.func 36), #[(.tmp 33), (.tmp 34), (.tmp 37)], #[33, 27, 77]⟩, none⟩])
      (.seq (.again [])
      (.seq (.ops [⟨none, .store 27 (.tmp 10) (.tmp 38), none⟩])
      (.seq (.again [])
      (.seq (.ops [⟨(some 11), .assign (.const (.bool true)), none⟩])
      (.seq (.again [])
      (.skip))))))))))))
      (.ret)))
      (.skip)))
    (.seq (.seq (.reg [0, 3, 6, 7, 10, 12, 13] [⟨(some 39), .move (.tmp 12), none⟩] 0)
    (.block 0 (.seq (.reg [0, 3, 6, 7, 10, 13, 39] [⟨(some 41), .binOp .eql 5 (.tmp 39) (.const (.int .u8 2)) 5, none⟩,
       ⟨(some 40), .assign (.tmp 41), none⟩] 0)
     (.cond (.tmp 40) (.seq (.reg [0, 6, 7, 10] [⟨(some 42), .move (.tmp 0), none⟩,
         ⟨(some 43), .load 35 (.tmp 6), none⟩,
         ⟨(some 44), .load 27 (.tmp 7), none⟩,
         ⟨(some 45), .call ⟨.value (.func 16), #[(.tmp 42), (.tmp 43), (.tmp 44)], #[33, 35, 27]⟩, none⟩,
         ⟨none, .store 27 (.tmp 10) (.tmp 45), none⟩,
         ⟨(some 11), .assign (.const (.bool true)), none⟩] 0)
       (.ret))
       (.seq (.reg [0, 3, 7, 10, 13, 39] [⟨(some 47), .binOp .eql 5 (.tmp 39) (.const (.int .u8 3)) 5, none⟩,
         ⟨(some 46), .assign (.tmp 47), none⟩] 0)
       (.cond (.tmp 46) (.seq (.reg [0, 3, 7, 10, 13] [⟨(some 48), .move (.tmp 0), none⟩,
           ⟨(some 49), .load 27 (.tmp 7), none⟩,
           ⟨(some 50), .call ⟨.value (.func 26), #[(.tmp 48), (.tmp 49)], #[33, 27]⟩, none⟩,
           ⟨none, .store 55 (.tmp 13) (.tmp 50), none⟩] 0)
         (.seq (.reg [0, 3, 7, 10, 13] [⟨(some 51), .fieldAddr 27 (.tmp 7) 3, none⟩,
           ⟨none, .store 4 (.tmp 51) (.const (.bool true)), none⟩] 0)
         (.seq (.seq (.reg [0, 3, 7, 10, 13] [⟨(some 52), .move (.tmp 0), none⟩,
           ⟨(some 53), .load 27 (.tmp 7), none⟩,
           ⟨(some 54), .move (.tmp 3), none⟩] 3)
         (.seq (.ops [⟨(some 55), .load 55 (.tmp 13), none⟩])
         (.seq (.again [⟨(some 53), .load 27 (.tmp 7), none⟩])
         (.seq (.ops [⟨(some 56), .call ⟨.value (.func 37), #[(.tmp 54), (.tmp 55)], #[50, 55]⟩, none⟩])
         (.seq (.again [⟨(some 53), .load 27 (.tmp 7), none⟩])
         (.seq (.ops [⟨(some 57), .call ⟨.value (.func 36), #[(.tmp 52), (.tmp 53), (.tmp 56)], #[33, 27, 77]⟩, none⟩])
         (.seq (.again [])
         (.seq (.ops [⟨none, .store 27 (.tmp 10) (.tmp 57), none⟩])
         (.seq (.again [])
         (.seq (.ops [⟨(some 11), .assign (.const (.bool true)), none⟩])
         (.seq (.again [])
         (.skip))))))))))))
         (.ret))))
         (.skip)))))))
    (.seq (.reg [7, 10] [⟨(some 58), .load 27 (.tmp 7), none⟩,
      ⟨none, .store 27 (.tmp 10) (.tmp 58), none⟩,
      ⟨(some 11), .assign (.const (.bool false)), none⟩] 0)
    (.ret))))))
def fn22 : MFn := ⟨59, [.cell 10 27, .tmp 11], m22, .pass⟩
theorem fnOk22 : FnOk Try.prog 22 fn22 := ⟨Try.f22, _, fun i => bif Nat.beq i 1000000 then passing else ([[0, 1, 2, 3, 4], [0, 3, 4, 6, 7, 10], [0, 3, 4, 6, 7, 10, 12], [0, 3, 4, 6, 7, 10, 12, 13, 14], [0, 3, 7, 10, 13], [0, 3, 7, 10, 13], [0, 3, 6, 7, 10, 12, 13], [0, 3, 6, 7, 10, 13, 39], [0, 6, 7, 10], [0, 3, 7, 10, 13, 39], [0, 3, 7, 10, 13], [0, 3, 7, 10, 13], [0, 3, 7, 10, 13], [7, 10]] : List (List Nat)).getD i [], Try.func22, rfl, by kernel_rfl, by kernel_rfl, by kernel_rfl, by kernel_rfl⟩
/- seisin/seisinlaw30.plain -/
def m23_l0 : M :=
    .seq (.seq (.reg [0, 3, 4, 5, 6, 7] [⟨(some 13), .move (.tmp 7), none⟩,
      ⟨(some 14), .move (.tmp 0), none⟩,
      ⟨(some 15), .call ⟨.builtin .len, #[(.tmp 14)], #[33]⟩, none⟩,
      ⟨(some 16), .binOp .lss 3 (.tmp 13) (.tmp 15) 3, none⟩] 0)
    (.cond (.tmp 16) (.skip)
      (.exit 0)))
    (.seq (.block 1 (.seq (.reg [0, 3, 4, 5, 6, 7] [⟨(some 19), .move (.tmp 0), none⟩,
       ⟨(some 20), .move (.tmp 7), none⟩,
       ⟨(some 21), .indexAddr 33 (.tmp 19) (.tmp 20), none⟩,
       ⟨(some 22), .load 38 (.tmp 21), none⟩,
       ⟨(some 8), .alloc 38, none⟩,
       ⟨none, .store 38 (.tmp 8) (.tmp 22), none⟩] 0)
     (.seq (.reg [0, 3, 4, 5, 6, 7, 8] [⟨(some 23), .load 27 (.tmp 6), none⟩,
       ⟨(some 24), .fieldAddr 38 (.tmp 8) 3, none⟩,
       ⟨(some 25), .load 23 (.tmp 24), none⟩,
       ⟨(some 26), .call ⟨.value (.func 12), #[(.tmp 23), (.tmp 25)], #[27, 23]⟩, none⟩,
       ⟨(some 27), .load 27 (.tmp 6), none⟩,
       ⟨(some 28), .fieldAddr 38 (.tmp 8) 4, none⟩,
       ⟨(some 29), .load 23 (.tmp 28), none⟩,
       ⟨(some 30), .call ⟨.value (.func 12), #[(.tmp 27), (.tmp 29)], #[27, 23]⟩, none⟩,
       ⟨(some 9), .assign (.tmp 26), none⟩,
       ⟨(some 10), .assign (.tmp 30), none⟩] 7)
     (.seq (.reg [0, 3, 4, 5, 6, 7, 8, 9, 10] [⟨(some 31), .fieldAddr 38 (.tmp 8) 2, none⟩,
       ⟨(some 32), .load 5 (.tmp 31), none⟩,
       ⟨(some 33), .binOp .rem 5 (.tmp 32) (.const (.int .u8 4)) 5, none⟩,
       ⟨(some 34), .indexAddr 43 (.tmp 3) (.tmp 33), none⟩,
       ⟨(some 11), .assign (.tmp 34), none⟩] 0)
     (.seq (.reg [0, 3, 4, 5, 6, 7, 8, 9, 10, 11] [⟨(some 35), .move (.tmp 11), none⟩,
       ⟨(some 36), .nilCheck (.tmp 35), none⟩,
       ⟨(some 37), .load 5 (.tmp 36), none⟩,
       ⟨(some 12), .assign (.tmp 37), none⟩] 0)
     (.seq (.seq (.reg [0, 3, 4, 5, 6, 7, 8, 9, 10, 11, 12] [⟨(some 38), .fieldAddr 38 (.tmp 8) 0, none⟩,
       ⟨(some 39), .load 5 (.tmp 38), none⟩] 0)
     (.block 2 (.seq (.seq (.reg [0, 3, 4, 5, 6, 7, 8, 9, 10, 11, 12, 39] [⟨(some 41), .binOp .eql 5 (.tmp 39) (.const (.int .u8 2)) 5, none⟩,
        ⟨(some 40), .assign (.tmp 41), none⟩] 0)
      (.cond (.tmp 40) (.skip)
        (.reg [0, 3, 4, 5, 6, 7, 8, 9, 10, 11, 12, 39] [⟨(some 42), .binOp .eql 5 (.tmp 39) (.const (.int .u8 4)) 5, none⟩,
          ⟨(some 40), .assign (.tmp 42), none⟩] 0)))
      (.cond (.tmp 40) (.reg [0, 3, 4, 5, 6, 7, 8, 9, 10, 11, 12] [⟨(some 43), .move (.tmp 11), none⟩,
          ⟨(some 44), .move (.tmp 9), none⟩,
          ⟨(some 45), .nilCheck (.tmp 43), none⟩,
          ⟨none, .store 5 (.tmp 45) (.tmp 44), none⟩] 0)
        (.seq (.reg [0, 3, 4, 5, 6, 7, 8, 9, 10, 11, 12, 39] [⟨(some 47), .binOp .eql 5 (.tmp 39) (.const (.int .u8 5)) 5, none⟩,
          ⟨(some 46), .assign (.tmp 47), none⟩] 0)
        (.cond (.tmp 46) (.reg [0, 3, 4, 5, 6, 7, 8, 9, 10, 11, 12] [⟨(some 48), .move (.tmp 11), none⟩,
            ⟨(some 49), .move (.tmp 12), none⟩,
            ⟨(some 50), .move (.tmp 9), none⟩,
            ⟨(some 51), .binOp .add 5 (.tmp 49) (.tmp 50) 5, none⟩,
            ⟨(some 52), .nilCheck (.tmp 48), none⟩,
            ⟨none, .store 5 (.tmp 52) (.tmp 51), none⟩] 0)
          (.seq (.reg [0, 3, 4, 5, 6, 7, 8, 9, 10, 11, 12, 39] [⟨(some 54), .binOp .eql 5 (.tmp 39) (.const (.int .u8 6)) 5, none⟩,
            ⟨(some 53), .assign (.tmp 54), none⟩] 0)
          (.cond (.tmp 53) (.seq (.reg [0, 3, 4, 5, 6, 7, 8, 9, 10, 11, 12] [⟨(some 55), .move (.tmp 12), none⟩,
              ⟨(some 56), .move (.tmp 9), none⟩,
              ⟨(some 57), .binOp .eql 5 (.tmp 55) (.tmp 56) 5, none⟩] 0)
            (.cond (.tmp 57) (.reg [0, 3, 4, 5, 6, 7, 8, 9, 10, 11, 12] [⟨(some 58), .move (.tmp 11), none⟩,
                ⟨(some 59), .move (.tmp 10), none⟩,
                ⟨(some 60), .nilCheck (.tmp 58), none⟩,
                ⟨none, .store 5 (.tmp 60) (.tmp 59), none⟩] 0)
              (.skip)))
            (.seq (.reg [0, 3, 4, 5, 6, 7, 8, 9, 10, 12, 39] [⟨(some 62), .binOp .eql 5 (.tmp 39) (.const (.int .u8 8)) 5, none⟩,
              ⟨(some 61), .assign (.tmp 62), none⟩] 0)
            (.cond (.tmp 61) (.seq (.reg [0, 3, 4, 5, 6, 7, 8, 9, 10, 12] [⟨(some 63), .fieldAddr 38 (.tmp 8) 5, none⟩,
                ⟨(some 64), .load 5 (.tmp 63), none⟩,
                ⟨(some 65), .move (.tmp 9), none⟩,
                ⟨(some 66), .move (.tmp 10), none⟩,
                ⟨(some 67), .call ⟨.value (.func 10), #[(.tmp 64), (.tmp 65), (.tmp 66)], #[5, 5, 5]⟩, none⟩] 0)
              (.cond (.tmp 67) (.reg [0, 3, 4, 5, 6, 7, 8, 9, 10, 12] [⟨(some 68), .move (.tmp 7), none⟩,
                  ⟨(some 69), .fieldAddr 38 (.tmp 8) 7, none⟩,
                  ⟨(some 70), .load 5 (.tmp 69), none⟩,
                  ⟨(some 71), .convert 5 3 (.tmp 70), none⟩,
                  ⟨(some 72), .binOp .add 3 (.tmp 68) (.tmp 71) 3, none⟩,
                  ⟨(some 7), .assign (.tmp 72), none⟩] 0)
                (.skip)))
              (.skip)))))))))))
     (.seq (.seq (.reg [0, 3, 4, 5, 6, 7, 8, 9, 10, 12] [⟨(some 73), .fieldAddr 38 (.tmp 8) 1, none⟩,
       ⟨(some 74), .load 5 (.tmp 73), none⟩,
       ⟨(some 75), .binOp .geq 5 (.tmp 74) (.const (.int .u8 8)) 5, none⟩] 0)
     (.cond (.tmp 75) (.exit 1)
       (.skip)))
     (.seq (.reg [0, 3, 4, 5, 6, 7, 8, 9, 10, 12] [⟨(some 76), .fieldAddr 38 (.tmp 8) 0, none⟩,
       ⟨(some 77), .load 5 (.tmp 76), none⟩] 0)
     (.block 3 (.seq (.reg [0, 3, 4, 5, 6, 7, 8, 9, 10, 12, 77] [⟨(some 79), .binOp .eql 5 (.tmp 77) (.const (.int .u8 3)) 5, none⟩,
        ⟨(some 78), .assign (.tmp 79), none⟩] 0)
      (.cond (.tmp 78) (.reg [0, 3, 4, 5, 6, 7, 8, 9, 10] [⟨(some 80), .fieldAddr 38 (.tmp 8) 1, none⟩,
          ⟨(some 81), .load 5 (.tmp 80), none⟩,
          ⟨(some 82), .fieldAddr 38 (.tmp 8) 5, none⟩,
          ⟨(some 83), .load 5 (.tmp 82), none⟩,
          ⟨(some 84), .move (.tmp 9), none⟩,
          ⟨(some 85), .move (.tmp 10), none⟩,
          ⟨(some 86), .call ⟨.value (.func 8), #[(.tmp 83), (.tmp 84), (.tmp 85)], #[5, 5, 5]⟩, none⟩,
          ⟨(some 87), .fieldAddr 27 (.tmp 6) 1, none⟩,
          ⟨(some 88), .indexAddr 24 (.tmp 87) (.tmp 81), none⟩,
          ⟨none, .store 5 (.tmp 88) (.tmp 86), none⟩] 8)
        (.seq (.seq (.reg [0, 3, 4, 5, 6, 7, 8, 12, 77] [⟨(some 90), .binOp .eql 5 (.tmp 77) (.const (.int .u8 1)) 5, none⟩,
          ⟨(some 89), .assign (.tmp 90), none⟩] 0)
        (.cond (.tmp 89) (.skip)
          (.seq (.reg [0, 3, 4, 5, 6, 7, 8, 12, 77] [⟨(some 91), .binOp .eql 5 (.tmp 77) (.const (.int .u8 4)) 5, none⟩,
            ⟨(some 89), .assign (.tmp 91), none⟩] 0)
          (.cond (.tmp 89) (.skip)
            (.seq (.reg [0, 3, 4, 5, 6, 7, 8, 12, 77] [⟨(some 92), .binOp .eql 5 (.tmp 77) (.const (.int .u8 5)) 5, none⟩,
              ⟨(some 89), .assign (.tmp 92), none⟩] 0)
            (.cond (.tmp 89) (.skip)
              (.reg [0, 3, 4, 5, 6, 7, 8, 12, 77] [⟨(some 93), .binOp .eql 5 (.tmp 77) (.const (.int .u8 6)) 5, none⟩,
                ⟨(some 89), .assign (.tmp 93), none⟩] 0)))))))
        (.cond (.tmp 89) (.reg [0, 3, 4, 5, 6, 7, 8, 12] [⟨(some 94), .fieldAddr 38 (.tmp 8) 1, none⟩,
            ⟨(some 95), .load 5 (.tmp 94), none⟩,
            ⟨(some 96), .move (.tmp 12), none⟩,
            ⟨(some 97), .fieldAddr 27 (.tmp 6) 1, none⟩,
            ⟨(some 98), .indexAddr 24 (.tmp 97) (.tmp 95), none⟩,
            ⟨none, .store 5 (.tmp 98) (.tmp 96), none⟩] 0)
          (.skip))))))))))))))
    (.reg [0, 3, 4, 5, 6, 7] [⟨(some 17), .move (.tmp 7), none⟩,
      ⟨(some 18), .binOp .add 3 (.tmp 17) (.const (.int .i64 1)) 3, none⟩,
      ⟨(some 7), .assign (.tmp 18), none⟩] 0))
theorem u23_l0 {C : Ctx} {k : List It} {st : St} {Q : Ex → St → Prop} : RunK C (.code m23_l0 :: k) st Q ↔ RunK C (.code (.seq (.seq (.reg [0, 3, 4, 5, 6, 7] [⟨(some 13), .move (.tmp 7), none⟩,
      ⟨(some 14), .move (.tmp 0), none⟩,
      ⟨(some 15), .call ⟨.builtin .len, #[(.tmp 14)], #[33]⟩, none⟩,
      ⟨(some 16), .binOp .lss 3 (.tmp 13) (.tmp 15) 3, none⟩] 0)
    (.cond (.tmp 16) (.skip)
      (.exit 0)))
    (.seq (.block 1 (.seq (.reg [0, 3, 4, 5, 6, 7] [⟨(some 19), .move (.tmp 0), none⟩,
       ⟨(some 20), .move (.tmp 7), none⟩,
       ⟨(some 21), .indexAddr 33 (.tmp 19) (.tmp 20), none⟩,
       ⟨(some 22), .load 38 (.tmp 21), none⟩,
       ⟨(some 8), .alloc 38, none⟩,
       ⟨none, .store 38 (.tmp 8) (.tmp 22), none⟩] 0)
     (.seq (.reg [0, 3, 4, 5, 6, 7, 8] [⟨(some 23), .load 27 (.tmp 6), none⟩,
       ⟨(some 24), .fieldAddr 38 (.tmp 8) 3, none⟩,
       ⟨(some 25), .load 23 (.tmp 24), none⟩,
       ⟨(some 26), .call ⟨.value (.func 12), #[(.tmp 23), (.tmp 25)], #[27, 23]⟩, none⟩,
       ⟨(some 27), .load 27 (.tmp 6), none⟩,
       ⟨(some 28), .fieldAddr 38 (.tmp 8) 4, none⟩,
       ⟨(some 29), .load 23 (.tmp 28), none⟩,
       ⟨(some 30), .call ⟨.value (.func 12), #[(.tmp 27), (.tmp 29)], #[27, 23]⟩, none⟩,
       ⟨(some 9), .assign (.tmp 26), none⟩,
       ⟨(some 10), .assign (.tmp 30), none⟩] 7)
     (.seq (.reg [0, 3, 4, 5, 6, 7, 8, 9, 10] [⟨(some 31), .fieldAddr 38 (.tmp 8) 2, none⟩,
       ⟨(some 32), .load 5 (.tmp 31), none⟩,
       ⟨(some 33), .binOp .rem 5 (.tmp 32) (.const (.int .u8 4)) 5, none⟩,
       ⟨(some 34), .indexAddr 43 (.tmp 3) (.tmp 33), none⟩,
       ⟨(some 11), .assign (.tmp 34), none⟩] 0)
     (.seq (.reg [0, 3, 4, 5, 6, 7, 8, 9, 10, 11] [⟨(some 35), .move (.tmp 11), none⟩,
       ⟨(some 36), .nilCheck (.tmp 35), none⟩,
       ⟨(some 37), .load 5 (.tmp 36), none⟩,
       ⟨(some 12), .assign (.tmp 37), none⟩] 0)
     (.seq (.seq (.reg [0, 3, 4, 5, 6, 7, 8, 9, 10, 11, 12] [⟨(some 38), .fieldAddr 38 (.tmp 8) 0, none⟩,
       ⟨(some 39), .load 5 (.tmp 38), none⟩] 0)
     (.block 2 (.seq (.seq (.reg [0, 3, 4, 5, 6, 7, 8, 9, 10, 11, 12, 39] [⟨(some 41), .binOp .eql 5 (.tmp 39) (.const (.int .u8 2)) 5, none⟩,
        ⟨(some 40), .assign (.tmp 41), none⟩] 0)
      (.cond (.tmp 40) (.skip)
        (.reg [0, 3, 4, 5, 6, 7, 8, 9, 10, 11, 12, 39] [⟨(some 42), .binOp .eql 5 (.tmp 39) (.const (.int .u8 4)) 5, none⟩,
          ⟨(some 40), .assign (.tmp 42), none⟩] 0)))
      (.cond (.tmp 40) (.reg [0, 3, 4, 5, 6, 7, 8, 9, 10, 11, 12] [⟨(some 43), .move (.tmp 11), none⟩,
          ⟨(some 44), .move (.tmp 9), none⟩,
          ⟨(some 45), .nilCheck (.tmp 43), none⟩,
          ⟨none, .store 5 (.tmp 45) (.tmp 44), none⟩] 0)
        (.seq (.reg [0, 3, 4, 5, 6, 7, 8, 9, 10, 11, 12, 39] [⟨(some 47), .binOp .eql 5 (.tmp 39) (.const (.int .u8 5)) 5, none⟩,
          ⟨(some 46), .assign (.tmp 47), none⟩] 0)
        (.cond (.tmp 46) (.reg [0, 3, 4, 5, 6, 7, 8, 9, 10, 11, 12] [⟨(some 48), .move (.tmp 11), none⟩,
            ⟨(some 49), .move (.tmp 12), none⟩,
            ⟨(some 50), .move (.tmp 9), none⟩,
            ⟨(some 51), .binOp .add 5 (.tmp 49) (.tmp 50) 5, none⟩,
            ⟨(some 52), .nilCheck (.tmp 48), none⟩,
            ⟨none, .store 5 (.tmp 52) (.tmp 51), none⟩] 0)
          (.seq (.reg [0, 3, 4, 5, 6, 7, 8, 9, 10, 11, 12, 39] [⟨(some 54), .binOp .eql 5 (.tmp 39) (.const (.int .u8 6)) 5, none⟩,
            ⟨(some 53), .assign (.tmp 54), none⟩] 0)
          (.cond (.tmp 53) (.seq (.reg [0, 3, 4, 5, 6, 7, 8, 9, 10, 11, 12] [⟨(some 55), .move (.tmp 12), none⟩,
              ⟨(some 56), .move (.tmp 9), none⟩,
              ⟨(some 57), .binOp .eql 5 (.tmp 55) (.tmp 56) 5, none⟩] 0)
            (.cond (.tmp 57) (.reg [0, 3, 4, 5, 6, 7, 8, 9, 10, 11, 12] [⟨(some 58), .move (.tmp 11), none⟩,
                ⟨(some 59), .move (.tmp 10), none⟩,
                ⟨(some 60), .nilCheck (.tmp 58), none⟩,
                ⟨none, .store 5 (.tmp 60) (.tmp 59), none⟩] 0)
              (.skip)))
            (.seq (.reg [0, 3, 4, 5, 6, 7, 8, 9, 10, 12, 39] [⟨(some 62), .binOp .eql 5 (.tmp 39) (.const (.int .u8 8)) 5, none⟩,
              ⟨(some 61), .assign (.tmp 62), none⟩] 0)
            (.cond (.tmp 61) (.seq (.reg [0, 3, 4, 5, 6, 7, 8, 9, 10, 12] [⟨(some 63), .fieldAddr 38 (.tmp 8) 5, none⟩,
                ⟨(some 64), .load 5 (.tmp 63), none⟩,
                ⟨(some 65), .move (.tmp 9), none⟩,
                ⟨(some 66), .move (.tmp 10), none⟩,
                ⟨(some 67), .call ⟨.value (.func 10), #[(.tmp 64), (.tmp 65), (.tmp 66)], #[5, 5, 5]⟩, none⟩] 0)
              (.cond (.tmp 67) (.reg [0, 3, 4, 5, 6, 7, 8, 9, 10, 12] [⟨(some 68), .move (.tmp 7), none⟩,
                  ⟨(some 69), .fieldAddr 38 (.tmp 8) 7, none⟩,
                  ⟨(some 70), .load 5 (.tmp 69), none⟩,
                  ⟨(some 71), .convert 5 3 (.tmp 70), none⟩,
                  ⟨(some 72), .binOp .add 3 (.tmp 68) (.tmp 71) 3, none⟩,
                  ⟨(some 7), .assign (.tmp 72), none⟩] 0)
                (.skip)))
              (.skip)))))))))))
     (.seq (.seq (.reg [0, 3, 4, 5, 6, 7, 8, 9, 10, 12] [⟨(some 73), .fieldAddr 38 (.tmp 8) 1, none⟩,
       ⟨(some 74), .load 5 (.tmp 73), none⟩,
       ⟨(some 75), .binOp .geq 5 (.tmp 74) (.const (.int .u8 8)) 5, none⟩] 0)
     (.cond (.tmp 75) (.exit 1)
       (.skip)))
     (.seq (.reg [0, 3, 4, 5, 6, 7, 8, 9, 10, 12] [⟨(some 76), .fieldAddr 38 (.tmp 8) 0, none⟩,
       ⟨(some 77), .load 5 (.tmp 76), none⟩] 0)
     (.block 3 (.seq (.reg [0, 3, 4, 5, 6, 7, 8, 9, 10, 12, 77] [⟨(some 79), .binOp .eql 5 (.tmp 77) (.const (.int .u8 3)) 5, none⟩,
        ⟨(some 78), .assign (.tmp 79), none⟩] 0)
      (.cond (.tmp 78) (.reg [0, 3, 4, 5, 6, 7, 8, 9, 10] [⟨(some 80), .fieldAddr 38 (.tmp 8) 1, none⟩,
          ⟨(some 81), .load 5 (.tmp 80), none⟩,
          ⟨(some 82), .fieldAddr 38 (.tmp 8) 5, none⟩,
          ⟨(some 83), .load 5 (.tmp 82), none⟩,
          ⟨(some 84), .move (.tmp 9), none⟩,
          ⟨(some 85), .move (.tmp 10), none⟩,
          ⟨(some 86), .call ⟨.value (.func 8), #[(.tmp 83), (.tmp 84), (.tmp 85)], #[5, 5, 5]⟩, none⟩,
          ⟨(some 87), .fieldAddr 27 (.tmp 6) 1, none⟩,
          ⟨(some 88), .indexAddr 24 (.tmp 87) (.tmp 81), none⟩,
          ⟨none, .store 5 (.tmp 88) (.tmp 86), none⟩] 8)
        (.seq (.seq (.reg [0, 3, 4, 5, 6, 7, 8, 12, 77] [⟨(some 90), .binOp .eql 5 (.tmp 77) (.const (.int .u8 1)) 5, none⟩,
          ⟨(some 89), .assign (.tmp 90), none⟩] 0)
        (.cond (.tmp 89) (.skip)
          (.seq (.reg [0, 3, 4, 5, 6, 7, 8, 12, 77] [⟨(some 91), .binOp .eql 5 (.tmp 77) (.const (.int .u8 4)) 5, none⟩,
            ⟨(some 89), .assign (.tmp 91), none⟩] 0)
          (.cond (.tmp 89) (.skip)
            (.seq (.reg [0, 3, 4, 5, 6, 7, 8, 12, 77] [⟨(some 92), .binOp .eql 5 (.tmp 77) (.const (.int .u8 5)) 5, none⟩,
              ⟨(some 89), .assign (.tmp 92), none⟩] 0)
            (.cond (.tmp 89) (.skip)
              (.reg [0, 3, 4, 5, 6, 7, 8, 12, 77] [⟨(some 93), .binOp .eql 5 (.tmp 77) (.const (.int .u8 6)) 5, none⟩,
                ⟨(some 89), .assign (.tmp 93), none⟩] 0)))))))
        (.cond (.tmp 89) (.reg [0, 3, 4, 5, 6, 7, 8, 12] [⟨(some 94), .fieldAddr 38 (.tmp 8) 1, none⟩,
            ⟨(some 95), .load 5 (.tmp 94), none⟩,
            ⟨(some 96), .move (.tmp 12), none⟩,
            ⟨(some 97), .fieldAddr 27 (.tmp 6) 1, none⟩,
            ⟨(some 98), .indexAddr 24 (.tmp 97) (.tmp 95), none⟩,
            ⟨none, .store 5 (.tmp 98) (.tmp 96), none⟩] 0)
          (.skip))))))))))))))
    (.reg [0, 3, 4, 5, 6, 7] [⟨(some 17), .move (.tmp 7), none⟩,
      ⟨(some 18), .binOp .add 3 (.tmp 17) (.const (.int .i64 1)) 3, none⟩,
      ⟨(some 7), .assign (.tmp 18), none⟩] 0))) :: k) st Q := Iff.rfl
def m23 : M :=
  .seq (.reg [0, 1] [⟨(some 3), .box 43 (.tmp 1), none⟩,
      ⟨(some 4), .alloc 24, none⟩,
      ⟨(some 5), .alloc 43, none⟩] 0)
    (.seq (.reg [0, 3, 4, 5] [⟨(some 6), .alloc 27, none⟩] 0)
    (.seq (.seq (.reg [0, 3, 4, 5, 6] [⟨(some 7), .assign (.const (.int .i64 0)), none⟩] 0)
    (.block 0 (.loop (m23_l0))))
    (.seq (.seq (.reg [3, 4, 5, 6] [⟨(some 99), .fieldAddr 27 (.tmp 6) 1, none⟩,
      ⟨(some 100), .load 24 (.tmp 99), none⟩,
      ⟨(some 101), .load 43 (.tmp 3), none⟩] 3)
    (.seq (.ops [⟨none, .store 24 (.tmp 4) (.tmp 100), none⟩])
    (.seq (.again [⟨(some 101), .load 43 (.tmp 3), none⟩])
    (.seq (.ops [⟨none, .store 43 (.tmp 5) (.tmp 101), none⟩])
    (.seq (.again [])
    (.skip))))))
    (.ret))))
def fn23 : MFn := ⟨102, [.cell 4 24, .cell 5 43], m23, .shut⟩
theorem fnOk23 : FnOk Try.prog 23 fn23 := ⟨Try.f23, _, fun i => bif Nat.beq i 1000000 then passing else ([[0, 1], [0, 3, 4, 5], [0, 3, 4, 5, 6], [0, 3, 4, 5, 6, 7], [0, 3, 4, 5, 6, 7], [0, 3, 4, 5, 6, 7], [0, 3, 4, 5, 6, 7, 8], [0, 3, 4, 5, 6, 7, 8, 9, 10], [0, 3, 4, 5, 6, 7, 8, 9, 10, 11], [0, 3, 4, 5, 6, 7, 8, 9, 10, 11, 12], [0, 3, 4, 5, 6, 7, 8, 9, 10, 11, 12, 39], [0, 3, 4, 5, 6, 7, 8, 9, 10, 11, 12, 39], [0, 3, 4, 5, 6, 7, 8, 9, 10, 11, 12], [0, 3, 4, 5, 6, 7, 8, 9, 10, 11, 12, 39], [0, 3, 4, 5, 6, 7, 8, 9, 10, 11, 12], [0, 3, 4, 5, 6, 7, 8, 9, 10, 11, 12, 39], [0, 3, 4, 5, 6, 7, 8, 9, 10, 11, 12], [0, 3, 4, 5, 6, 7, 8, 9, 10, 11, 12], [0, 3, 4, 5, 6, 7, 8, 9, 10, 12, 39], [0, 3, 4, 5, 6, 7, 8, 9, 10, 12], [0, 3, 4, 5, 6, 7, 8, 9, 10, 12], [0, 3, 4, 5, 6, 7, 8, 9, 10, 12], [0, 3, 4, 5, 6, 7, 8, 9, 10, 12], [0, 3, 4, 5, 6, 7, 8, 9, 10, 12, 77], [0, 3, 4, 5, 6, 7, 8, 9, 10], [0, 3, 4, 5, 6, 7, 8, 12, 77], [0, 3, 4, 5, 6, 7, 8, 12, 77], [0, 3, 4, 5, 6, 7, 8, 12, 77], [0, 3, 4, 5, 6, 7, 8, 12, 77], [0, 3, 4, 5, 6, 7, 8, 12], [3, 4, 5, 6]] : List (List Nat)).getD i [], Try.func23, rfl, by kernel_rfl, by kernel_rfl, by kernel_rfl, by kernel_rfl⟩
/- seisin/core.Drain -/
def m24 : M :=
  .seq (.reg [0] [⟨(some 1), .box 27 (.tmp 0), none⟩,
      ⟨(some 2), .alloc 55, none⟩,
      ⟨(some 3), .assign (.const (.bool false)), none⟩] 0)
    (.seq (.seq (.reg [1, 2] [⟨(some 4), .fieldAddr 27 (.tmp 1) 2, none⟩,
      ⟨(some 5), .load 25 (.tmp 4), none⟩,
      ⟨(some 6), .call ⟨.builtin .len, #[(.tmp 5)], #[25]⟩, none⟩,
      ⟨(some 7), .binOp .eql 3 (.tmp 6) (.const (.int .i64 0)) 3, none⟩,
      ⟨(some 8), .move (.tmp 7), none⟩,
      ⟨(some 9), .fieldAddr 27 (.tmp 1) 3, (some (8, false))⟩,
      ⟨(some 10), .load 4 (.tmp 9), (some (8, false))⟩,
      ⟨(some 11), .pick (.tmp 8) (.const (.bool true)) (.tmp 10), none⟩,
      ⟨(some 12), .move (.tmp 11), none⟩,
      ⟨(some 13), .fieldAddr 27 (.tmp 1) 4, (some (12, false))⟩,
      ⟨(some 14), .load 4 (.tmp 13), (some (12, false))⟩,
      ⟨(some 15), .pick (.tmp 12) (.const (.bool true)) (.tmp 14), none⟩] 0)
    (.cond (.tmp 15) (.seq (.reg [2] [⟨(some 16), .build 55 #[], none⟩,
        ⟨none, .store 55 (.tmp 2) (.tmp 16), none⟩,
        ⟨(some 3), .assign (.const (.bool false)), none⟩] 0)
      (.ret))
      (.skip)))
    (.seq (.reg [1, 2] [⟨(some 17), .fieldAddr 27 (.tmp 1) 2, none⟩,
      ⟨(some 18), .load 25 (.tmp 17), none⟩,
      ⟨(some 19), .indexAddr 25 (.tmp 18) (.const (.int .i64 0)), none⟩,
      ⟨(some 20), .fieldAddr 59 (.tmp 19) 0, none⟩,
      ⟨(some 21), .load 5 (.tmp 20), none⟩,
      ⟨(some 22), .fieldAddr 27 (.tmp 1) 2, none⟩,
      ⟨(some 23), .load 25 (.tmp 22), none⟩,
      ⟨(some 24), .indexAddr 25 (.tmp 23) (.const (.int .i64 0)), none⟩,
      ⟨(some 25), .fieldAddr 59 (.tmp 24) 1, none⟩,
      ⟨(some 26), .load 5 (.tmp 25), none⟩,
      ⟨(some 27), .build 55 #[(0, (.const (.int .u8 2))), (1, (.tmp 21)), (2, (.tmp 26))], none⟩,
      ⟨none, .store 55 (.tmp 2) (.tmp 27), none⟩,
      ⟨(some 3), .assign (.const (.bool true)), none⟩] 10)
    (.ret)))
def fn24 : MFn := ⟨28, [.cell 2 55, .tmp 3], m24, .shut⟩
theorem fnOk24 : FnOk Try.prog 24 fn24 := ⟨Try.f24, _, fun i => bif Nat.beq i 1000000 then passing else ([[0], [1, 2], [2], [1, 2]] : List (List Nat)).getD i [], Try.func24, rfl, by kernel_rfl, by kernel_rfl, by kernel_rfl, by kernel_rfl⟩
/- seisin/seisinlaw30.example -/
def m25 : M :=
  .seq (.reg [] [⟨(some 0), .assign (.const (.slice none 0 0)), none⟩] 0)
    (.seq (.reg [] [⟨(some 1), .build 23 #[(1, (.const (.int .u8 1)))], none⟩,
      ⟨(some 2), .build 38 #[(0, (.const (.int .u8 2))), (3, (.tmp 1))], none⟩,
      ⟨(some 3), .build 38 #[(0, (.const (.int .u8 1))), (1, (.const (.int .u8 1)))], none⟩,
      ⟨(some 4), .buildSlice 33 2 #[(0, (.tmp 2)), (1, (.tmp 3))], none⟩,
      ⟨(some 0), .assign (.tmp 4), none⟩] 0)
    (.ret))
def fn25 : MFn := ⟨5, [.tmp 0], m25, .shut⟩
theorem fnOk25 : FnOk Try.prog 25 fn25 := ⟨Try.f25, _, fun i => bif Nat.beq i 1000000 then passing else ([[], []] : List (List Nat)).getD i [], Try.func25, rfl, by kernel_rfl, by kernel_rfl, by kernel_rfl, by kernel_rfl⟩
/- seisin/core.Ask -/
def m26 : M :=
  .seq (.reg [0, 1] [⟨(some 3), .box 27 (.tmp 1), none⟩,
      ⟨(some 4), .alloc 55, none⟩] 0)
    (.seq (.seq (.reg [0, 3, 4] [⟨(some 6), .fieldAddr 27 (.tmp 3) 0, none⟩,
      ⟨(some 7), .load 5 (.tmp 6), none⟩,
      ⟨(some 8), .convert 5 3 (.tmp 7), none⟩,
      ⟨(some 9), .move (.tmp 0), none⟩,
      ⟨(some 10), .call ⟨.builtin .len, #[(.tmp 9)], #[33]⟩, none⟩,
      ⟨(some 11), .binOp .geq 3 (.tmp 8) (.tmp 10) 3, none⟩] 0)
    (.cond (.tmp 11) (.seq (.reg [4] [⟨(some 12), .build 55 #[], none⟩,
        ⟨none, .store 55 (.tmp 4) (.tmp 12), none⟩] 0)
      (.ret))
      (.skip)))
    (.seq (.reg [0, 3, 4] [⟨(some 13), .move (.tmp 0), none⟩,
      ⟨(some 14), .fieldAddr 27 (.tmp 3) 0, none⟩,
      ⟨(some 15), .load 5 (.tmp 14), none⟩,
      ⟨(some 16), .indexAddr 33 (.tmp 13) (.tmp 15), none⟩,
      ⟨(some 17), .load 38 (.tmp 16), none⟩,
      ⟨(some 5), .alloc 38, none⟩,
      ⟨none, .store 38 (.tmp 5) (.tmp 17), none⟩] 0)
    (.seq (.seq (.reg [3, 4, 5] [⟨(some 18), .fieldAddr 38 (.tmp 5) 0, none⟩,
      ⟨(some 19), .load 5 (.tmp 18), none⟩] 0)
    (.block 0 (.seq (.reg [3, 4, 5, 19] [⟨(some 21), .binOp .eql 5 (.tmp 19) (.const (.int .u8 1)) 5, none⟩,
       ⟨(some 20), .assign (.tmp 21), none⟩] 0)
     (.cond (.tmp 20) (.seq (.reg [4, 5] [⟨(some 22), .fieldAddr 38 (.tmp 5) 0, none⟩,
         ⟨(some 23), .load 5 (.tmp 22), none⟩,
         ⟨(some 24), .fieldAddr 38 (.tmp 5) 2, none⟩,
         ⟨(some 25), .load 5 (.tmp 24), none⟩,
         ⟨(some 26), .build 55 #[(0, (.tmp 23)), (1, (.tmp 25))], none⟩,
         ⟨none, .store 55 (.tmp 4) (.tmp 26), none⟩] 0)
       (.ret))
       (.seq (.seq (.reg [3, 4, 5, 19] [⟨(some 28), .binOp .eql 5 (.tmp 19) (.const (.int .u8 2)) 5, none⟩,
         ⟨(some 27), .assign (.tmp 28), none⟩] 0)
       (.cond (.tmp 27) (.skip)
         (.seq (.reg [3, 4, 5, 19] [⟨(some 29), .binOp .eql 5 (.tmp 19) (.const (.int .u8 4)) 5, none⟩,
           ⟨(some 27), .assign (.tmp 29), none⟩] 0)
         (.cond (.tmp 27) (.skip)
           (.reg [3, 4, 5, 19] [⟨(some 30), .binOp .eql 5 (.tmp 19) (.const (.int .u8 5)) 5, none⟩,
             ⟨(some 27), .assign (.tmp 30), none⟩] 0)))))
       (.cond (.tmp 27) (.seq (.reg [3, 4, 5] [⟨(some 31), .fieldAddr 38 (.tmp 5) 0, none⟩,
           ⟨(some 32), .load 5 (.tmp 31), none⟩,
           ⟨(some 33), .fieldAddr 38 (.tmp 5) 2, none⟩,
           ⟨(some 34), .load 5 (.tmp 33), none⟩,
           ⟨(some 35), .load 27 (.tmp 3), none⟩,
           ⟨(some 36), .fieldAddr 38 (.tmp 5) 3, none⟩,
           ⟨(some 37), .load 23 (.tmp 36), none⟩,
           ⟨(some 38), .call ⟨.value (.func 12), #[(.tmp 35), (.tmp 37)], #[27, 23]⟩, none⟩,
           ⟨(some 39), .build 55 #[(0, (.tmp 32)), (1, (.tmp 34)), (2, (.tmp 38))], none⟩,
           ⟨none, .store 55 (.tmp 4) (.tmp 39), none⟩] 8)
         (.ret))
         (.seq (.reg [3, 4, 5, 19] [⟨(some 41), .binOp .eql 5 (.tmp 19) (.const (.int .u8 6)) 5, none⟩,
           ⟨(some 40), .assign (.tmp 41), none⟩] 0)
         (.cond (.tmp 40) (.seq (.reg [3, 4, 5] [⟨(some 42), .fieldAddr 38 (.tmp 5) 0, none⟩,
             ⟨(some 43), .load 5 (.tmp 42), none⟩,
             ⟨(some 44), .fieldAddr 38 (.tmp 5) 2, none⟩,
             ⟨(some 45), .load 5 (.tmp 44), none⟩,
             ⟨(some 46), .load 27 (.tmp 3), none⟩,
             ⟨(some 47), .fieldAddr 38 (.tmp 5) 3, none⟩,
             ⟨(some 48), .load 23 (.tmp 47), none⟩,
             ⟨(some 49), .call ⟨.value (.func 12), #[(.tmp 46), (.tmp 48)], #[27, 23]⟩, none⟩,
             ⟨(some 50), .load 27 (.tmp 3), none⟩,
             ⟨(some 51), .fieldAddr 38 (.tmp 5) 4, none⟩,
             ⟨(some 52), .load 23 (.tmp 51), none⟩,
             ⟨(some 53), .call ⟨.value (.func 12), #[(.tmp 50), (.tmp 52)], #[27, 23]⟩, none⟩,
             ⟨(some 54), .build 55 #[(0, (.tmp 43)), (1, (.tmp 45)), (2, (.tmp 49)), (3, (.tmp 53))], none⟩,
             ⟨none, .store 55 (.tmp 4) (.tmp 54), none⟩] 12)
           (.ret))
           (.skip)))))))))
    (.seq (.reg [4] [⟨(some 55), .build 55 #[], none⟩,
      ⟨none, .store 55 (.tmp 4) (.tmp 55), none⟩] 0)
    (.ret)))))
def fn26 : MFn := ⟨56, [.cell 4 55], m26, .shut⟩
theorem fnOk26 : FnOk Try.prog 26 fn26 := ⟨Try.f26, _, fun i => bif Nat.beq i 1000000 then passing else ([[0, 1], [0, 3, 4], [4], [0, 3, 4], [3, 4, 5], [3, 4, 5, 19], [4, 5], [3, 4, 5, 19], [3, 4, 5, 19], [3, 4, 5, 19], [3, 4, 5], [3, 4, 5, 19], [3, 4, 5], [4]] : List (List Nat)).getD i [], Try.func26, rfl, by kernel_rfl, by kernel_rfl, by kernel_rfl, by kernel_rfl⟩
/- seisin/core.Next$1 -/
def m27 : M :=
  .seq (.reg [0, 1, 2] [⟨(some 5), .assign (.const (.int .u8 0)), none⟩] 0)
    (.seq (.seq (.reg [0, 1, 2] [⟨(some 6), .move (.tmp 1), none⟩,
      ⟨(some 7), .move (.tmp 6), none⟩,
      ⟨(some 8), .fieldAddr 27 (.tmp 2) 3, (some (7, true))⟩,
      ⟨(some 9), .load 4 (.tmp 8), (some (7, true))⟩,
      ⟨(some 10), .unOp .not 4 (.tmp 9), (some (7, true))⟩,
      ⟨(some 11), .pick (.tmp 7) (.tmp 10) (.const (.bool false)), none⟩] 0)
    (.cond (.tmp 11) (.seq (.reg [0] [⟨(some 12), .move (.tmp 0), none⟩,
        ⟨(some 5), .assign (.tmp 12), none⟩] 0)
      (.ret))
      (.skip)))
    (.seq (.reg [] [⟨(some 5), .assign (.const (.int .u8 4)), none⟩] 0)
    (.ret)))
def fn27 : MFn := ⟨13, [.tmp 5], m27, .shut⟩
theorem fnOk27 : FnOk Try.prog 27 fn27 := ⟨Try.f27, _, fun i => bif Nat.beq i 1000000 then passing else ([[0, 1, 2], [0, 1, 2], [0], []] : List (List Nat)).getD i [], Try.func27, rfl, by kernel_rfl, by kernel_rfl, by kernel_rfl, by kernel_rfl⟩
/- seisin/core.youngest -/
def m28_l0 : M :=
    .seq (.seq (.reg [0, 1, 6] [⟨(some 10), .move (.tmp 6), none⟩,
      ⟨(some 11), .binOp .geq 3 (.tmp 10) (.const (.int .i64 0)) 3, none⟩] 0)
    (.cond (.tmp 11) (.skip)
      (.exit 0)))
    (.seq (.block 1 (.seq (.reg [0, 1, 6] [⟨(some 14), .move (.tmp 0), none⟩,
       ⟨(some 15), .move (.tmp 6), none⟩,
       ⟨(some 16), .indexAddr 25 (.tmp 14) (.tmp 15), none⟩,
       ⟨(some 17), .fieldAddr 59 (.tmp 16) 0, none⟩,
       ⟨(some 18), .load 5 (.tmp 17), none⟩,
       ⟨(some 19), .move (.tmp 1), none⟩,
       ⟨(some 20), .binOp .eql 5 (.tmp 18) (.tmp 19) 5, none⟩] 0)
     (.cond (.tmp 20) (.seq (.reg [0, 6] [⟨(some 21), .move (.tmp 0), none⟩,
         ⟨(some 22), .move (.tmp 6), none⟩,
         ⟨(some 23), .indexAddr 25 (.tmp 21) (.tmp 22), none⟩,
         ⟨(some 24), .fieldAddr 59 (.tmp 23) 1, none⟩,
         ⟨(some 25), .load 5 (.tmp 24), none⟩,
         ⟨(some 4), .assign (.tmp 25), none⟩,
         ⟨(some 5), .assign (.const (.bool true)), none⟩] 0)
       (.ret))
       (.skip))))
    (.reg [0, 1, 6] [⟨(some 12), .move (.tmp 6), none⟩,
      ⟨(some 13), .binOp .sub 3 (.tmp 12) (.const (.int .i64 1)) 3, none⟩,
      ⟨(some 6), .assign (.tmp 13), none⟩] 0))
theorem u28_l0 {C : Ctx} {k : List It} {st : St} {Q : Ex → St → Prop} : RunK C (.code m28_l0 :: k) st Q ↔ RunK C (.code (.seq (.seq (.reg [0, 1, 6] [⟨(some 10), .move (.tmp 6), none⟩,
      ⟨(some 11), .binOp .geq 3 (.tmp 10) (.const (.int .i64 0)) 3, none⟩] 0)
    (.cond (.tmp 11) (.skip)
      (.exit 0)))
    (.seq (.block 1 (.seq (.reg [0, 1, 6] [⟨(some 14), .move (.tmp 0), none⟩,
       ⟨(some 15), .move (.tmp 6), none⟩,
       ⟨(some 16), .indexAddr 25 (.tmp 14) (.tmp 15), none⟩,
       ⟨(some 17), .fieldAddr 59 (.tmp 16) 0, none⟩,
       ⟨(some 18), .load 5 (.tmp 17), none⟩,
       ⟨(some 19), .move (.tmp 1), none⟩,
       ⟨(some 20), .binOp .eql 5 (.tmp 18) (.tmp 19) 5, none⟩] 0)
     (.cond (.tmp 20) (.seq (.reg [0, 6] [⟨(some 21), .move (.tmp 0), none⟩,
         ⟨(some 22), .move (.tmp 6), none⟩,
         ⟨(some 23), .indexAddr 25 (.tmp 21) (.tmp 22), none⟩,
         ⟨(some 24), .fieldAddr 59 (.tmp 23) 1, none⟩,
         ⟨(some 25), .load 5 (.tmp 24), none⟩,
         ⟨(some 4), .assign (.tmp 25), none⟩,
         ⟨(some 5), .assign (.const (.bool true)), none⟩] 0)
       (.ret))
       (.skip))))
    (.reg [0, 1, 6] [⟨(some 12), .move (.tmp 6), none⟩,
      ⟨(some 13), .binOp .sub 3 (.tmp 12) (.const (.int .i64 1)) 3, none⟩,
      ⟨(some 6), .assign (.tmp 13), none⟩] 0))) :: k) st Q := Iff.rfl
def m28 : M :=
  .seq (.reg [0, 1] [⟨(some 4), .assign (.const (.int .u8 0)), none⟩,
      ⟨(some 5), .assign (.const (.bool false)), none⟩] 0)
    (.seq (.seq (.reg [0, 1] [⟨(some 7), .move (.tmp 0), none⟩,
      ⟨(some 8), .call ⟨.builtin .len, #[(.tmp 7)], #[25]⟩, none⟩,
      ⟨(some 9), .binOp .sub 3 (.tmp 8) (.const (.int .i64 1)) 3, none⟩,
      ⟨(some 6), .assign (.tmp 9), none⟩] 0)
    (.block 0 (.loop (m28_l0))))
    (.seq (.reg [] [⟨(some 4), .assign (.const (.int .u8 0)), none⟩,
      ⟨(some 5), .assign (.const (.bool false)), none⟩] 0)
    (.ret)))
def fn28 : MFn := ⟨26, [.tmp 4, .tmp 5], m28, .shut⟩
theorem fnOk28 : FnOk Try.prog 28 fn28 := ⟨Try.f28, _, fun i => bif Nat.beq i 1000000 then passing else ([[0, 1], [0, 1], [0, 1, 6], [0, 1, 6], [0, 1, 6], [0, 6], []] : List (List Nat)).getD i [], Try.func28, rfl, by kernel_rfl, by kernel_rfl, by kernel_rfl, by kernel_rfl⟩
/- seisin/core.own -/
def m29 : M :=
  .seq (.reg [0] [⟨(some 1), .box 27 (.tmp 0), none⟩,
      ⟨(some 2), .alloc 27, none⟩] 0)
    (.seq (.reg [1, 2] [⟨(some 4), .fieldAddr 27 (.tmp 1) 2, none⟩,
      ⟨(some 5), .load 25 (.tmp 4), none⟩,
      ⟨(some 6), .call ⟨.builtin .len, #[(.tmp 5)], #[25]⟩, none⟩,
      ⟨(some 7), .makeSlice 25 (.tmp 6) (.tmp 6), none⟩,
      ⟨(some 3), .assign (.tmp 7), none⟩] 0)
    (.seq (.reg [1, 2, 3] [⟨(some 8), .move (.tmp 3), none⟩,
      ⟨(some 9), .fieldAddr 27 (.tmp 1) 2, none⟩,
      ⟨(some 10), .load 25 (.tmp 9), none⟩,
      ⟨(some 11), .call ⟨.builtin .copy, #[(.tmp 8), (.tmp 10)], #[25, 25]⟩, none⟩] 0)
    (.seq (.reg [1, 2, 3] [⟨(some 12), .move (.tmp 3), none⟩,
      ⟨(some 13), .fieldAddr 27 (.tmp 1) 2, none⟩,
      ⟨none, .store 25 (.tmp 13) (.tmp 12), none⟩] 0)
    (.seq (.reg [1, 2] [⟨(some 14), .load 27 (.tmp 1), none⟩,
      ⟨none, .store 27 (.tmp 2) (.tmp 14), none⟩] 0)
    (.ret)))))
def fn29 : MFn := ⟨15, [.cell 2 27], m29, .pass⟩
theorem fnOk29 : FnOk Try.prog 29 fn29 := ⟨Try.f29, _, fun i => bif Nat.beq i 1000000 then passing else ([[0], [1, 2], [1, 2, 3], [1, 2, 3], [1, 2]] : List (List Nat)).getD i [], Try.func29, rfl, by kernel_rfl, by kernel_rfl, by kernel_rfl, by kernel_rfl⟩
/- (*seisin/core.work).move -/
def m30 : M :=
  .seq (.reg [0] [⟨(some 2), .assign (.const (.int .i64 0)), none⟩] 0)
    (.seq (.reg [0] [⟨(some 3), .move (.tmp 0), none⟩,
      ⟨(some 4), .move (.tmp 0), none⟩,
      ⟨(some 5), .nilCheck (.tmp 4), none⟩,
      ⟨(some 6), .fieldAddr 68 (.tmp 5) 2, none⟩,
      ⟨(some 7), .fieldAddr 38 (.tmp 6) 5, none⟩,
      ⟨(some 8), .load 5 (.tmp 7), none⟩,
      ⟨(some 9), .move (.tmp 0), none⟩,
      ⟨(some 10), .nilCheck (.tmp 9), none⟩,
      ⟨(some 11), .fieldAddr 68 (.tmp 10) 0, none⟩,
      ⟨(some 12), .load 27 (.tmp 11), none⟩,
      ⟨(some 13), .move (.tmp 0), none⟩,
      ⟨(some 14), .nilCheck (.tmp 13), none⟩,
      ⟨(some 15), .fieldAddr 68 (.tmp 14) 2, none⟩,
      ⟨(some 16), .fieldAddr 38 (.tmp 15) 3, none⟩,
      ⟨(some 17), .load 23 (.tmp 16), none⟩,
      ⟨(some 18), .call ⟨.value (.func 12), #[(.tmp 12), (.tmp 17)], #[27, 23]⟩, none⟩,
      ⟨(some 19), .move (.tmp 0), none⟩,
      ⟨(some 20), .nilCheck (.tmp 19), none⟩,
      ⟨(some 21), .fieldAddr 68 (.tmp 20) 0, none⟩,
      ⟨(some 22), .load 27 (.tmp 21), none⟩,
      ⟨(some 23), .move (.tmp 0), none⟩,
      ⟨(some 24), .nilCheck (.tmp 23), none⟩,
      ⟨(some 25), .fieldAddr 68 (.tmp 24) 2, none⟩,
      ⟨(some 26), .fieldAddr 38 (.tmp 25) 4, none⟩,
      ⟨(some 27), .load 23 (.tmp 26), none⟩,
      ⟨(some 28), .call ⟨.value (.func 12), #[(.tmp 22), (.tmp 27)], #[27, 23]⟩, none⟩,
      ⟨(some 29), .call ⟨.value (.func 8), #[(.tmp 8), (.tmp 18), (.tmp 28)], #[5, 5, 5]⟩, none⟩,
      ⟨(some 30), .call ⟨.value (.func 38), #[(.tmp 3), (.tmp 29)], #[71, 5]⟩, none⟩] 27)
    (.seq (.reg [] [⟨(some 2), .assign (.const (.int .i64 1)), none⟩] 0)
    (.ret)))
def fn30 : MFn := ⟨31, [.tmp 2], m30, .pass⟩
theorem fnOk30 : FnOk Try.prog 30 fn30 := ⟨Try.f30, _, fun i => bif Nat.beq i 1000000 then passing else ([[0], [0], []] : List (List Nat)).getD i [], Try.func30, rfl, by kernel_rfl, by kernel_rfl, by kernel_rfl, by kernel_rfl⟩
/- (*seisin/core.work).skip -/
def m31 : M :=
  .seq (.reg [0] [⟨(some 2), .assign (.const (.int .i64 0)), none⟩] 0)
    (.seq (.seq (.reg [0] [⟨(some 3), .move (.tmp 0), none⟩,
      ⟨(some 4), .nilCheck (.tmp 3), none⟩,
      ⟨(some 5), .fieldAddr 68 (.tmp 4) 2, none⟩,
      ⟨(some 6), .fieldAddr 38 (.tmp 5) 5, none⟩,
      ⟨(some 7), .load 5 (.tmp 6), none⟩,
      ⟨(some 8), .move (.tmp 0), none⟩,
      ⟨(some 9), .nilCheck (.tmp 8), none⟩,
      ⟨(some 10), .fieldAddr 68 (.tmp 9) 0, none⟩,
      ⟨(some 11), .load 27 (.tmp 10), none⟩,
      ⟨(some 12), .move (.tmp 0), none⟩,
      ⟨(some 13), .nilCheck (.tmp 12), none⟩,
      ⟨(some 14), .fieldAddr 68 (.tmp 13) 2, none⟩,
      ⟨(some 15), .fieldAddr 38 (.tmp 14) 3, none⟩,
      ⟨(some 16), .load 23 (.tmp 15), none⟩,
      ⟨(some 17), .call ⟨.value (.func 12), #[(.tmp 11), (.tmp 16)], #[27, 23]⟩, none⟩,
      ⟨(some 18), .move (.tmp 0), none⟩,
      ⟨(some 19), .nilCheck (.tmp 18), none⟩,
      ⟨(some 20), .fieldAddr 68 (.tmp 19) 0, none⟩,
      ⟨(some 21), .load 27 (.tmp 20), none⟩,
      ⟨(some 22), .move (.tmp 0), none⟩,
      ⟨(some 23), .nilCheck (.tmp 22), none⟩,
      ⟨(some 24), .fieldAddr 68 (.tmp 23) 2, none⟩,
      ⟨(some 25), .fieldAddr 38 (.tmp 24) 4, none⟩,
      ⟨(some 26), .load 23 (.tmp 25), none⟩,
      ⟨(some 27), .call ⟨.value (.func 12), #[(.tmp 21), (.tmp 26)], #[27, 23]⟩, none⟩,
      ⟨(some 28), .call ⟨.value (.func 10), #[(.tmp 7), (.tmp 17), (.tmp 27)], #[5, 5, 5]⟩, none⟩] 25)
    (.cond (.tmp 28) (.seq (.reg [0] [⟨(some 29), .move (.tmp 0), none⟩,
        ⟨(some 30), .nilCheck (.tmp 29), none⟩,
        ⟨(some 31), .fieldAddr 68 (.tmp 30) 2, none⟩,
        ⟨(some 32), .fieldAddr 38 (.tmp 31) 7, none⟩,
        ⟨(some 33), .load 5 (.tmp 32), none⟩,
        ⟨(some 34), .convert 5 3 (.tmp 33), none⟩,
        ⟨(some 35), .binOp .add 3 (.const (.int .i64 1)) (.tmp 34) 3, none⟩,
        ⟨(some 2), .assign (.tmp 35), none⟩] 0)
      (.ret))
      (.skip)))
    (.seq (.reg [] [⟨(some 2), .assign (.const (.int .i64 1)), none⟩] 0)
    (.ret)))
def fn31 : MFn := ⟨36, [.tmp 2], m31, .pass⟩
theorem fnOk31 : FnOk Try.prog 31 fn31 := ⟨Try.f31, _, fun i => bif Nat.beq i 1000000 then passing else ([[0], [0], [0], []] : List (List Nat)).getD i [], Try.func31, rfl, by kernel_rfl, by kernel_rfl, by kernel_rfl, by kernel_rfl⟩
/- (*seisin/core.work).fence -/
def m32 : M :=
  .seq (.reg [] [⟨(some 2), .assign (.const (.int .i64 0)), none⟩] 0)
    (.seq (.reg [] [⟨(some 2), .assign (.const (.int .i64 1)), none⟩] 0)
    (.ret))
def fn32 : MFn := ⟨3, [.tmp 2], m32, .pass⟩
theorem fnOk32 : FnOk Try.prog 32 fn32 := ⟨Try.f32, _, fun i => bif Nat.beq i 1000000 then passing else ([[], []] : List (List Nat)).getD i [], Try.func32, rfl, by kernel_rfl, by kernel_rfl, by kernel_rfl, by kernel_rfl⟩
/- (*seisin/core.work).store -/
def m33 : M :=
  .seq (.reg [0] [⟨(some 2), .assign (.const (.int .i64 0)), none⟩] 0)
    (.seq (.reg [0] [⟨(some 3), .move (.tmp 0), none⟩,
      ⟨(some 4), .move (.tmp 0), none⟩,
      ⟨(some 5), .nilCheck (.tmp 4), none⟩,
      ⟨(some 6), .fieldAddr 68 (.tmp 5) 0, none⟩,
      ⟨(some 7), .fieldAddr 27 (.tmp 6) 2, none⟩,
      ⟨(some 8), .load 25 (.tmp 7), none⟩,
      ⟨(some 9), .move (.tmp 0), none⟩,
      ⟨(some 10), .nilCheck (.tmp 9), none⟩,
      ⟨(some 11), .fieldAddr 68 (.tmp 10) 2, none⟩,
      ⟨(some 12), .fieldAddr 38 (.tmp 11) 2, none⟩,
      ⟨(some 13), .load 5 (.tmp 12), none⟩,
      ⟨(some 14), .move (.tmp 0), none⟩,
      ⟨(some 15), .nilCheck (.tmp 14), none⟩,
      ⟨(some 16), .fieldAddr 68 (.tmp 15) 0, none⟩,
      ⟨(some 17), .load 27 (.tmp 16), none⟩,
      ⟨(some 18), .move (.tmp 0), none⟩,
      ⟨(some 19), .nilCheck (.tmp 18), none⟩,
      ⟨(some 20), .fieldAddr 68 (.tmp 19) 2, none⟩,
      ⟨(some 21), .fieldAddr 38 (.tmp 20) 3, none⟩,
      ⟨(some 22), .load 23 (.tmp 21), none⟩,
      ⟨(some 23), .call ⟨.value (.func 12), #[(.tmp 17), (.tmp 22)], #[27, 23]⟩, none⟩,
      ⟨(some 24), .build 59 #[(0, (.tmp 13)), (1, (.tmp 23))], none⟩,
      ⟨(some 25), .buildSlice 25 1 #[(0, (.tmp 24))], none⟩,
      ⟨(some 26), .call ⟨.builtin .append, #[(.tmp 8), (.tmp 25)], #[25, 25]⟩, none⟩,
      ⟨(some 27), .nilCheck (.tmp 3), none⟩,
      ⟨(some 28), .fieldAddr 68 (.tmp 27) 0, none⟩,
      ⟨(some 29), .fieldAddr 27 (.tmp 28) 2, none⟩,
      ⟨none, .store 25 (.tmp 29) (.tmp 26), none⟩] 23)
    (.seq (.reg [] [⟨(some 2), .assign (.const (.int .i64 1)), none⟩] 0)
    (.ret)))
def fn33 : MFn := ⟨30, [.tmp 2], m33, .pass⟩
theorem fnOk33 : FnOk Try.prog 33 fn33 := ⟨Try.f33, _, fun i => bif Nat.beq i 1000000 then passing else ([[0], [0], []] : List (List Nat)).getD i [], Try.func33, rfl, by kernel_rfl, by kernel_rfl, by kernel_rfl, by kernel_rfl⟩
/- (*seisin/core.work).load -/
def m34 : M :=
  .seq (.reg [0] [⟨(some 2), .assign (.const (.int .i64 0)), none⟩] 0)
    (.seq (.seq (.reg [0] [⟨(some 6), .move (.tmp 0), none⟩,
      ⟨(some 7), .nilCheck (.tmp 6), none⟩,
      ⟨(some 8), .fieldAddr 68 (.tmp 7) 0, none⟩,
      ⟨(some 9), .fieldAddr 27 (.tmp 8) 2, none⟩,
      ⟨(some 10), .load 25 (.tmp 9), none⟩,
      ⟨(some 11), .move (.tmp 0), none⟩,
      ⟨(some 12), .nilCheck (.tmp 11), none⟩,
      ⟨(some 13), .fieldAddr 68 (.tmp 12) 2, none⟩,
      ⟨(some 14), .fieldAddr 38 (.tmp 13) 2, none⟩,
      ⟨(some 15), .load 5 (.tmp 14), none⟩,
      ⟨(some 16), .call ⟨.value (.func 28), #[(.tmp 10), (.tmp 15)], #[25, 5]⟩, none⟩,
      ⟨(some 5), .move (.tmp 16), none⟩,
      ⟨(some 17), .extract (.tmp 5) 0, none⟩,
      ⟨(some 18), .extract (.tmp 5) 1, none⟩,
      ⟨(some 3), .assign (.tmp 17), none⟩,
      ⟨(some 4), .assign (.tmp 18), none⟩] 15)
    (.seq (.reg [0, 3, 4] [⟨(some 19), .move (.tmp 4), none⟩] 0)
    (.cond (.tmp 19) (.reg [0, 3] [⟨(some 20), .move (.tmp 0), none⟩,
        ⟨(some 21), .move (.tmp 3), none⟩,
        ⟨(some 22), .call ⟨.value (.func 38), #[(.tmp 20), (.tmp 21)], #[71, 5]⟩, none⟩] 0)
      (.skip))))
    (.seq (.reg [] [⟨(some 2), .assign (.const (.int .i64 1)), none⟩] 0)
    (.ret)))
def fn34 : MFn := ⟨23, [.tmp 2], m34, .pass⟩
theorem fnOk34 : FnOk Try.prog 34 fn34 := ⟨Try.f34, _, fun i => bif Nat.beq i 1000000 then passing else ([[0], [0], [0, 3, 4], [0, 3], []] : List (List Nat)).getD i [], Try.func34, rfl, by kernel_rfl, by kernel_rfl, by kernel_rfl, by kernel_rfl⟩
/- (*seisin/core.work).pass -/
def m35 : M :=
  .reg [0, 1] [⟨(some 4), .move (.tmp 0), none⟩,
      ⟨(some 5), .move (.tmp 0), none⟩,
      ⟨(some 6), .nilCheck (.tmp 5), none⟩,
      ⟨(some 7), .fieldAddr 68 (.tmp 6) 0, none⟩,
      ⟨(some 8), .fieldAddr 27 (.tmp 7) 0, none⟩,
      ⟨(some 9), .load 5 (.tmp 8), none⟩,
      ⟨(some 10), .convert 5 3 (.tmp 9), none⟩,
      ⟨(some 11), .move (.tmp 1), none⟩,
      ⟨(some 12), .binOp .add 3 (.tmp 10) (.tmp 11) 3, none⟩,
      ⟨(some 13), .move (.tmp 0), none⟩,
      ⟨(some 14), .nilCheck (.tmp 13), none⟩,
      ⟨(some 15), .fieldAddr 68 (.tmp 14) 1, none⟩,
      ⟨(some 16), .load 33 (.tmp 15), none⟩,
      ⟨(some 17), .call ⟨.builtin .len, #[(.tmp 16)], #[33]⟩, none⟩,
      ⟨(some 18), .call ⟨.builtin .min, #[(.tmp 12), (.tmp 17), (.const (.int .i64 255))], #[3, 3, 3]⟩, none⟩,
      ⟨(some 19), .convert 3 5 (.tmp 18), none⟩,
      ⟨(some 20), .nilCheck (.tmp 4), none⟩,
      ⟨(some 21), .fieldAddr 68 (.tmp 20) 0, none⟩,
      ⟨(some 22), .fieldAddr 27 (.tmp 21) 0, none⟩,
      ⟨none, .store 5 (.tmp 22) (.tmp 19), none⟩] 16
def fn35 : MFn := ⟨23, [], m35, .pass⟩
theorem fnOk35 : FnOk Try.prog 35 fn35 := ⟨Try.f35, _, fun i => bif Nat.beq i 1000000 then passing else ([[0, 1]] : List (List Nat)).getD i [], Try.func35, rfl, by kernel_rfl, by kernel_rfl, by kernel_rfl, by kernel_rfl⟩
/- seisin/core.Back -/
def m36 : M :=
  .seq (.reg [0, 1, 2] [⟨(some 4), .box 27 (.tmp 1), none⟩,
      ⟨(some 5), .box 77 (.tmp 2), none⟩,
      ⟨(some 6), .alloc 27, none⟩] 0)
    (.seq (.reg [0, 4, 5, 6] [⟨(some 9), .load 27 (.tmp 4), none⟩,
      ⟨(some 10), .call ⟨.value (.func 29), #[(.tmp 9)], #[27]⟩, none⟩,
      ⟨(some 11), .move (.tmp 0), none⟩,
      ⟨(some 12), .build 68 #[(0, (.tmp 10)), (1, (.tmp 11))], none⟩,
      ⟨(some 7), .alloc 68, none⟩,
      ⟨none, .store 68 (.tmp 7) (.tmp 12), none⟩] 0)
    (.seq (.block 0 (.seq (.reg [0, 5, 6, 7] [⟨(some 14), .fieldAddr 68 (.tmp 7) 0, none⟩,
       ⟨(some 15), .fieldAddr 27 (.tmp 14) 4, none⟩,
       ⟨(some 16), .load 4 (.tmp 15), none⟩,
       ⟨(some 13), .assign (.tmp 16), none⟩] 0)
     (.cond (.tmp 13) (.seq (.seq (.reg [6, 7] [⟨(some 17), .fieldAddr 68 (.tmp 7) 0, none⟩,
         ⟨(some 18), .fieldAddr 27 (.tmp 17) 2, none⟩,
         ⟨(some 19), .load 25 (.tmp 18), none⟩,
         ⟨(some 20), .call ⟨.builtin .len, #[(.tmp 19)], #[25]⟩, none⟩,
         ⟨(some 8), .assign (.tmp 20), none⟩] 0)
       (.seq (.reg [6, 7, 8] [⟨(some 21), .move (.tmp 8), none⟩,
         ⟨(some 22), .binOp .gtr 3 (.tmp 21) (.const (.int .i64 0)) 3, none⟩] 0)
       (.cond (.tmp 22) (.seq (.reg [6, 7, 8] [⟨(some 23), .fieldAddr 68 (.tmp 7) 0, none⟩,
           ⟨(some 24), .fieldAddr 27 (.tmp 23) 2, none⟩,
           ⟨(some 25), .load 25 (.tmp 24), none⟩,
           ⟨(some 26), .fieldAddr 68 (.tmp 7) 0, none⟩,
           ⟨(some 27), .fieldAddr 27 (.tmp 26) 2, none⟩,
           ⟨(some 28), .load 25 (.tmp 27), none⟩,
           ⟨(some 29), .slice 25 (.tmp 28) (some (.const (.int .i64 1))) none none, none⟩,
           ⟨(some 30), .call ⟨.builtin .copy, #[(.tmp 25), (.tmp 29)], #[25, 25]⟩, none⟩] 7)
         (.reg [6, 7, 8] [⟨(some 31), .fieldAddr 68 (.tmp 7) 0, none⟩,
           ⟨(some 32), .fieldAddr 27 (.tmp 31) 2, none⟩,
           ⟨(some 33), .load 25 (.tmp 32), none⟩,
           ⟨(some 34), .move (.tmp 8), none⟩,
           ⟨(some 35), .binOp .sub 3 (.tmp 34) (.const (.int .i64 1)) 3, none⟩,
           ⟨(some 36), .slice 25 (.tmp 33) none (some (.tmp 35)) none, none⟩,
           ⟨(some 37), .fieldAddr 68 (.tmp 7) 0, none⟩,
           ⟨(some 38), .fieldAddr 27 (.tmp 37) 2, none⟩,
           ⟨none, .store 25 (.tmp 38) (.tmp 36), none⟩] 0))
         (.skip))))
       (.reg [6, 7] [⟨(some 39), .fieldAddr 68 (.tmp 7) 0, none⟩,
         ⟨(some 40), .fieldAddr 27 (.tmp 39) 4, none⟩,
         ⟨none, .store 4 (.tmp 40) (.const (.bool false)), none⟩] 0))
       (.seq (.reg [0, 5, 6, 7] [⟨(some 42), .fieldAddr 68 (.tmp 7) 0, none⟩,
         ⟨(some 43), .fieldAddr 27 (.tmp 42) 3, none⟩,
         ⟨(some 44), .load 4 (.tmp 43), none⟩,
         ⟨(some 41), .assign (.tmp 44), none⟩] 0)
       (.cond (.tmp 41) (.seq (.seq (.reg [0, 5, 6, 7] [⟨(some 45), .fieldAddr 68 (.tmp 7) 0, none⟩,
           ⟨(some 46), .fieldAddr 27 (.tmp 45) 0, none⟩,
           ⟨(some 47), .load 5 (.tmp 46), none⟩,
           ⟨(some 48), .convert 5 3 (.tmp 47), none⟩,
           ⟨(some 49), .move (.tmp 0), none⟩,
           ⟨(some 50), .call ⟨.builtin .len, #[(.tmp 49)], #[33]⟩, none⟩,
           ⟨(some 51), .binOp .lss 3 (.tmp 48) (.tmp 50) 3, none⟩] 0)
         (.cond (.tmp 51) (.seq (.reg [0, 5, 6, 7] [⟨(some 52), .move (.tmp 0), none⟩,
             ⟨(some 53), .fieldAddr 68 (.tmp 7) 0, none⟩,
             ⟨(some 54), .fieldAddr 27 (.tmp 53) 0, none⟩,
             ⟨(some 55), .load 5 (.tmp 54), none⟩,
             ⟨(some 56), .indexAddr 33 (.tmp 52) (.tmp 55), none⟩,
             ⟨(some 57), .load 38 (.tmp 56), none⟩,
             ⟨(some 58), .fieldAddr 68 (.tmp 7) 2, none⟩,
             ⟨none, .store 38 (.tmp 58) (.tmp 57), none⟩] 0)
           (.seq (.reg [5, 6, 7] [⟨(some 59), .fieldAddr 68 (.tmp 7) 2, none⟩,
             ⟨(some 60), .fieldAddr 38 (.tmp 59) 0, none⟩,
             ⟨(some 61), .load 5 (.tmp 60), none⟩,
             ⟨(some 62), .binOp .neq 5 (.tmp 61) (.const (.int .u8 2)) 5, none⟩] 0)
           (.cond (.tmp 62) (.reg [5, 6, 7] [⟨(some 63), .fieldAddr 77 (.tmp 5) 2, none⟩,
               ⟨(some 64), .load 5 (.tmp 63), none⟩,
               ⟨(some 65), .call ⟨.value (.func 38), #[(.tmp 7), (.tmp 64)], #[68, 5]⟩, none⟩] 0)
             (.skip))))
           (.skip)))
         (.seq (.reg [6, 7] [⟨(some 66), .call ⟨.value (.func 35), #[(.tmp 7), (.const (.int .i64 1))], #[68, 3]⟩, none⟩] 0)
         (.reg [6, 7] [⟨(some 67), .fieldAddr 68 (.tmp 7) 0, none⟩,
           ⟨(some 68), .fieldAddr 27 (.tmp 67) 3, none⟩,
           ⟨none, .store 4 (.tmp 68) (.const (.bool false)), none⟩] 0)))
         (.skip))))))
    (.seq (.reg [6, 7] [⟨(some 69), .fieldAddr 68 (.tmp 7) 0, none⟩,
      ⟨(some 70), .load 27 (.tmp 69), none⟩,
      ⟨none, .store 27 (.tmp 6) (.tmp 70), none⟩] 0)
    (.ret))))
def fn36 : MFn := ⟨71, [.cell 6 27], m36, .shut⟩
theorem fnOk36 : FnOk Try.prog 36 fn36 := ⟨Try.f36, _, fun i => bif Nat.beq i 1000000 then passing else ([[0, 1, 2], [0, 4, 5, 6], [0, 5, 6, 7], [6, 7], [6, 7, 8], [6, 7, 8], [6, 7, 8], [6, 7], [0, 5, 6, 7], [0, 5, 6, 7], [0, 5, 6, 7], [5, 6, 7], [5, 6, 7], [6, 7], [6, 7], [6, 7]] : List (List Nat)).getD i [], Try.func36, rfl, by kernel_rfl, by kernel_rfl, by kernel_rfl, by kernel_rfl⟩
/- seisin/seisinlaw30.done -/
def m37 : M :=
  .seq (.reg [0, 1] [⟨(some 3), .box 55 (.tmp 1), none⟩,
      ⟨(some 4), .alloc 77, none⟩] 0)
    (.seq (.reg [0, 3, 4] [⟨(some 7), .move (.tmp 0), none⟩,
      ⟨(some 8), .fieldAddr 55 (.tmp 3) 1, none⟩,
      ⟨(some 9), .load 5 (.tmp 8), none⟩,
      ⟨(some 10), .binOp .rem 5 (.tmp 9) (.const (.int .u8 4)) 5, none⟩,
      ⟨(some 11), .nilCheck (.tmp 7), none⟩,
      ⟨(some 12), .indexAddr 43 (.tmp 11) (.tmp 10), none⟩,
      ⟨(some 5), .assign (.tmp 12), none⟩] 5)
    (.seq (.reg [3, 4, 5] [⟨(some 13), .load 55 (.tmp 3), none⟩,
      ⟨(some 14), .move (.tmp 5), none⟩,
      ⟨(some 15), .nilCheck (.tmp 14), none⟩,
      ⟨(some 16), .load 5 (.tmp 15), none⟩,
      ⟨(some 17), .move (.tmp 5), none⟩,
      ⟨(some 18), .nilCheck (.tmp 17), none⟩,
      ⟨(some 19), .load 5 (.tmp 18), none⟩,
      ⟨(some 20), .build 77 #[(1, (.tmp 13)), (2, (.tmp 16)), (3, (.tmp 19))], none⟩,
      ⟨(some 6), .alloc 77, none⟩,
      ⟨none, .store 77 (.tmp 6) (.tmp 20), none⟩] 7)
    (.seq (.seq (.reg [3, 4, 5, 6] [⟨(some 21), .fieldAddr 55 (.tmp 3) 0, none⟩,
      ⟨(some 22), .load 5 (.tmp 21), none⟩] 0)
    (.block 0 (.seq (.seq (.reg [3, 4, 5, 6, 22] [⟨(some 24), .binOp .eql 5 (.tmp 22) (.const (.int .u8 2)) 5, none⟩,
       ⟨(some 23), .assign (.tmp 24), none⟩] 0)
     (.cond (.tmp 23) (.skip)
       (.reg [3, 4, 5, 6, 22] [⟨(some 25), .binOp .eql 5 (.tmp 22) (.const (.int .u8 4)) 5, none⟩,
         ⟨(some 23), .assign (.tmp 25), none⟩] 0)))
     (.cond (.tmp 23) (.reg [3, 4, 5, 6] [⟨(some 26), .fieldAddr 55 (.tmp 3) 2, none⟩,
         ⟨(some 27), .load 5 (.tmp 26), none⟩,
         ⟨(some 28), .fieldAddr 77 (.tmp 6) 3, none⟩,
         ⟨none, .store 5 (.tmp 28) (.tmp 27), none⟩] 0)
       (.seq (.reg [3, 4, 5, 6, 22] [⟨(some 30), .binOp .eql 5 (.tmp 22) (.const (.int .u8 5)) 5, none⟩,
         ⟨(some 29), .assign (.tmp 30), none⟩] 0)
       (.cond (.tmp 29) (.reg [3, 4, 5, 6] [⟨(some 31), .fieldAddr 77 (.tmp 6) 2, none⟩,
           ⟨(some 32), .load 5 (.tmp 31), none⟩,
           ⟨(some 33), .fieldAddr 55 (.tmp 3) 2, none⟩,
           ⟨(some 34), .load 5 (.tmp 33), none⟩,
           ⟨(some 35), .binOp .add 5 (.tmp 32) (.tmp 34) 5, none⟩,
           ⟨(some 36), .fieldAddr 77 (.tmp 6) 3, none⟩,
           ⟨none, .store 5 (.tmp 36) (.tmp 35), none⟩] 0)
         (.seq (.reg [3, 4, 5, 6, 22] [⟨(some 38), .binOp .eql 5 (.tmp 22) (.const (.int .u8 6)) 5, none⟩,
           ⟨(some 37), .assign (.tmp 38), none⟩] 0)
         (.cond (.tmp 37) (.seq (.reg [3, 4, 5, 6] [⟨(some 39), .fieldAddr 77 (.tmp 6) 2, none⟩,
             ⟨(some 40), .load 5 (.tmp 39), none⟩,
             ⟨(some 41), .fieldAddr 55 (.tmp 3) 2, none⟩,
             ⟨(some 42), .load 5 (.tmp 41), none⟩,
             ⟨(some 43), .binOp .eql 5 (.tmp 40) (.tmp 42) 5, none⟩] 0)
           (.cond (.tmp 43) (.reg [3, 4, 5, 6] [⟨(some 44), .fieldAddr 55 (.tmp 3) 3, none⟩,
               ⟨(some 45), .load 5 (.tmp 44), none⟩,
               ⟨(some 46), .fieldAddr 77 (.tmp 6) 3, none⟩,
               ⟨none, .store 5 (.tmp 46) (.tmp 45), none⟩] 0)
             (.skip)))
           (.skip)))))))))
    (.seq (.reg [4, 5, 6] [⟨(some 47), .move (.tmp 5), none⟩,
      ⟨(some 48), .fieldAddr 77 (.tmp 6) 3, none⟩,
      ⟨(some 49), .load 5 (.tmp 48), none⟩,
      ⟨(some 50), .nilCheck (.tmp 47), none⟩,
      ⟨none, .store 5 (.tmp 50) (.tmp 49), none⟩] 0)
    (.seq (.reg [4, 6] [⟨(some 51), .load 77 (.tmp 6), none⟩,
      ⟨none, .store 77 (.tmp 4) (.tmp 51), none⟩] 0)
    (.ret))))))
def fn37 : MFn := ⟨52, [.cell 4 77], m37, .pass⟩
theorem fnOk37 : FnOk Try.prog 37 fn37 := ⟨Try.f37, _, fun i => bif Nat.beq i 1000000 then passing else ([[0, 1], [0, 3, 4], [3, 4, 5], [3, 4, 5, 6], [3, 4, 5, 6, 22], [3, 4, 5, 6, 22], [3, 4, 5, 6], [3, 4, 5, 6, 22], [3, 4, 5, 6], [3, 4, 5, 6, 22], [3, 4, 5, 6], [3, 4, 5, 6], [4, 5, 6], [4, 6]] : List (List Nat)).getD i [], Try.func37, rfl, by kernel_rfl, by kernel_rfl, by kernel_rfl, by kernel_rfl⟩
/- (*seisin/core.work).set -/
def m38 : M :=
  .seq (.reg [0, 1] [⟨(some 4), .move (.tmp 0), none⟩,
      ⟨(some 5), .nilCheck (.tmp 4), none⟩,
      ⟨(some 6), .fieldAddr 68 (.tmp 5) 2, none⟩,
      ⟨(some 7), .fieldAddr 38 (.tmp 6) 1, none⟩,
      ⟨(some 8), .load 5 (.tmp 7), none⟩,
      ⟨(some 9), .binOp .lss 5 (.tmp 8) (.const (.int .u8 8)) 5, none⟩] 0)
    (.cond (.tmp 9) (.reg [0, 1] [⟨(some 10), .move (.tmp 0), none⟩,
        ⟨(some 11), .move (.tmp 0), none⟩,
        ⟨(some 12), .nilCheck (.tmp 11), none⟩,
        ⟨(some 13), .fieldAddr 68 (.tmp 12) 2, none⟩,
        ⟨(some 14), .fieldAddr 38 (.tmp 13) 1, none⟩,
        ⟨(some 15), .load 5 (.tmp 14), none⟩,
        ⟨(some 16), .move (.tmp 1), none⟩,
        ⟨(some 17), .nilCheck (.tmp 10), none⟩,
        ⟨(some 18), .fieldAddr 68 (.tmp 17) 0, none⟩,
        ⟨(some 19), .fieldAddr 27 (.tmp 18) 1, none⟩,
        ⟨(some 20), .indexAddr 24 (.tmp 19) (.tmp 15), none⟩,
        ⟨none, .store 5 (.tmp 20) (.tmp 16), none⟩] 10)
      (.skip))
def fn38 : MFn := ⟨21, [], m38, .pass⟩
theorem fnOk38 : FnOk Try.prog 38 fn38 := ⟨Try.f38, _, fun i => bif Nat.beq i 1000000 then passing else ([[0, 1], [0, 1]] : List (List Nat)).getD i [], Try.func38, rfl, by kernel_rfl, by kernel_rfl, by kernel_rfl, by kernel_rfl⟩
def fnList : List (Nat × MFn) := [(3, fn3), (4, fn4), (5, fn5), (6, fn6), (7, fn7), (8, fn8), (9, fn9), (10, fn10), (11, fn11), (12, fn12), (13, fn13), (14, fn14), (15, fn15), (16, fn16), (17, fn17), (18, fn18), (19, fn19), (20, fn20), (21, fn21), (22, fn22), (23, fn23), (24, fn24), (25, fn25), (26, fn26), (27, fn27), (28, fn28), (29, fn29), (30, fn30), (31, fn31), (32, fn32), (33, fn33), (34, fn34), (35, fn35), (36, fn36), (37, fn37), (38, fn38)]
def glList : List (Nat × List Value) := []
def Cx : Ctx := ⟨⟨lookL tyList, lookL glList⟩, lookL fnList, (fun _ _ => none)⟩
theorem CxOk : CtxOk Try.prog Cx := ctxOk_of (by kernel_rfl) (by
  unfold tyList
  simp only [List.forall_mem_cons, List.not_mem_nil, false_implies, implies_true, and_true]
  exact ⟨tyOk3, tyOk4, tyOk5, tyOk23, tyOk24, tyOk25, tyOk27, tyOk33, tyOk35, tyOk38, tyOk43, tyOk44, tyOk50, tyOk55, tyOk59, tyOk68, tyOk69, tyOk71, tyOk72, tyOk77⟩) (by
  unfold fnList
  simp only [List.forall_mem_cons, List.not_mem_nil, false_implies, implies_true, and_true]
  exact ⟨fnOk3, fnOk4, fnOk5, fnOk6, fnOk7, fnOk8, fnOk9, fnOk10, fnOk11, fnOk12, fnOk13, fnOk14, fnOk15, fnOk16, fnOk17, fnOk18, fnOk19, fnOk20, fnOk21, fnOk22, fnOk23, fnOk24, fnOk25, fnOk26, fnOk27, fnOk28, fnOk29, fnOk30, fnOk31, fnOk32, fnOk33, fnOk34, fnOk35, fnOk36, fnOk37, fnOk38⟩) qOk_none
theorem CxT3 : Cx.T 3 = some ty3 := by rfl
theorem CxT4 : Cx.T 4 = some ty4 := by rfl
theorem CxT5 : Cx.T 5 = some ty5 := by rfl
theorem CxT23 : Cx.T 23 = some ty23 := by rfl
theorem CxT24 : Cx.T 24 = some ty24 := by rfl
theorem CxT25 : Cx.T 25 = some ty25 := by rfl
theorem CxT27 : Cx.T 27 = some ty27 := by rfl
theorem CxT33 : Cx.T 33 = some ty33 := by rfl
theorem CxT35 : Cx.T 35 = some ty35 := by rfl
theorem CxT38 : Cx.T 38 = some ty38 := by rfl
theorem CxT43 : Cx.T 43 = some ty43 := by rfl
theorem CxT44 : Cx.T 44 = some ty44 := by rfl
theorem CxT50 : Cx.T 50 = some ty50 := by rfl
theorem CxT55 : Cx.T 55 = some ty55 := by rfl
theorem CxT59 : Cx.T 59 = some ty59 := by rfl
theorem CxT68 : Cx.T 68 = some ty68 := by rfl
theorem CxT69 : Cx.T 69 = some ty69 := by rfl
theorem CxT71 : Cx.T 71 = some ty71 := by rfl
theorem CxT72 : Cx.T 72 = some ty72 := by rfl
theorem CxT77 : Cx.T 77 = some ty77 := by rfl
theorem CxB3 : Cx.B 3 = some fn3 := by rfl
theorem CxB4 : Cx.B 4 = some fn4 := by rfl
theorem CxB5 : Cx.B 5 = some fn5 := by rfl
theorem CxB6 : Cx.B 6 = some fn6 := by rfl
theorem CxB7 : Cx.B 7 = some fn7 := by rfl
theorem CxB8 : Cx.B 8 = some fn8 := by rfl
theorem CxB9 : Cx.B 9 = some fn9 := by rfl
theorem CxB10 : Cx.B 10 = some fn10 := by rfl
theorem CxB11 : Cx.B 11 = some fn11 := by rfl
theorem CxB12 : Cx.B 12 = some fn12 := by rfl
theorem CxB13 : Cx.B 13 = some fn13 := by rfl
theorem CxB14 : Cx.B 14 = some fn14 := by rfl
theorem CxB15 : Cx.B 15 = some fn15 := by rfl
theorem CxB16 : Cx.B 16 = some fn16 := by rfl
theorem CxB17 : Cx.B 17 = some fn17 := by rfl
theorem CxB18 : Cx.B 18 = some fn18 := by rfl
theorem CxB19 : Cx.B 19 = some fn19 := by rfl
theorem CxB20 : Cx.B 20 = some fn20 := by rfl
theorem CxB21 : Cx.B 21 = some fn21 := by rfl
theorem CxB22 : Cx.B 22 = some fn22 := by rfl
theorem CxB23 : Cx.B 23 = some fn23 := by rfl
theorem CxB24 : Cx.B 24 = some fn24 := by rfl
theorem CxB25 : Cx.B 25 = some fn25 := by rfl
theorem CxB26 : Cx.B 26 = some fn26 := by rfl
theorem CxB27 : Cx.B 27 = some fn27 := by rfl
theorem CxB28 : Cx.B 28 = some fn28 := by rfl
theorem CxB29 : Cx.B 29 = some fn29 := by rfl
theorem CxB30 : Cx.B 30 = some fn30 := by rfl
theorem CxB31 : Cx.B 31 = some fn31 := by rfl
theorem CxB32 : Cx.B 32 = some fn32 := by rfl
theorem CxB33 : Cx.B 33 = some fn33 := by rfl
theorem CxB34 : Cx.B 34 = some fn34 := by rfl
theorem CxB35 : Cx.B 35 = some fn35 := by rfl
theorem CxB36 : Cx.B 36 = some fn36 := by rfl
theorem CxB37 : Cx.B 37 = some fn37 := by rfl
theorem CxB38 : Cx.B 38 = some fn38 := by rfl
theorem CxP3 : isPass Cx 3 = false := by rfl
theorem CxP4 : isPass Cx 4 = false := by rfl
theorem CxP5 : isPass Cx 5 = false := by rfl
theorem CxP6 : isPass Cx 6 = false := by rfl
theorem CxP7 : isPass Cx 7 = false := by rfl
theorem CxP8 : isPass Cx 8 = false := by rfl
theorem CxP9 : isPass Cx 9 = false := by rfl
theorem CxP10 : isPass Cx 10 = false := by rfl
theorem CxP11 : isPass Cx 11 = false := by rfl
theorem CxP12 : isPass Cx 12 = false := by rfl
theorem CxP13 : isPass Cx 13 = false := by rfl
theorem CxP14 : isPass Cx 14 = false := by rfl
theorem CxP15 : isPass Cx 15 = false := by rfl
theorem CxP16 : isPass Cx 16 = false := by rfl
theorem CxP17 : isPass Cx 17 = false := by rfl
theorem CxP18 : isPass Cx 18 = false := by rfl
theorem CxP19 : isPass Cx 19 = false := by rfl
theorem CxP20 : isPass Cx 20 = false := by rfl
theorem CxP21 : isPass Cx 21 = false := by rfl
theorem CxP22 : isPass Cx 22 = true := by rfl
theorem CxP23 : isPass Cx 23 = false := by rfl
theorem CxP24 : isPass Cx 24 = false := by rfl
theorem CxP25 : isPass Cx 25 = false := by rfl
theorem CxP26 : isPass Cx 26 = false := by rfl
theorem CxP27 : isPass Cx 27 = false := by rfl
theorem CxP28 : isPass Cx 28 = false := by rfl
theorem CxP29 : isPass Cx 29 = true := by rfl
theorem CxP30 : isPass Cx 30 = true := by rfl
theorem CxP31 : isPass Cx 31 = true := by rfl
theorem CxP32 : isPass Cx 32 = true := by rfl
theorem CxP33 : isPass Cx 33 = true := by rfl
theorem CxP34 : isPass Cx 34 = true := by rfl
theorem CxP35 : isPass Cx 35 = true := by rfl
theorem CxP36 : isPass Cx 36 = false := by rfl
theorem CxP37 : isPass Cx 37 = true := by rfl
theorem CxP38 : isPass Cx 38 = true := by rfl
end Go.Proofs.Ytkpolehpdgnliaa.Ev
