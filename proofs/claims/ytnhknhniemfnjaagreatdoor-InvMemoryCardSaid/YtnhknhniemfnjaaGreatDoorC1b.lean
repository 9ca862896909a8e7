/- The evaluator's context: types and bodies, and that they are the program's. Printed by wip/ev/gen/ctx.py. -/
import Derived.Test.YtnhknhniemfnjaaGreatDoorC1a
import Derived.Test.YtnhknhniemfnjaaGreatDoorChecked
set_option linter.unusedSimpArgs false
set_option linter.unusedVariables false
namespace Go.Proofs.YtnhknhniemfnjaaGreatDoor.Ev
open Go Go.RowKit
set_option maxRecDepth 100000

def m136 : M :=
 .seq (.reg [0, 1] [⟨(some 2), .box 206 (.tmp 0), none⟩,
 ⟨(some 4), .alloc 36, none⟩,
 ⟨(some 5), .assign (.const (.bool false)), none⟩] 0)
 (.seq (.reg [1, 2, 4] [⟨(some 10), .move (.tmp 1), none⟩,
 ⟨(some 11), .nilCheck (.tmp 10), none⟩,
 ⟨(some 12), .fieldAddr 211 (.tmp 11) 0, none⟩,
 ⟨(some 13), .fieldAddr 206 (.tmp 2) 1, none⟩,
 ⟨(some 14), .load 204 (.tmp 13), none⟩,
 ⟨(some 15), .call ⟨.value (.func 137), #[(.tmp 12), (.tmp 14)], #[209, 204]⟩, none⟩,
 ⟨(some 9), .move (.tmp 15), none⟩,
 ⟨(some 16), .extract (.tmp 9) 0, none⟩,
 ⟨(some 17), .extract (.tmp 9) 1, none⟩,
 ⟨(some 6), .assign (.tmp 16), none⟩,
 ⟨(some 7), .assign (.tmp 17), none⟩] 5)
 (.seq (.seq (.reg [1, 2, 4, 6, 7] [⟨(some 18), .move (.tmp 7), none⟩,
 ⟨(some 19), .unOp .not 4 (.tmp 18), none⟩] 0)
 (.cond (.tmp 19) (.seq (.reg [4] [⟨(some 20), .build 36 #[], none⟩,
 ⟨none, .store 36 (.tmp 4) (.tmp 20), none⟩,
 ⟨(some 5), .assign (.const (.bool false)), none⟩] 0)
 (.ret))
 (.skip)))
 (.seq (.reg [1, 2, 4, 6] [⟨(some 22), .move (.tmp 1), none⟩,
 ⟨(some 23), .fieldAddr 206 (.tmp 2) 3, none⟩,
 ⟨(some 24), .load 204 (.tmp 23), none⟩,
 ⟨(some 25), .call ⟨.value (.func 138), #[(.tmp 22), (.tmp 24)], #[207, 204]⟩, none⟩,
 ⟨(some 21), .move (.tmp 25), none⟩,
 ⟨(some 26), .extract (.tmp 21) 0, none⟩,
 ⟨(some 27), .extract (.tmp 21) 1, none⟩,
 ⟨(some 8), .assign (.tmp 26), none⟩,
 ⟨(some 7), .assign (.tmp 27), none⟩] 0)
 (.seq (.reg [4, 6, 7, 8] [⟨(some 28), .move (.tmp 6), none⟩,
 ⟨(some 29), .convert 3 5 (.tmp 28), none⟩,
 ⟨(some 30), .move (.tmp 8), none⟩,
 ⟨(some 31), .build 36 #[(0, (.const (.int .u8 1))), (1, (.tmp 29)), (2, (.tmp 30))], none⟩,
 ⟨(some 32), .move (.tmp 7), none⟩,
 ⟨none, .store 36 (.tmp 4) (.tmp 31), none⟩,
 ⟨(some 5), .assign (.tmp 32), none⟩] 0)
 (.ret)))))
def fn136 : MFn := ⟨33, [.cell 4 36, .tmp 5], m136, .pass⟩
theorem fnOk136 : FnOk Tryz.prog 136 fn136 := ⟨Tryz.f136, _, kpL passing [] [[0, 1], [1, 2, 4], [1, 2, 4, 6, 7], [4], [1, 2, 4, 6], [4, 6, 7, 8]], Tryz.func136, rfl, by kernel_rfl, by kernel_rfl, by kernel_rfl, by kernel_rfl⟩
/- (*seisin/spec.words).number -/
def m137 : M :=
 .seq (.reg [0, 1] [⟨(some 4), .assign (.const (.int .i64 0)), none⟩,
 ⟨(some 5), .assign (.const (.bool false)), none⟩] 0)
 (.seq (.reg [0, 1] [⟨(some 6), .move (.tmp 1), none⟩,
 ⟨(some 7), .move (.tmp 0), none⟩,
 ⟨(some 8), .call ⟨.value (.func 145), #[(.tmp 7)], #[249]⟩, none⟩,
 ⟨(some 9), .call ⟨.value (.func 159), #[(.tmp 6), (.tmp 8)], #[204, 9]⟩, none⟩,
 ⟨(some 10), .extract (.tmp 9) 0, none⟩,
 ⟨(some 11), .extract (.tmp 9) 1, none⟩,
 ⟨(some 4), .assign (.tmp 10), none⟩,
 ⟨(some 5), .assign (.tmp 11), none⟩] 0)
 (.ret))
def fn137 : MFn := ⟨12, [.tmp 4, .tmp 5], m137, .pass⟩
theorem fnOk137 : FnOk Tryz.prog 137 fn137 := ⟨Tryz.f137, _, kpL passing [] [[0, 1], [0, 1]], Tryz.func137, rfl, by kernel_rfl, by kernel_rfl, by kernel_rfl, by kernel_rfl⟩
/- (*seisin/spec.reader).acts -/
def m138_l0 : M :=
 .seq (.seq (.reg [0, 1, 6] [⟨(some 24), .move (.tmp 0), none⟩,
 ⟨(some 25), .nilCheck (.tmp 24), none⟩,
 ⟨(some 26), .fieldAddr 211 (.tmp 25) 0, none⟩,
 ⟨(some 27), .call ⟨.value (.func 135), #[(.tmp 26)], #[209]⟩, none⟩,
 ⟨(some 28), .unOp .not 4 (.tmp 27), none⟩] 0)
 (.cond (.tmp 28) (.skip)
 (.exit 0)))
 (.block 1 (.seq (.reg [0, 1, 6] [⟨(some 30), .move (.tmp 0), none⟩,
 ⟨(some 31), .nilCheck (.tmp 30), none⟩,
 ⟨(some 32), .fieldAddr 211 (.tmp 31) 0, none⟩,
 ⟨(some 33), .move (.tmp 1), none⟩,
 ⟨(some 34), .call ⟨.value (.func 137), #[(.tmp 32), (.tmp 33)], #[209, 204]⟩, none⟩,
 ⟨(some 29), .move (.tmp 34), none⟩,
 ⟨(some 35), .extract (.tmp 29) 0, none⟩,
 ⟨(some 36), .extract (.tmp 29) 1, none⟩,
 ⟨(some 7), .assign (.tmp 35), none⟩,
 ⟨(some 8), .assign (.tmp 36), none⟩] 0)
 (.seq (.seq (.reg [0, 1, 6, 7, 8] [⟨(some 37), .move (.tmp 8), none⟩,
 ⟨(some 38), .unOp .not 4 (.tmp 37), none⟩,
 ⟨(some 39), .move (.tmp 38), none⟩,
 ⟨(some 40), .move (.tmp 6), (some (39, false))⟩,
 ⟨(some 41), .move (.tmp 7), (some (39, false))⟩,
 ⟨(some 42), .binOp .shr 34 (.tmp 40) (.tmp 41) 3, (some (39, false))⟩,
 ⟨(some 43), .binOp .and 34 (.tmp 42) (.const (.int .u16 1)) 34, (some (39, false))⟩,
 ⟨(some 44), .binOp .neq 34 (.tmp 43) (.const (.int .u16 0)) 34, (some (39, false))⟩,
 ⟨(some 45), .pick (.tmp 39) (.const (.bool true)) (.tmp 44), none⟩] 0)
 (.cond (.tmp 45) (.seq (.reg [] [⟨(some 4), .assign (.const (.int .u16 0)), none⟩,
 ⟨(some 5), .assign (.const (.bool false)), none⟩] 0)
 (.ret))
 (.skip)))
 (.reg [0, 1, 6, 7] [⟨(some 46), .move (.tmp 6), none⟩,
 ⟨(some 47), .move (.tmp 7), none⟩,
 ⟨(some 48), .binOp .shl 34 (.const (.int .u16 1)) (.tmp 47) 3, none⟩,
 ⟨(some 49), .binOp .or 34 (.tmp 46) (.tmp 48) 34, none⟩,
 ⟨(some 6), .assign (.tmp 49), none⟩] 0))))
def m138 : M :=
 .seq (.reg [0, 1] [⟨(some 4), .assign (.const (.int .u16 0)), none⟩,
 ⟨(some 5), .assign (.const (.bool false)), none⟩] 0)
 (.seq (.seq (.reg [0, 1] [⟨(some 9), .move (.tmp 0), none⟩,
 ⟨(some 10), .nilCheck (.tmp 9), none⟩,
 ⟨(some 11), .fieldAddr 211 (.tmp 10) 0, none⟩,
 ⟨(some 12), .call ⟨.value (.func 135), #[(.tmp 11)], #[209]⟩, none⟩] 0)
 (.cond (.tmp 12) (.seq (.reg [] [⟨(some 4), .assign (.const (.int .u16 0)), none⟩,
 ⟨(some 5), .assign (.const (.bool true)), none⟩] 0)
 (.ret))
 (.skip)))
 (.seq (.seq (.reg [0, 1] [⟨(some 13), .move (.tmp 0), none⟩,
 ⟨(some 14), .nilCheck (.tmp 13), none⟩,
 ⟨(some 15), .fieldAddr 211 (.tmp 14) 0, none⟩,
 ⟨(some 16), .call ⟨.value (.func 145), #[(.tmp 15)], #[209]⟩, none⟩,
 ⟨(some 17), .binOp .neq 9 (.tmp 16) (.const (.string ⟨#[58]⟩)) 9, none⟩,
 ⟨(some 18), .move (.tmp 17), none⟩,
 ⟨(some 19), .move (.tmp 0), (some (18, false))⟩,
 ⟨(some 20), .nilCheck (.tmp 19), (some (18, false))⟩,
 ⟨(some 21), .fieldAddr 211 (.tmp 20) 0, (some (18, false))⟩,
 ⟨(some 22), .call ⟨.value (.func 135), #[(.tmp 21)], #[209]⟩, (some (18, false))⟩,
 ⟨(some 23), .pick (.tmp 18) (.const (.bool true)) (.tmp 22), none⟩] 0)
 (.cond (.tmp 23) (.seq (.reg [] [⟨(some 4), .assign (.const (.int .u16 0)), none⟩,
 ⟨(some 5), .assign (.const (.bool false)), none⟩] 0)
 (.ret))
 (.skip)))
 (.seq (.reg [0, 1] [⟨(some 6), .assign (.const (.int .u16 0)), none⟩] 0)
 (.seq (.block 0 (.loop (m138_l0)))
 (.seq (.reg [6] [⟨(some 50), .move (.tmp 6), none⟩,
 ⟨(some 4), .assign (.tmp 50), none⟩,
 ⟨(some 5), .assign (.const (.bool true)), none⟩] 0)
 (.ret))))))
def fn138 : MFn := ⟨51, [.tmp 4, .tmp 5], m138, .pass⟩
theorem fnOk138 : FnOk Tryz.prog 138 fn138 := ⟨Tryz.f138, _, kpL passing [] [[0, 1], [0, 1], [], [0, 1], [], [0, 1], [0, 1, 6], [0, 1, 6], [0, 1, 6, 7, 8], [], [0, 1, 6, 7], [6]], Tryz.func138, rfl, by kernel_rfl, by kernel_rfl, by kernel_rfl, by kernel_rfl⟩
/- seisin/spec.lines$1 -/
def m139 : M :=
 .seq (.reg [0] [⟨(some 2), .assign (.const (.bool false)), none⟩] 0)
 (.seq (.reg [0] [⟨(some 3), .move (.tmp 0), none⟩,
 ⟨(some 4), .binOp .eql 21 (.tmp 3) (.const (.int .i32 32)) 21, none⟩,
 ⟨(some 2), .assign (.tmp 4), none⟩] 0)
 (.ret))
def fn139 : MFn := ⟨5, [.tmp 2], m139, .pass⟩
theorem fnOk139 : FnOk Tryz.prog 139 fn139 := ⟨Tryz.f139, _, kpL passing [] [[0], [0]], Tryz.func139, rfl, by kernel_rfl, by kernel_rfl, by kernel_rfl, by kernel_rfl⟩
/- seisin/spec.lines$2 -/
def m140_l0 : M :=
 .reg [2, 3, 4, 9] [⟨(some 5), .assign (.tmp 9), none⟩] 0
def m140_l1 : M :=
 .block 1 (.seq (.reg [2, 3, 4, 5] [⟨(some 10), .load 3 (.tmp 4), none⟩,
 ⟨(some 11), .binOp .add 3 (.tmp 10) (.const (.int .i64 1)) 3, none⟩,
 ⟨none, .store 3 (.tmp 4) (.tmp 11), none⟩] 0)
 (.seq (.reg [2, 3, 4, 5] [⟨(some 13), .move (.tmp 5), none⟩,
 ⟨(some 14), .call ⟨.value (.func 142), #[(.tmp 13), (.const (.string ⟨#[35]⟩))], #[9, 9]⟩, none⟩,
 ⟨(some 12), .move (.tmp 14), none⟩,
 ⟨(some 15), .extract (.tmp 12) 0, none⟩,
 ⟨(some 16), .extract (.tmp 12) 1, none⟩,
 ⟨(some 17), .extract (.tmp 12) 2, none⟩,
 ⟨(some 5), .assign (.tmp 15), none⟩] 0)
 (.seq (.reg [2, 3, 4, 5] [⟨(some 18), .move (.tmp 5), none⟩,
 ⟨(some 19), .load 216 (.tmp 2), none⟩,
 ⟨(some 20), .call ⟨.value (.func 143), #[(.tmp 18), (.tmp 19)], #[9, 216]⟩, none⟩,
 ⟨(some 6), .assign (.tmp 20), none⟩] 0)
 (.seq (.reg [3, 4, 6] [⟨(some 21), .move (.tmp 6), none⟩,
 ⟨(some 22), .call ⟨.builtin .len, #[(.tmp 21)], #[22]⟩, none⟩,
 ⟨(some 23), .binOp .gtr 3 (.tmp 22) (.const (.int .i64 0)) 3, none⟩,
 ⟨(some 24), .move (.tmp 23), none⟩,
 ⟨(some 25), .load 217 (.tmp 3), (some (24, true))⟩,
 ⟨(some 26), .load 3 (.tmp 4), (some (24, true))⟩,
 ⟨(some 27), .move (.tmp 6), (some (24, true))⟩,
 ⟨(some 28), .call ⟨.value (.tmp 25), #[(.tmp 26), (.tmp 27)], #[3, 22]⟩, (some (24, true))⟩,
 ⟨(some 29), .unOp .not 4 (.tmp 28), (some (24, true))⟩,
 ⟨(some 30), .pick (.tmp 24) (.tmp 29) (.const (.bool false)), none⟩] 0)
 (.cond (.tmp 30) (.ret)
 (.skip))))))
def m140 : M :=
 .seq (.reg [0, 1, 2] [⟨(some 3), .box 217 (.tmp 0), none⟩] 0)
 (.seq (.reg [1, 2, 3] [⟨(some 4), .alloc 3, none⟩,
 ⟨none, .store 3 (.tmp 4) (.const (.int .i64 0)), none⟩] 0)
 (.seq (.reg [1, 2, 3, 4] [⟨(some 7), .load 9 (.tmp 1), none⟩,
 ⟨(some 8), .call ⟨.value (.func 141), #[(.tmp 7), (.const (.string ⟨#[10]⟩))], #[9, 9]⟩, none⟩] 0)
 (.block 0 (.rf (.tmp 8) 31 [9] [2, 3, 4] (m140_l0) (m140_l1)))))
def fn140 : MFn := ⟨31, [], m140, .pass⟩
theorem fnOk140 : FnOk Tryz.prog 140 fn140 := ⟨Tryz.f140, _, kpL passing [2, 3, 4] [[0, 1, 2], [1, 2, 3], [1, 2, 3, 4], [2, 3, 4, 9], [2, 3, 4, 5], [2, 3, 4, 5], [2, 3, 4, 5], [3, 4, 6]], Tryz.func140, rfl, by kernel_rfl, by kernel_rfl, by kernel_rfl, by kernel_rfl⟩
/- strings.SplitSeq -/
def m141 : M :=
 .seq (.reg [0, 1] [⟨(some 4), .assign (.const .nilFunc), none⟩] 0)
 (.seq (.reg [0, 1] [⟨(some 5), .move (.tmp 0), none⟩,
 ⟨(some 6), .move (.tmp 1), none⟩,
 ⟨(some 7), .call ⟨.value (.func 160), #[(.tmp 5), (.tmp 6), (.const (.int .i64 0))], #[9, 9, 3]⟩, none⟩,
 ⟨(some 4), .assign (.tmp 7), none⟩] 0)
 (.ret))
def fn141 : MFn := ⟨8, [.tmp 4], m141, .pass⟩
theorem fnOk141 : FnOk Tryz.prog 141 fn141 := ⟨Tryz.f141, _, kpL passing [] [[0, 1], [0, 1]], Tryz.func141, rfl, by kernel_rfl, by kernel_rfl, by kernel_rfl, by kernel_rfl⟩
/- strings.Cut -/
def m142 : M :=
 .seq (.reg [0, 1] [⟨(some 4), .assign (.const (.string ⟨#[]⟩)), none⟩,
 ⟨(some 5), .assign (.const (.string ⟨#[]⟩)), none⟩,
 ⟨(some 6), .assign (.const (.bool false)), none⟩] 0)
 (.seq (.reg [0, 1] [⟨(some 7), .move (.tmp 0), none⟩,
 ⟨(some 8), .move (.tmp 1), none⟩,
 ⟨(some 9), .call ⟨.value (.func 161), #[(.tmp 7), (.tmp 8)], #[9, 9]⟩, none⟩,
 ⟨(some 10), .extract (.tmp 9) 0, none⟩,
 ⟨(some 11), .extract (.tmp 9) 1, none⟩,
 ⟨(some 12), .extract (.tmp 9) 2, none⟩,
 ⟨(some 4), .assign (.tmp 10), none⟩,
 ⟨(some 5), .assign (.tmp 11), none⟩,
 ⟨(some 6), .assign (.tmp 12), none⟩] 0)
 (.ret))
def fn142 : MFn := ⟨13, [.tmp 4, .tmp 5, .tmp 6], m142, .shut⟩
theorem fnOk142 : FnOk Tryz.prog 142 fn142 := ⟨Tryz.f142, _, kpL passing [] [[0, 1], [0, 1]], Tryz.func142, rfl, by kernel_rfl, by kernel_rfl, by kernel_rfl, by kernel_rfl⟩
/- strings.FieldsFunc -/
def m143_l0 : M :=
 .seq (.reg [0, 1, 5, 6, 14] [⟨(some 15), .next (.tmp 14) true, none⟩,
 ⟨(some 16), .extract (.tmp 15) 0, none⟩] 0)
 (.seq (.cond (.tmp 16) (.skip)
 (.exit 0))
 (.block 1 (.seq (.reg [0, 1, 5, 6, 14, 15] [⟨(some 17), .extract (.tmp 15) 1, none⟩,
 ⟨(some 18), .extract (.tmp 15) 2, none⟩,
 ⟨(some 7), .assign (.tmp 17), none⟩,
 ⟨(some 8), .assign (.tmp 18), none⟩] 0)
 (.seq (.reg [0, 1, 5, 6, 7, 8, 14] [⟨(some 19), .move (.tmp 1), none⟩,
 ⟨(some 20), .move (.tmp 8), none⟩,
 ⟨(some 21), .call ⟨.value (.tmp 19), #[(.tmp 20)], #[21]⟩, none⟩] 0)
 (.cond (.tmp 21) (.seq (.reg [0, 1, 5, 6, 7, 14] [⟨(some 22), .move (.tmp 6), none⟩,
 ⟨(some 23), .binOp .geq 3 (.tmp 22) (.const (.int .i64 0)) 3, none⟩] 0)
 (.cond (.tmp 23) (.seq (.reg [0, 1, 5, 6, 7, 14] [⟨(some 24), .move (.tmp 5), none⟩,
 ⟨(some 25), .move (.tmp 6), none⟩,
 ⟨(some 26), .move (.tmp 7), none⟩,
 ⟨(some 27), .build 254 #[(0, (.tmp 25)), (1, (.tmp 26))], none⟩,
 ⟨(some 28), .buildSlice 252 1 #[(0, (.tmp 27))], none⟩,
 ⟨(some 29), .call ⟨.builtin .append, #[(.tmp 24), (.tmp 28)], #[252, 252]⟩, none⟩,
 ⟨(some 5), .assign (.tmp 29), none⟩] 0)
 (.reg [0, 1, 5, 6, 14] [⟨(some 30), .move (.tmp 6), none⟩,
 ⟨(some 31), .unOp .xor 3 (.tmp 30), none⟩,
 ⟨(some 6), .assign (.tmp 31), none⟩] 0))
 (.skip)))
 (.seq (.reg [0, 1, 5, 6, 7, 14] [⟨(some 32), .move (.tmp 6), none⟩,
 ⟨(some 33), .binOp .lss 3 (.tmp 32) (.const (.int .i64 0)) 3, none⟩] 0)
 (.cond (.tmp 33) (.reg [0, 1, 5, 7, 14] [⟨(some 34), .move (.tmp 7), none⟩,
 ⟨(some 6), .assign (.tmp 34), none⟩] 0)
 (.skip))))))))
def m143_l1 : M :=
 .seq (.reg [0, 9, 47, 48, 49] [⟨(some 50), .binOp .lss 3 (.tmp 49) (.tmp 48) 3, none⟩] 0)
 (.seq (.cond (.tmp 50) (.skip)
 (.exit 2))
 (.seq (.block 3 (.seq (.reg [0, 9, 47, 48, 49] [⟨(some 51), .move (.tmp 49), none⟩,
 ⟨(some 52), .indexAddr 252 (.tmp 47) (.tmp 49), none⟩,
 ⟨(some 53), .load 254 (.tmp 52), none⟩,
 ⟨(some 11), .alloc 254, none⟩,
 ⟨(some 10), .assign (.tmp 51), none⟩,
 ⟨none, .store 254 (.tmp 11) (.tmp 53), none⟩] 0)
 (.reg [0, 9, 10, 11, 47, 48, 49] [⟨(some 54), .move (.tmp 9), none⟩,
 ⟨(some 55), .move (.tmp 10), none⟩,
 ⟨(some 56), .move (.tmp 0), none⟩,
 ⟨(some 57), .fieldAddr 254 (.tmp 11) 0, none⟩,
 ⟨(some 58), .load 3 (.tmp 57), none⟩,
 ⟨(some 59), .fieldAddr 254 (.tmp 11) 1, none⟩,
 ⟨(some 60), .load 3 (.tmp 59), none⟩,
 ⟨(some 61), .slice 9 (.tmp 56) (some (.tmp 58)) (some (.tmp 60)) none, none⟩,
 ⟨(some 62), .indexAddr 22 (.tmp 54) (.tmp 55), none⟩,
 ⟨none, .store 9 (.tmp 62) (.tmp 61), none⟩] 0)))
 (.reg [0, 9, 47, 48, 49] [⟨(some 63), .binOp .add 3 (.tmp 49) (.const (.int .i64 1)) 3, none⟩,
 ⟨(some 49), .move (.tmp 63), none⟩] 0)))
def m143 : M :=
 .seq (.reg [0, 1] [⟨(some 4), .assign (.const (.slice none 0 0)), none⟩] 0)
 (.seq (.reg [0, 1] [⟨(some 12), .makeSlice 252 (.const (.int .i64 0)) (.const (.int .i64 32)), none⟩,
 ⟨(some 5), .assign (.tmp 12), none⟩] 0)
 (.seq (.reg [0, 1, 5] [⟨(some 6), .assign (.const (.int .i64 (-1))), none⟩] 0)
 (.seq (.seq (.reg [0, 1, 5, 6] [⟨(some 13), .move (.tmp 0), none⟩,
 ⟨(some 14), .range 9 (.tmp 13), none⟩] 0)
 (.block 0 (.loop (m143_l0))))
 (.seq (.seq (.reg [0, 5, 6] [⟨(some 35), .move (.tmp 6), none⟩,
 ⟨(some 36), .binOp .geq 3 (.tmp 35) (.const (.int .i64 0)) 3, none⟩] 0)
 (.cond (.tmp 36) (.reg [0, 5, 6] [⟨(some 37), .move (.tmp 5), none⟩,
 ⟨(some 38), .move (.tmp 6), none⟩,
 ⟨(some 39), .move (.tmp 0), none⟩,
 ⟨(some 40), .call ⟨.builtin .len, #[(.tmp 39)], #[9]⟩, none⟩,
 ⟨(some 41), .build 254 #[(0, (.tmp 38)), (1, (.tmp 40))], none⟩,
 ⟨(some 42), .buildSlice 252 1 #[(0, (.tmp 41))], none⟩,
 ⟨(some 43), .call ⟨.builtin .append, #[(.tmp 37), (.tmp 42)], #[252, 252]⟩, none⟩,
 ⟨(some 5), .assign (.tmp 43), none⟩] 0)
 (.skip)))
 (.seq (.reg [0, 5] [⟨(some 44), .move (.tmp 5), none⟩,
 ⟨(some 45), .call ⟨.builtin .len, #[(.tmp 44)], #[252]⟩, none⟩,
 ⟨(some 46), .makeSlice 22 (.tmp 45) (.tmp 45), none⟩,
 ⟨(some 9), .assign (.tmp 46), none⟩] 0)
 (.seq (.seq (.reg [0, 5, 9] [⟨(some 47), .move (.tmp 5), none⟩,
 ⟨(some 48), .call ⟨.builtin .len, #[(.tmp 47)], #[252]⟩, none⟩,
 ⟨(some 49), .move (.const (.int .i64 0)), none⟩] 0)
 (.block 2 (.loop (m143_l1))))
 (.seq (.reg [9] [⟨(some 64), .move (.tmp 9), none⟩,
 ⟨(some 4), .assign (.tmp 64), none⟩] 0)
 (.ret))))))))
def fn143 : MFn := ⟨65, [.tmp 4], m143, .shut⟩
theorem fnOk143 : FnOk Tryz.prog 143 fn143 := ⟨Tryz.f143, _, kpL passing [] [[0, 1], [0, 1], [0, 1, 5], [0, 1, 5, 6], [0, 1, 5, 6, 14], [0, 1, 5, 6, 14, 15], [0, 1, 5, 6, 7, 8, 14], [0, 1, 5, 6, 7, 14], [0, 1, 5, 6, 7, 14], [0, 1, 5, 6, 14], [0, 1, 5, 6, 7, 14], [0, 1, 5, 7, 14], [0, 5, 6], [0, 5, 6], [0, 5], [0, 5, 9], [0, 9, 47, 48, 49], [0, 9, 47, 48, 49], [0, 9, 10, 11, 47, 48, 49], [0, 9, 47, 48, 49], [9]], Tryz.func143, rfl, by kernel_rfl, by kernel_rfl, by kernel_rfl, by kernel_rfl⟩
/- (*seisin/spec.reader).place -/
def m144 : M :=
 .seq (.reg [0] [⟨(some 2), .alloc 225, none⟩,
 ⟨(some 3), .assign (.const (.bool false)), none⟩] 0)
 (.seq (.reg [0, 2] [⟨(some 9), .call ⟨.value (.func 162), #[], #[]⟩, none⟩,
 ⟨(some 10), .build 225 #[(0, (.tmp 9))], none⟩,
 ⟨(some 4), .alloc 225, none⟩,
 ⟨none, .store 225 (.tmp 4) (.tmp 10), none⟩] 0)
 (.seq (.seq (.reg [0, 2, 4] [⟨(some 11), .move (.tmp 0), none⟩,
 ⟨(some 12), .nilCheck (.tmp 11), none⟩,
 ⟨(some 13), .fieldAddr 211 (.tmp 12) 0, none⟩,
 ⟨(some 14), .call ⟨.value (.func 145), #[(.tmp 13)], #[209]⟩, none⟩] 0)
 (.block 0 (.seq (.reg [0, 2, 4, 14] [⟨(some 17), .fieldAddr 225 (.tmp 4) 0, none⟩,
 ⟨(some 18), .fieldAddr 206 (.tmp 17) 0, none⟩,
 ⟨(some 19), .load 9 (.tmp 18), none⟩,
 ⟨(some 20), .binOp .eql 9 (.tmp 14) (.tmp 19) 9, none⟩,
 ⟨(some 16), .assign (.tmp 20), none⟩] 0)
 (.cond (.tmp 16) (.skip)
 (.seq (.reg [0, 2, 4, 14] [⟨(some 22), .call ⟨.value (.func 163), #[], #[]⟩, none⟩,
 ⟨(some 23), .field 206 (.tmp 22) 0, none⟩,
 ⟨(some 24), .binOp .eql 9 (.tmp 14) (.tmp 23) 9, none⟩,
 ⟨(some 21), .assign (.tmp 24), none⟩] 0)
 (.cond (.tmp 21) (.reg [0, 2, 4] [⟨(some 25), .call ⟨.value (.func 163), #[], #[]⟩, none⟩,
 ⟨(some 26), .fieldAddr 225 (.tmp 4) 0, none⟩,
 ⟨none, .store 206 (.tmp 26) (.tmp 25), none⟩] 0)
 (.seq (.reg [2] [⟨(some 15), .build 225 #[], none⟩,
 ⟨none, .store 225 (.tmp 2) (.tmp 15), none⟩,
 ⟨(some 3), .assign (.const (.bool false)), none⟩] 0)
 (.ret))))))))
 (.seq (.reg [0, 2, 4] [⟨(some 28), .move (.tmp 0), none⟩,
 ⟨(some 29), .nilCheck (.tmp 28), none⟩,
 ⟨(some 30), .fieldAddr 211 (.tmp 29) 0, none⟩,
 ⟨(some 31), .fieldAddr 225 (.tmp 4) 0, none⟩,
 ⟨(some 32), .fieldAddr 206 (.tmp 31) 1, none⟩,
 ⟨(some 33), .load 204 (.tmp 32), none⟩,
 ⟨(some 34), .call ⟨.value (.func 137), #[(.tmp 30), (.tmp 33)], #[209, 204]⟩, none⟩,
 ⟨(some 27), .move (.tmp 34), none⟩,
 ⟨(some 35), .extract (.tmp 27) 0, none⟩,
 ⟨(some 36), .extract (.tmp 27) 1, none⟩,
 ⟨(some 5), .assign (.tmp 35), none⟩,
 ⟨(some 6), .assign (.tmp 36), none⟩] 6)
 (.seq (.reg [0, 2, 4, 5, 6] [⟨(some 38), .move (.tmp 0), none⟩,
 ⟨(some 39), .nilCheck (.tmp 38), none⟩,
 ⟨(some 40), .fieldAddr 211 (.tmp 39) 0, none⟩,
 ⟨(some 41), .fieldAddr 225 (.tmp 4) 0, none⟩,
 ⟨(some 42), .fieldAddr 206 (.tmp 41) 2, none⟩,
 ⟨(some 43), .load 204 (.tmp 42), none⟩,
 ⟨(some 44), .call ⟨.value (.func 137), #[(.tmp 40), (.tmp 43)], #[209, 204]⟩, none⟩,
 ⟨(some 37), .move (.tmp 44), none⟩,
 ⟨(some 45), .extract (.tmp 37) 0, none⟩,
 ⟨(some 46), .extract (.tmp 37) 1, none⟩,
 ⟨(some 7), .assign (.tmp 45), none⟩,
 ⟨(some 8), .assign (.tmp 46), none⟩] 6)
 (.seq (.seq (.reg [2, 4, 5, 6, 7, 8] [⟨(some 47), .move (.tmp 6), none⟩,
 ⟨(some 48), .unOp .not 4 (.tmp 47), none⟩,
 ⟨(some 49), .move (.tmp 48), none⟩,
 ⟨(some 50), .move (.tmp 8), (some (49, false))⟩,
 ⟨(some 51), .unOp .not 4 (.tmp 50), (some (49, false))⟩,
 ⟨(some 52), .pick (.tmp 49) (.const (.bool true)) (.tmp 51), none⟩] 0)
 (.cond (.tmp 52) (.seq (.reg [2] [⟨(some 53), .build 225 #[], none⟩,
 ⟨none, .store 225 (.tmp 2) (.tmp 53), none⟩,
 ⟨(some 3), .assign (.const (.bool false)), none⟩] 0)
 (.ret))
 (.skip)))
 (.seq (.reg [2, 4, 5, 7] [⟨(some 54), .move (.tmp 5), none⟩,
 ⟨(some 55), .move (.tmp 7), none⟩,
 ⟨(some 56), .fieldAddr 225 (.tmp 4) 1, none⟩,
 ⟨none, .store 3 (.tmp 56) (.tmp 54), none⟩,
 ⟨(some 57), .fieldAddr 225 (.tmp 4) 2, none⟩,
 ⟨none, .store 3 (.tmp 57) (.tmp 55), none⟩] 0)
 (.seq (.reg [2, 4] [⟨(some 58), .load 225 (.tmp 4), none⟩,
 ⟨none, .store 225 (.tmp 2) (.tmp 58), none⟩,
 ⟨(some 3), .assign (.const (.bool true)), none⟩] 0)
 (.ret))))))))
def fn144 : MFn := ⟨59, [.cell 2 225, .tmp 3], m144, .pass⟩
theorem fnOk144 : FnOk Tryz.prog 144 fn144 := ⟨Tryz.f144, _, kpL passing [] [[0], [0, 2], [0, 2, 4], [2], [0, 2, 4, 14], [0, 2, 4, 14], [0, 2, 4], [0, 2, 4], [0, 2, 4, 5, 6], [2, 4, 5, 6, 7, 8], [2], [2, 4, 5, 7], [2, 4]], Tryz.func144, rfl, by kernel_rfl, by kernel_rfl, by kernel_rfl, by kernel_rfl⟩
/- (*seisin/spec.words).next -/
def m145 : M :=
 .seq (.reg [0] [⟨(some 2), .assign (.const (.string ⟨#[]⟩)), none⟩] 0)
 (.seq (.seq (.reg [0] [⟨(some 4), .move (.tmp 0), none⟩,
 ⟨(some 5), .nilCheck (.tmp 4), none⟩,
 ⟨(some 6), .fieldAddr 209 (.tmp 5) 0, none⟩,
 ⟨(some 7), .load 22 (.tmp 6), none⟩,
 ⟨(some 8), .call ⟨.builtin .len, #[(.tmp 7)], #[22]⟩, none⟩,
 ⟨(some 9), .binOp .eql 3 (.tmp 8) (.const (.int .i64 0)) 3, none⟩] 0)
 (.cond (.tmp 9) (.seq (.reg [] [⟨(some 2), .assign (.const (.string ⟨#[]⟩)), none⟩] 0)
 (.ret))
 (.skip)))
 (.seq (.reg [0] [⟨(some 10), .move (.tmp 0), none⟩,
 ⟨(some 11), .nilCheck (.tmp 10), none⟩,
 ⟨(some 12), .fieldAddr 209 (.tmp 11) 0, none⟩,
 ⟨(some 13), .load 22 (.tmp 12), none⟩,
 ⟨(some 14), .indexAddr 22 (.tmp 13) (.const (.int .i64 0)), none⟩,
 ⟨(some 15), .load 9 (.tmp 14), none⟩,
 ⟨(some 3), .assign (.tmp 15), none⟩] 0)
 (.seq (.reg [0, 3] [⟨(some 16), .move (.tmp 0), none⟩,
 ⟨(some 17), .move (.tmp 0), none⟩,
 ⟨(some 18), .nilCheck (.tmp 17), none⟩,
 ⟨(some 19), .fieldAddr 209 (.tmp 18) 0, none⟩,
 ⟨(some 20), .load 22 (.tmp 19), none⟩,
 ⟨(some 21), .slice 22 (.tmp 20) (some (.const (.int .i64 1))) none none, none⟩,
 ⟨(some 22), .nilCheck (.tmp 16), none⟩,
 ⟨(some 23), .fieldAddr 209 (.tmp 22) 0, none⟩,
 ⟨none, .store 22 (.tmp 23) (.tmp 21), none⟩] 0)
 (.seq (.reg [3] [⟨(some 24), .move (.tmp 3), none⟩,
 ⟨(some 2), .assign (.tmp 24), none⟩] 0)
 (.ret)))))
def fn145 : MFn := ⟨25, [.tmp 2], m145, .pass⟩
theorem fnOk145 : FnOk Tryz.prog 145 fn145 := ⟨Tryz.f145, _, kpL passing [] [[0], [0], [], [0], [0, 3], [3]], Tryz.func145, rfl, by kernel_rfl, by kernel_rfl, by kernel_rfl, by kernel_rfl⟩
/- (seisin/spec.place).in -/
def m146 : M :=
 .seq (.reg [0, 1] [⟨(some 2), .box 225 (.tmp 0), none⟩,
 ⟨(some 4), .assign (.const (.pointer none)), none⟩] 0)
 (.seq (.seq (.reg [1, 2] [⟨(some 5), .fieldAddr 225 (.tmp 2) 0, none⟩,
 ⟨(some 6), .fieldAddr 206 (.tmp 5) 1, none⟩,
 ⟨(some 7), .load 204 (.tmp 6), none⟩,
 ⟨(some 8), .binOp .eql 204 (.tmp 7) (.const (.int .i64 4)) 204, none⟩] 0)
 (.cond (.tmp 8) (.seq (.reg [1, 2] [⟨(some 9), .move (.tmp 1), none⟩,
 ⟨(some 10), .fieldAddr 225 (.tmp 2) 1, none⟩,
 ⟨(some 11), .load 3 (.tmp 10), none⟩,
 ⟨(some 12), .fieldAddr 225 (.tmp 2) 2, none⟩,
 ⟨(some 13), .load 3 (.tmp 12), none⟩,
 ⟨(some 14), .nilCheck (.tmp 9), none⟩,
 ⟨(some 15), .fieldAddr 42 (.tmp 14) 2, none⟩,
 ⟨(some 16), .indexAddr 40 (.tmp 15) (.tmp 11), none⟩,
 ⟨(some 17), .indexAddr 39 (.tmp 16) (.tmp 13), none⟩,
 ⟨(some 4), .assign (.tmp 17), none⟩] 8)
 (.ret))
 (.skip)))
 (.seq (.reg [1, 2] [⟨(some 18), .move (.tmp 1), none⟩,
 ⟨(some 19), .fieldAddr 225 (.tmp 2) 1, none⟩,
 ⟨(some 20), .load 3 (.tmp 19), none⟩,
 ⟨(some 21), .fieldAddr 225 (.tmp 2) 2, none⟩,
 ⟨(some 22), .load 3 (.tmp 21), none⟩,
 ⟨(some 23), .nilCheck (.tmp 18), none⟩,
 ⟨(some 24), .fieldAddr 42 (.tmp 23) 1, none⟩,
 ⟨(some 25), .indexAddr 38 (.tmp 24) (.tmp 20), none⟩,
 ⟨(some 26), .indexAddr 37 (.tmp 25) (.tmp 22), none⟩,
 ⟨(some 4), .assign (.tmp 26), none⟩] 8)
 (.ret)))
def fn146 : MFn := ⟨27, [.tmp 4], m146, .pass⟩
theorem fnOk146 : FnOk Tryz.prog 146 fn146 := ⟨Tryz.f146, _, kpL passing [] [[0, 1], [1, 2], [1, 2], [1, 2]], Tryz.func146, rfl, by kernel_rfl, by kernel_rfl, by kernel_rfl, by kernel_rfl⟩
/- seisin/table.cells -/
def m147 : M :=
 .seq (.reg [0] [⟨(some 1), .box 177 (.tmp 0), none⟩,
 ⟨(some 2), .assign (.const .nilFunc), none⟩] 0)
 (.seq (.reg [1] [⟨(some 3), .makeFunc (.func 164) #[] #[(.tmp 1)], none⟩,
 ⟨(some 2), .assign (.tmp 3), none⟩] 0)
 (.ret))
def fn147 : MFn := ⟨4, [.tmp 2], m147, .pass⟩
theorem fnOk147 : FnOk Tryz.prog 147 fn147 := ⟨Tryz.f147, _, kpL passing [] [[0], [1]], Tryz.func147, rfl, by kernel_rfl, by kernel_rfl, by kernel_rfl, by kernel_rfl⟩
/- seisin/check.demands -/
def m148 : M :=
 .seq (.reg [0] [⟨(some 1), .box 237 (.tmp 0), none⟩,
 ⟨(some 2), .assign (.const (.slice none 0 0)), none⟩] 0)
 (.seq (.reg [1] [⟨(some 4), .makeFunc (.func 165) #[] #[(.tmp 1)], none⟩,
 ⟨(some 3), .alloc 258, none⟩,
 ⟨none, .store 258 (.tmp 3) (.tmp 4), none⟩] 0)
 (.seq (.reg [1, 3] [⟨(some 5), .makeFunc (.func 166) #[] #[(.tmp 1)], none⟩,
 ⟨(some 6), .build 239 #[(0, (.const (.int .i64 70))), (1, (.tmp 5))], none⟩,
 ⟨(some 7), .makeFunc (.func 168) #[] #[(.tmp 1)], none⟩,
 ⟨(some 8), .build 239 #[(0, (.const (.int .i64 71))), (1, (.tmp 7))], none⟩,
 ⟨(some 9), .makeFunc (.func 170) #[] #[(.tmp 1), (.tmp 3)], none⟩,
 ⟨(some 10), .build 239 #[(0, (.const (.int .i64 72))), (1, (.tmp 9))], none⟩,
 ⟨(some 11), .makeFunc (.func 172) #[] #[(.tmp 3), (.tmp 1)], none⟩,
 ⟨(some 12), .build 239 #[(0, (.const (.int .i64 73))), (1, (.tmp 11))], none⟩,
 ⟨(some 13), .makeFunc (.func 175) #[] #[(.tmp 1)], none⟩,
 ⟨(some 14), .build 239 #[(0, (.const (.int .i64 75))), (1, (.tmp 13))], none⟩,
 ⟨(some 15), .makeFunc (.func 176) #[] #[(.tmp 1)], none⟩,
 ⟨(some 16), .build 239 #[(0, (.const (.int .i64 74))), (1, (.tmp 15))], none⟩,
 ⟨(some 17), .buildSlice 235 6 #[(0, (.tmp 6)), (1, (.tmp 8)), (2, (.tmp 10)), (3, (.tmp 12)), (4, (.tmp 14)), (5, (.tmp 16))], none⟩,
 ⟨(some 2), .assign (.tmp 17), none⟩] 0)
 (.ret)))
def fn148 : MFn := ⟨18, [.tmp 2], m148, .pass⟩
theorem fnOk148 : FnOk Tryz.prog 148 fn148 := ⟨Tryz.f148, _, kpL passing [] [[0], [1], [1, 3]], Tryz.func148, rfl, by kernel_rfl, by kernel_rfl, by kernel_rfl, by kernel_rfl⟩
/- seisin/spec.cells -/
def m149 : M :=
 .seq (.reg [] [⟨(some 0), .assign (.const .nilFunc), none⟩] 0)
 (.seq (.reg [] [⟨(some 0), .assign (.func 178), none⟩] 0)
 (.ret))
def fn149 : MFn := ⟨1, [.tmp 0], m149, .shut⟩
theorem fnOk149 : FnOk Tryz.prog 149 fn149 := ⟨Tryz.f149, _, kpL passing [] [[], []], Tryz.func149, rfl, by kernel_rfl, by kernel_rfl, by kernel_rfl, by kernel_rfl⟩
/- (seisin/spec.part).right -/
def m150 : M :=
 .seq (.reg [0, 1] [⟨(some 2), .box 206 (.tmp 0), none⟩,
 ⟨(some 3), .box 36 (.tmp 1), none⟩,
 ⟨(some 4), .assign (.const (.bool false)), none⟩] 0)
 (.seq (.seq (.reg [2, 3] [⟨(some 5), .fieldAddr 36 (.tmp 3) 0, none⟩,
 ⟨(some 6), .load 5 (.tmp 5), none⟩] 0)
 (.block 0 (.seq (.seq (.reg [2, 3, 6] [⟨(some 8), .binOp .eql 5 (.tmp 6) (.const (.int .u8 0)) 5, none⟩,
 ⟨(some 7), .assign (.tmp 8), none⟩] 0)
 (.cond (.tmp 7) (.skip)
 (.seq (.reg [2, 3, 6] [⟨(some 9), .binOp .eql 5 (.tmp 6) (.const (.int .u8 2)) 5, none⟩,
 ⟨(some 7), .assign (.tmp 9), none⟩] 0)
 (.cond (.tmp 7) (.skip)
 (.reg [2, 3, 6] [⟨(some 10), .binOp .eql 5 (.tmp 6) (.const (.int .u8 3)) 5, none⟩,
 ⟨(some 7), .assign (.tmp 10), none⟩] 0)))))
 (.cond (.tmp 7) (.seq (.reg [3] [⟨(some 11), .fieldAddr 36 (.tmp 3) 1, none⟩,
 ⟨(some 12), .load 5 (.tmp 11), none⟩,
 ⟨(some 13), .binOp .eql 5 (.tmp 12) (.const (.int .u8 0)) 5, none⟩,
 ⟨(some 14), .move (.tmp 13), none⟩,
 ⟨(some 15), .fieldAddr 36 (.tmp 3) 2, (some (14, true))⟩,
 ⟨(some 16), .load 34 (.tmp 15), (some (14, true))⟩,
 ⟨(some 17), .binOp .eql 34 (.tmp 16) (.const (.int .u16 0)) 34, (some (14, true))⟩,
 ⟨(some 18), .pick (.tmp 14) (.tmp 17) (.const (.bool false)), none⟩,
 ⟨(some 4), .assign (.tmp 18), none⟩] 0)
 (.ret))
 (.seq (.reg [2, 3, 6] [⟨(some 20), .binOp .eql 5 (.tmp 6) (.const (.int .u8 1)) 5, none⟩,
 ⟨(some 19), .assign (.tmp 20), none⟩] 0)
 (.cond (.tmp 19) (.seq (.seq (.reg [2, 3] [⟨(some 21), .fieldAddr 206 (.tmp 2) 1, none⟩,
 ⟨(some 22), .load 204 (.tmp 21), none⟩,
 ⟨(some 23), .binOp .eql 204 (.tmp 22) (.const (.int .i64 4)) 204, none⟩] 0)
 (.cond (.tmp 23) (.seq (.reg [3] [⟨(some 24), .fieldAddr 36 (.tmp 3) 1, none⟩,
 ⟨(some 25), .load 5 (.tmp 24), none⟩,
 ⟨(some 26), .binOp .lss 5 (.tmp 25) (.const (.int .u8 4)) 5, none⟩,
 ⟨(some 27), .move (.tmp 26), none⟩,
 ⟨(some 28), .fieldAddr 36 (.tmp 3) 2, (some (27, true))⟩,
 ⟨(some 29), .load 34 (.tmp 28), (some (27, true))⟩,
 ⟨(some 30), .binOp .shr 34 (.tmp 29) (.const (.int .u64 15)) 197, (some (27, true))⟩,
 ⟨(some 31), .binOp .eql 34 (.tmp 30) (.const (.int .u16 0)) 34, (some (27, true))⟩,
 ⟨(some 32), .pick (.tmp 27) (.tmp 31) (.const (.bool false)), none⟩,
 ⟨(some 4), .assign (.tmp 32), none⟩] 0)
 (.ret))
 (.skip)))
 (.seq (.reg [3] [⟨(some 33), .fieldAddr 36 (.tmp 3) 1, none⟩,
 ⟨(some 34), .load 5 (.tmp 33), none⟩,
 ⟨(some 35), .binOp .lss 5 (.tmp 34) (.const (.int .u8 12)) 5, none⟩,
 ⟨(some 36), .move (.tmp 35), none⟩,
 ⟨(some 37), .fieldAddr 36 (.tmp 3) 2, (some (36, true))⟩,
 ⟨(some 38), .load 34 (.tmp 37), (some (36, true))⟩,
 ⟨(some 39), .binOp .shr 34 (.tmp 38) (.const (.int .u64 10)) 197, (some (36, true))⟩,
 ⟨(some 40), .binOp .eql 34 (.tmp 39) (.const (.int .u16 0)) 34, (some (36, true))⟩,
 ⟨(some 41), .pick (.tmp 36) (.tmp 40) (.const (.bool false)), none⟩,
 ⟨(some 4), .assign (.tmp 41), none⟩] 0)
 (.ret)))
 (.skip)))))))
 (.seq (.reg [] [⟨(some 4), .assign (.const (.bool false)), none⟩] 0)
 (.ret)))
def fn150 : MFn := ⟨42, [.tmp 4], m150, .shut⟩
theorem fnOk150 : FnOk Tryz.prog 150 fn150 := ⟨Tryz.f150, _, kpL passing [] [[0, 1], [2, 3], [2, 3, 6], [2, 3, 6], [2, 3, 6], [3], [2, 3, 6], [2, 3], [3], [3], []], Tryz.func150, rfl, by kernel_rfl, by kernel_rfl, by kernel_rfl, by kernel_rfl⟩
/- seisin/tags.fresh -/
def m151 : M :=
 .seq (.reg [0, 1] [⟨(some 4), .alloc 87, none⟩] 0)
 (.seq (.reg [0, 1, 4] [⟨(some 5), .move (.tmp 0), none⟩,
 ⟨(some 6), .move (.tmp 1), none⟩,
 ⟨(some 7), .call ⟨.value (.func 179), #[(.tmp 5), (.tmp 6)], #[5, 3]⟩, none⟩,
 ⟨none, .store 87 (.tmp 4) (.tmp 7), none⟩] 0)
 (.ret))
def fn151 : MFn := ⟨8, [.cell 4 87], m151, .pass⟩
theorem fnOk151 : FnOk Tryz.prog 151 fn151 := ⟨Tryz.f151, _, kpL passing [] [[0, 1], [0, 1, 4]], Tryz.func151, rfl, by kernel_rfl, by kernel_rfl, by kernel_rfl, by kernel_rfl⟩
/- (seisin/geo.place).locs$1 -/
def m152_l0 : M :=
 .seq (.seq (.reg [0, 1, 2, 4] [⟨(some 5), .move (.tmp 4), none⟩,
 ⟨(some 6), .binOp .lss 5 (.tmp 5) (.const (.int .u8 6)) 5, none⟩] 0)
 (.cond (.tmp 6) (.skip)
 (.exit 0)))
 (.seq (.block 1 (.seq (.reg [0, 1, 2, 4] [⟨(some 9), .load 127 (.tmp 1), none⟩,
 ⟨(some 10), .move (.tmp 4), none⟩,
 ⟨(some 11), .call ⟨.value (.func 56), #[(.tmp 9), (.tmp 10)], #[127, 5]⟩, none⟩,
 ⟨(some 12), .load 5 (.tmp 2), none⟩,
 ⟨(some 13), .binOp .eql 5 (.tmp 11) (.tmp 12) 5, none⟩,
 ⟨(some 14), .move (.tmp 13), none⟩,
 ⟨(some 15), .move (.tmp 0), (some (14, true))⟩,
 ⟨(some 16), .move (.tmp 4), (some (14, true))⟩,
 ⟨(some 17), .call ⟨.value (.tmp 15), #[(.tmp 16)], #[5]⟩, (some (14, true))⟩,
 ⟨(some 18), .unOp .not 4 (.tmp 17), (some (14, true))⟩,
 ⟨(some 19), .pick (.tmp 14) (.tmp 18) (.const (.bool false)), none⟩] 8)
 (.cond (.tmp 19) (.ret)
 (.skip))))
 (.reg [0, 1, 2, 4] [⟨(some 7), .move (.tmp 4), none⟩,
 ⟨(some 8), .binOp .add 5 (.tmp 7) (.const (.int .u8 1)) 5, none⟩,
 ⟨(some 4), .assign (.tmp 8), none⟩] 0))
def m152 : M :=
 .seq (.reg [0, 1, 2] [⟨(some 4), .assign (.const (.int .u8 0)), none⟩] 0)
 (.block 0 (.loop (m152_l0)))
def fn152 : MFn := ⟨20, [], m152, .pass⟩
theorem fnOk152 : FnOk Tryz.prog 152 fn152 := ⟨Tryz.f152, _, kpL passing [] [[0, 1, 2], [0, 1, 2, 4], [0, 1, 2, 4], [0, 1, 2, 4]], Tryz.func152, rfl, by kernel_rfl, by kernel_rfl, by kernel_rfl, by kernel_rfl⟩
/- (seisin/tags.frame).row -/
def m153 : M :=
 .seq (.reg [0, 1, 2] [⟨(some 3), .box 122 (.tmp 0), none⟩,
 ⟨(some 4), .box 194 (.tmp 1), none⟩,
 ⟨(some 5), .box 3 (.tmp 2), none⟩,
 ⟨(some 6), .assign (.const .nilFunc), none⟩] 0)
 (.seq (.reg [3, 4, 5] [⟨(some 7), .makeFunc (.func 180) #[] #[(.tmp 3), (.tmp 4), (.tmp 5)], none⟩,
 ⟨(some 6), .assign (.tmp 7), none⟩] 0)
 (.ret))
def fn153 : MFn := ⟨8, [.tmp 6], m153, .shut⟩
theorem fnOk153 : FnOk Tryz.prog 153 fn153 := ⟨Tryz.f153, _, kpL passing [] [[0, 1, 2], [3, 4, 5]], Tryz.func153, rfl, by kernel_rfl, by kernel_rfl, by kernel_rfl, by kernel_rfl⟩
/- seisin/tags.holds$1 -/
def m154 : M :=
 .seq (.reg [0, 1] [⟨(some 2), .box 83 (.tmp 0), none⟩,
 ⟨(some 3), .assign (.const (.bool false)), none⟩] 0)
 (.seq (.reg [1, 2] [⟨(some 4), .load 83 (.tmp 2), none⟩,
 ⟨(some 5), .call ⟨.value (.func 86), #[(.tmp 4)], #[83]⟩, none⟩,
 ⟨(some 6), .unOp .not 4 (.tmp 5), none⟩,
 ⟨(some 7), .move (.tmp 6), none⟩,
 ⟨(some 8), .fieldAddr 83 (.tmp 2) 0, (some (7, true))⟩,
 ⟨(some 9), .load 5 (.tmp 8), (some (7, true))⟩,
 ⟨(some 10), .load 5 (.tmp 1), (some (7, true))⟩,
 ⟨(some 11), .binOp .eql 5 (.tmp 9) (.tmp 10) 5, (some (7, true))⟩,
 ⟨(some 12), .pick (.tmp 7) (.tmp 11) (.const (.bool false)), none⟩,
 ⟨(some 3), .assign (.tmp 12), none⟩] 0)
 (.ret))
def fn154 : MFn := ⟨13, [.tmp 3], m154, .pass⟩
theorem fnOk154 : FnOk Tryz.prog 154 fn154 := ⟨Tryz.f154, _, kpL passing [] [[0, 1], [1, 2]], Tryz.func154, rfl, by kernel_rfl, by kernel_rfl, by kernel_rfl, by kernel_rfl⟩
/- (seisin/geo.place).among$1 -/
def m155 : M :=
 .seq (.reg [0, 1, 2] [⟨(some 4), .assign (.const (.bool false)), none⟩] 0)
 (.seq (.reg [0, 1, 2] [⟨(some 5), .move (.tmp 0), none⟩,
 ⟨(some 6), .convert 5 3 (.tmp 5), none⟩,
 ⟨(some 7), .load 3 (.tmp 1), none⟩,
 ⟨(some 8), .binOp .geq 3 (.tmp 6) (.tmp 7) 3, none⟩,
 ⟨(some 9), .move (.tmp 8), none⟩,
 ⟨(some 10), .move (.tmp 0), (some (9, true))⟩,
 ⟨(some 11), .convert 5 3 (.tmp 10), (some (9, true))⟩,
 ⟨(some 12), .load 3 (.tmp 1), (some (9, true))⟩,
 ⟨(some 13), .load 3 (.tmp 2), (some (9, true))⟩,
 ⟨(some 14), .binOp .add 3 (.tmp 12) (.tmp 13) 3, (some (9, true))⟩,
 ⟨(some 15), .binOp .lss 3 (.tmp 11) (.tmp 14) 3, (some (9, true))⟩,
 ⟨(some 16), .pick (.tmp 9) (.tmp 15) (.const (.bool false)), none⟩,
 ⟨(some 4), .assign (.tmp 16), none⟩] 0)
 (.ret))
def fn155 : MFn := ⟨17, [.tmp 4], m155, .pass⟩
theorem fnOk155 : FnOk Tryz.prog 155 fn155 := ⟨Tryz.f155, _, kpL passing [] [[0, 1, 2], [0, 1, 2]], Tryz.func155, rfl, by kernel_rfl, by kernel_rfl, by kernel_rfl, by kernel_rfl⟩
/- slices.Index[[]uint8,uint8] -/
def m158_l0 : M :=
 .seq (.reg [0, 1, 7, 8] [⟨(some 9), .binOp .lss 3 (.tmp 8) (.tmp 7) 3, none⟩] 0)
 (.seq (.cond (.tmp 9) (.skip)
 (.exit 0))
 (.seq (.block 1 (.seq (.reg [0, 1, 7, 8] [⟨(some 10), .move (.tmp 8), none⟩,
 ⟨(some 5), .assign (.tmp 10), none⟩] 0)
 (.seq (.reg [0, 1, 5, 7, 8] [⟨(some 11), .move (.tmp 1), none⟩,
 ⟨(some 12), .move (.tmp 0), none⟩,
 ⟨(some 13), .move (.tmp 5), none⟩,
 ⟨(some 14), .indexAddr 23 (.tmp 12) (.tmp 13), none⟩,
 ⟨(some 15), .load 5 (.tmp 14), none⟩,
 ⟨(some 16), .binOp .eql 5 (.tmp 11) (.tmp 15) 5, none⟩] 0)
 (.cond (.tmp 16) (.seq (.reg [5] [⟨(some 17), .move (.tmp 5), none⟩,
 ⟨(some 4), .assign (.tmp 17), none⟩] 0)
 (.ret))
 (.skip)))))
 (.reg [0, 1, 7, 8] [⟨(some 18), .binOp .add 3 (.tmp 8) (.const (.int .i64 1)) 3, none⟩,
 ⟨(some 8), .move (.tmp 18), none⟩] 0)))
def m158 : M :=
 .seq (.reg [0, 1] [⟨(some 4), .assign (.const (.int .i64 0)), none⟩] 0)
 (.seq (.seq (.reg [0, 1] [⟨(some 6), .move (.tmp 0), none⟩,
 ⟨(some 7), .call ⟨.builtin .len, #[(.tmp 6)], #[23]⟩, none⟩,
 ⟨(some 8), .move (.const (.int .i64 0)), none⟩] 0)
 (.block 0 (.loop (m158_l0))))
 (.seq (.reg [] [⟨(some 4), .assign (.const (.int .i64 (-1))), none⟩] 0)
 (.ret)))
def fn158 : MFn := ⟨19, [.tmp 4], m158, .shut⟩
theorem fnOk158 : FnOk Tryz.prog 158 fn158 := ⟨Tryz.f158, _, kpL passing [] [[0, 1], [0, 1], [0, 1, 7, 8], [0, 1, 7, 8], [0, 1, 5, 7, 8], [5], [0, 1, 7, 8], []], Tryz.func158, rfl, by kernel_rfl, by kernel_rfl, by kernel_rfl, by kernel_rfl⟩
/- seisin/spec.Number -/
def m159_l0 : M :=
 .seq (.reg [0, 1, 17] [⟨(some 18), .binOp .lss 3 (.tmp 17) (.const (.int .i64 15)) 3, none⟩] 0)
 (.seq (.cond (.tmp 18) (.skip)
 (.exit 0))
 (.seq (.block 1 (.seq (.reg [0, 1, 17] [⟨(some 19), .move (.tmp 17), none⟩,
 ⟨(some 6), .assign (.tmp 19), none⟩] 0)
 (.seq (.reg [0, 1, 6, 17] [⟨(some 20), .move (.tmp 0), none⟩,
 ⟨(some 21), .move (.tmp 6), none⟩,
 ⟨(some 22), .indexAddr 266 (.global 3) (.tmp 20), none⟩,
 ⟨(some 23), .indexAddr 265 (.tmp 22) (.tmp 21), none⟩,
 ⟨(some 24), .load 9 (.tmp 23), none⟩,
 ⟨(some 25), .move (.tmp 1), none⟩,
 ⟨(some 26), .binOp .eql 9 (.tmp 24) (.tmp 25) 9, none⟩] 0)
 (.cond (.tmp 26) (.seq (.reg [6] [⟨(some 27), .move (.tmp 6), none⟩,
 ⟨(some 4), .assign (.tmp 27), none⟩,
 ⟨(some 5), .assign (.const (.bool true)), none⟩] 0)
 (.ret))
 (.skip)))))
 (.reg [0, 1, 17] [⟨(some 28), .binOp .add 3 (.tmp 17) (.const (.int .i64 1)) 3, none⟩,
 ⟨(some 17), .move (.tmp 28), none⟩] 0)))
def m159 : M :=
 .seq (.reg [0, 1] [⟨(some 4), .assign (.const (.int .i64 0)), none⟩,
 ⟨(some 5), .assign (.const (.bool false)), none⟩] 0)
 (.seq (.seq (.reg [0, 1] [⟨(some 7), .move (.tmp 0), none⟩,
 ⟨(some 8), .binOp .lss 204 (.tmp 7) (.const (.int .i64 1)) 204, none⟩,
 ⟨(some 9), .move (.tmp 8), none⟩,
 ⟨(some 10), .move (.tmp 0), (some (9, false))⟩,
 ⟨(some 11), .binOp .gtr 204 (.tmp 10) (.const (.int .i64 6)) 204, (some (9, false))⟩,
 ⟨(some 12), .pick (.tmp 9) (.const (.bool true)) (.tmp 11), none⟩,
 ⟨(some 13), .move (.tmp 12), none⟩,
 ⟨(some 14), .move (.tmp 1), (some (13, false))⟩,
 ⟨(some 15), .binOp .eql 9 (.tmp 14) (.const (.string ⟨#[]⟩)) 9, (some (13, false))⟩,
 ⟨(some 16), .pick (.tmp 13) (.const (.bool true)) (.tmp 15), none⟩] 0)
 (.cond (.tmp 16) (.seq (.reg [] [⟨(some 4), .assign (.const (.int .i64 0)), none⟩,
 ⟨(some 5), .assign (.const (.bool false)), none⟩] 0)
 (.ret))
 (.skip)))
 (.seq (.seq (.reg [0, 1] [⟨(some 17), .move (.const (.int .i64 0)), none⟩] 0)
 (.block 0 (.loop (m159_l0))))
 (.seq (.reg [] [⟨(some 4), .assign (.const (.int .i64 0)), none⟩,
 ⟨(some 5), .assign (.const (.bool false)), none⟩] 0)
 (.ret))))
def fn159 : MFn := ⟨29, [.tmp 4, .tmp 5], m159, .shut⟩
theorem fnOk159 : FnOk Tryz.prog 159 fn159 := ⟨Tryz.f159, _, kpL passing [] [[0, 1], [0, 1], [], [0, 1], [0, 1, 17], [0, 1, 17], [0, 1, 6, 17], [6], [0, 1, 17], []], Tryz.func159, rfl, by kernel_rfl, by kernel_rfl, by kernel_rfl, by kernel_rfl⟩
/- strings.splitSeq -/
def m160 : M :=
 .seq (.reg [0, 1, 2] [⟨(some 3), .box 9 (.tmp 0), none⟩,
 ⟨(some 4), .box 9 (.tmp 1), none⟩,
 ⟨(some 5), .box 3 (.tmp 2), none⟩,
 ⟨(some 6), .assign (.const .nilFunc), none⟩] 0)
 (.seq (.reg [3, 4, 5] [⟨(some 7), .makeFunc (.func 181) #[] #[(.tmp 4), (.tmp 3), (.tmp 5)], none⟩,
 ⟨(some 6), .assign (.tmp 7), none⟩] 0)
 (.ret))
def fn160 : MFn := ⟨8, [.tmp 6], m160, .pass⟩
theorem fnOk160 : FnOk Tryz.prog 160 fn160 := ⟨Tryz.f160, _, kpL passing [] [[0, 1, 2], [3, 4, 5]], Tryz.func160, rfl, by kernel_rfl, by kernel_rfl, by kernel_rfl, by kernel_rfl⟩
/- internal/stringslite.Cut -/
def m161 : M :=
 .seq (.reg [0, 1] [⟨(some 4), .assign (.const (.string ⟨#[]⟩)), none⟩,
 ⟨(some 5), .assign (.const (.string ⟨#[]⟩)), none⟩,
 ⟨(some 6), .assign (.const (.bool false)), none⟩] 0)
 (.seq (.seq (.reg [0, 1] [⟨(some 8), .move (.tmp 0), none⟩,
 ⟨(some 9), .move (.tmp 1), none⟩,
 ⟨(some 10), .call ⟨.value (.func 184), #[(.tmp 8), (.tmp 9)], #[9, 9]⟩, none⟩,
 ⟨(some 7), .assign (.tmp 10), none⟩] 0)
 (.seq (.reg [0, 1, 7] [⟨(some 11), .move (.tmp 7), none⟩,
 ⟨(some 12), .binOp .geq 3 (.tmp 11) (.const (.int .i64 0)) 3, none⟩] 0)
 (.cond (.tmp 12) (.seq (.reg [0, 1, 7] [⟨(some 13), .move (.tmp 0), none⟩,
 ⟨(some 14), .move (.tmp 7), none⟩,
 ⟨(some 15), .slice 9 (.tmp 13) none (some (.tmp 14)) none, none⟩,
 ⟨(some 16), .move (.tmp 0), none⟩,
 ⟨(some 17), .move (.tmp 7), none⟩,
 ⟨(some 18), .move (.tmp 1), none⟩,
 ⟨(some 19), .call ⟨.builtin .len, #[(.tmp 18)], #[9]⟩, none⟩,
 ⟨(some 20), .binOp .add 3 (.tmp 17) (.tmp 19) 3, none⟩,
 ⟨(some 21), .slice 9 (.tmp 16) (some (.tmp 20)) none none, none⟩,
 ⟨(some 4), .assign (.tmp 15), none⟩,
 ⟨(some 5), .assign (.tmp 21), none⟩,
 ⟨(some 6), .assign (.const (.bool true)), none⟩] 10)
 (.ret))
 (.skip))))
 (.seq (.reg [0] [⟨(some 22), .move (.tmp 0), none⟩,
 ⟨(some 4), .assign (.tmp 22), none⟩,
 ⟨(some 5), .assign (.const (.string ⟨#[]⟩)), none⟩,
 ⟨(some 6), .assign (.const (.bool false)), none⟩] 0)
 (.ret)))
def fn161 : MFn := ⟨23, [.tmp 4, .tmp 5, .tmp 6], m161, .shut⟩
theorem fnOk161 : FnOk Tryz.prog 161 fn161 := ⟨Tryz.f161, _, kpL passing [] [[0, 1], [0, 1], [0, 1, 7], [0, 1, 7], [0]], Tryz.func161, rfl, by kernel_rfl, by kernel_rfl, by kernel_rfl, by kernel_rfl⟩
/- seisin/spec.caches -/
def m162 : M :=
 .seq (.reg [] [⟨(some 0), .alloc 206, none⟩] 0)
 (.seq (.reg [0] [⟨(some 1), .build 206 #[(0, (.const (.string ⟨#[99, 97, 99, 104, 101]⟩))), (1, (.const (.int .i64 1))), (2, (.const (.int .i64 2))), (3, (.const (.int .i64 3)))], none⟩,
 ⟨none, .store 206 (.tmp 0) (.tmp 1), none⟩] 0)
 (.ret))
def fn162 : MFn := ⟨2, [.cell 0 206], m162, .shut⟩
theorem fnOk162 : FnOk Tryz.prog 162 fn162 := ⟨Tryz.f162, _, kpL passing [] [[], [0]], Tryz.func162, rfl, by kernel_rfl, by kernel_rfl, by kernel_rfl, by kernel_rfl⟩
/- seisin/spec.homes -/
def m163 : M :=
 .seq (.reg [] [⟨(some 0), .alloc 206, none⟩] 0)
 (.seq (.reg [0] [⟨(some 1), .build 206 #[(0, (.const (.string ⟨#[104, 111, 109, 101]⟩))), (1, (.const (.int .i64 4))), (2, (.const (.int .i64 5))), (3, (.const (.int .i64 6)))], none⟩,
 ⟨none, .store 206 (.tmp 0) (.tmp 1), none⟩] 0)
 (.ret))
def fn163 : MFn := ⟨2, [.cell 0 206], m163, .shut⟩
theorem fnOk163 : FnOk Tryz.prog 163 fn163 := ⟨Tryz.f163, _, kpL passing [] [[], [0]], Tryz.func163, rfl, by kernel_rfl, by kernel_rfl, by kernel_rfl, by kernel_rfl⟩
/- seisin/table.cells$1 -/
def m164_l1 : M :=
 .seq (.reg [0, 1, 3, 7, 10] [⟨(some 11), .binOp .lss 3 (.tmp 10) (.const (.int .i64 14)) 3, none⟩] 0)
 (.seq (.cond (.tmp 11) (.skip)
 (.exit 2))
 (.seq (.block 3 (.seq (.reg [0, 1, 3, 7, 10] [⟨(some 12), .move (.tmp 10), none⟩,
 ⟨(some 4), .assign (.tmp 12), none⟩] 0)
 (.seq (.reg [0, 1, 3, 4, 7, 10] [⟨(some 13), .move (.tmp 0), none⟩,
 ⟨(some 14), .move (.tmp 3), none⟩,
 ⟨(some 15), .convert 3 5 (.tmp 14), none⟩,
 ⟨(some 16), .move (.tmp 4), none⟩,
 ⟨(some 17), .convert 3 5 (.tmp 16), none⟩,
 ⟨(some 18), .build 148 #[(0, (.const (.bool false))), (1, (.tmp 15)), (2, (.tmp 17))], none⟩,
 ⟨(some 19), .load 177 (.tmp 1), none⟩,
 ⟨(some 20), .move (.tmp 3), none⟩,
 ⟨(some 21), .move (.tmp 4), none⟩,
 ⟨(some 22), .nilCheck (.tmp 19), none⟩,
 ⟨(some 23), .fieldAddr 42 (.tmp 22) 1, none⟩,
 ⟨(some 24), .indexAddr 38 (.tmp 23) (.tmp 20), none⟩,
 ⟨(some 25), .indexAddr 37 (.tmp 24) (.tmp 21), none⟩,
 ⟨(some 26), .call ⟨.value (.tmp 13), #[(.tmp 18), (.tmp 25)], #[148, 230]⟩, none⟩,
 ⟨(some 27), .unOp .not 4 (.tmp 26), none⟩] 0)
 (.cond (.tmp 27) (.ret)
 (.skip)))))
 (.reg [0, 1, 3, 7, 10] [⟨(some 28), .binOp .add 3 (.tmp 10) (.const (.int .i64 1)) 3, none⟩,
 ⟨(some 10), .move (.tmp 28), none⟩] 0)))
def m164_l0 : M :=
 .seq (.reg [0, 1, 7] [⟨(some 8), .binOp .lss 3 (.tmp 7) (.const (.int .i64 12)) 3, none⟩] 0)
 (.seq (.cond (.tmp 8) (.skip)
 (.exit 0))
 (.seq (.block 1 (.seq (.reg [0, 1, 7] [⟨(some 9), .move (.tmp 7), none⟩,
 ⟨(some 3), .assign (.tmp 9), none⟩] 0)
 (.seq (.reg [0, 1, 3, 7] [⟨(some 10), .move (.const (.int .i64 0)), none⟩] 0)
 (.block 2 (.loop (m164_l1))))))
 (.reg [0, 1, 7] [⟨(some 29), .binOp .add 3 (.tmp 7) (.const (.int .i64 1)) 3, none⟩,
 ⟨(some 7), .move (.tmp 29), none⟩] 0)))
def m164_l3 : M :=
 .seq (.reg [0, 1, 5, 30, 33] [⟨(some 34), .binOp .lss 3 (.tmp 33) (.const (.int .i64 5)) 3, none⟩] 0)
 (.seq (.cond (.tmp 34) (.skip)
 (.exit 6))
 (.seq (.block 7 (.seq (.reg [0, 1, 5, 30, 33] [⟨(some 35), .move (.tmp 33), none⟩,
 ⟨(some 6), .assign (.tmp 35), none⟩] 0)
 (.seq (.reg [0, 1, 5, 6, 30, 33] [⟨(some 36), .move (.tmp 0), none⟩,
 ⟨(some 37), .move (.tmp 5), none⟩,
 ⟨(some 38), .convert 3 5 (.tmp 37), none⟩,
 ⟨(some 39), .move (.tmp 6), none⟩,
 ⟨(some 40), .convert 3 5 (.tmp 39), none⟩,
 ⟨(some 41), .build 148 #[(0, (.const (.bool true))), (1, (.tmp 38)), (2, (.tmp 40))], none⟩,
 ⟨(some 42), .load 177 (.tmp 1), none⟩,
 ⟨(some 43), .move (.tmp 5), none⟩,
 ⟨(some 44), .move (.tmp 6), none⟩,
 ⟨(some 45), .nilCheck (.tmp 42), none⟩,
 ⟨(some 46), .fieldAddr 42 (.tmp 45) 2, none⟩,
 ⟨(some 47), .indexAddr 40 (.tmp 46) (.tmp 43), none⟩,
 ⟨(some 48), .indexAddr 39 (.tmp 47) (.tmp 44), none⟩,
 ⟨(some 49), .call ⟨.value (.tmp 36), #[(.tmp 41), (.tmp 48)], #[148, 230]⟩, none⟩,
 ⟨(some 50), .unOp .not 4 (.tmp 49), none⟩] 0)
 (.cond (.tmp 50) (.ret)
 (.skip)))))
 (.reg [0, 1, 5, 30, 33] [⟨(some 51), .binOp .add 3 (.tmp 33) (.const (.int .i64 1)) 3, none⟩,
 ⟨(some 33), .move (.tmp 51), none⟩] 0)))
def m164_l2 : M :=
 .seq (.reg [0, 1, 30] [⟨(some 31), .binOp .lss 3 (.tmp 30) (.const (.int .i64 4)) 3, none⟩] 0)
 (.seq (.cond (.tmp 31) (.skip)
 (.exit 4))
 (.seq (.block 5 (.seq (.reg [0, 1, 30] [⟨(some 32), .move (.tmp 30), none⟩,
 ⟨(some 5), .assign (.tmp 32), none⟩] 0)
 (.seq (.reg [0, 1, 5, 30] [⟨(some 33), .move (.const (.int .i64 0)), none⟩] 0)
 (.block 6 (.loop (m164_l3))))))
 (.reg [0, 1, 30] [⟨(some 52), .binOp .add 3 (.tmp 30) (.const (.int .i64 1)) 3, none⟩,
 ⟨(some 30), .move (.tmp 52), none⟩] 0)))
theorem u164_l1 {C : Ctx} {k : List It} {st : St} {Q : Ex → St → Prop} : RunK C (.code m164_l1 :: k) st Q ↔ RunK C (.code (.seq (.reg [0, 1, 3, 7, 10] [⟨(some 11), .binOp .lss 3 (.tmp 10) (.const (.int .i64 14)) 3, none⟩] 0)
 (.seq (.cond (.tmp 11) (.skip)
 (.exit 2))
 (.seq (.block 3 (.seq (.reg [0, 1, 3, 7, 10] [⟨(some 12), .move (.tmp 10), none⟩,
 ⟨(some 4), .assign (.tmp 12), none⟩] 0)
 (.seq (.reg [0, 1, 3, 4, 7, 10] [⟨(some 13), .move (.tmp 0), none⟩,
 ⟨(some 14), .move (.tmp 3), none⟩,
 ⟨(some 15), .convert 3 5 (.tmp 14), none⟩,
 ⟨(some 16), .move (.tmp 4), none⟩,
 ⟨(some 17), .convert 3 5 (.tmp 16), none⟩,
 ⟨(some 18), .build 148 #[(0, (.const (.bool false))), (1, (.tmp 15)), (2, (.tmp 17))], none⟩,
 ⟨(some 19), .load 177 (.tmp 1), none⟩,
 ⟨(some 20), .move (.tmp 3), none⟩,
 ⟨(some 21), .move (.tmp 4), none⟩,
 ⟨(some 22), .nilCheck (.tmp 19), none⟩,
 ⟨(some 23), .fieldAddr 42 (.tmp 22) 1, none⟩,
 ⟨(some 24), .indexAddr 38 (.tmp 23) (.tmp 20), none⟩,
 ⟨(some 25), .indexAddr 37 (.tmp 24) (.tmp 21), none⟩,
 ⟨(some 26), .call ⟨.value (.tmp 13), #[(.tmp 18), (.tmp 25)], #[148, 230]⟩, none⟩,
 ⟨(some 27), .unOp .not 4 (.tmp 26), none⟩] 0)
 (.cond (.tmp 27) (.ret)
 (.skip)))))
 (.reg [0, 1, 3, 7, 10] [⟨(some 28), .binOp .add 3 (.tmp 10) (.const (.int .i64 1)) 3, none⟩,
 ⟨(some 10), .move (.tmp 28), none⟩] 0)))) :: k) st Q := Iff.rfl
theorem u164_l0 {C : Ctx} {k : List It} {st : St} {Q : Ex → St → Prop} : RunK C (.code m164_l0 :: k) st Q ↔ RunK C (.code (.seq (.reg [0, 1, 7] [⟨(some 8), .binOp .lss 3 (.tmp 7) (.const (.int .i64 12)) 3, none⟩] 0)
 (.seq (.cond (.tmp 8) (.skip)
 (.exit 0))
 (.seq (.block 1 (.seq (.reg [0, 1, 7] [⟨(some 9), .move (.tmp 7), none⟩,
 ⟨(some 3), .assign (.tmp 9), none⟩] 0)
 (.seq (.reg [0, 1, 3, 7] [⟨(some 10), .move (.const (.int .i64 0)), none⟩] 0)
 (.block 2 (.loop (m164_l1))))))
 (.reg [0, 1, 7] [⟨(some 29), .binOp .add 3 (.tmp 7) (.const (.int .i64 1)) 3, none⟩,
 ⟨(some 7), .move (.tmp 29), none⟩] 0)))) :: k) st Q := Iff.rfl
theorem u164_l3 {C : Ctx} {k : List It} {st : St} {Q : Ex → St → Prop} : RunK C (.code m164_l3 :: k) st Q ↔ RunK C (.code (.seq (.reg [0, 1, 5, 30, 33] [⟨(some 34), .binOp .lss 3 (.tmp 33) (.const (.int .i64 5)) 3, none⟩] 0)
 (.seq (.cond (.tmp 34) (.skip)
 (.exit 6))
 (.seq (.block 7 (.seq (.reg [0, 1, 5, 30, 33] [⟨(some 35), .move (.tmp 33), none⟩,
 ⟨(some 6), .assign (.tmp 35), none⟩] 0)
 (.seq (.reg [0, 1, 5, 6, 30, 33] [⟨(some 36), .move (.tmp 0), none⟩,
 ⟨(some 37), .move (.tmp 5), none⟩,
 ⟨(some 38), .convert 3 5 (.tmp 37), none⟩,
 ⟨(some 39), .move (.tmp 6), none⟩,
 ⟨(some 40), .convert 3 5 (.tmp 39), none⟩,
 ⟨(some 41), .build 148 #[(0, (.const (.bool true))), (1, (.tmp 38)), (2, (.tmp 40))], none⟩,
 ⟨(some 42), .load 177 (.tmp 1), none⟩,
 ⟨(some 43), .move (.tmp 5), none⟩,
 ⟨(some 44), .move (.tmp 6), none⟩,
 ⟨(some 45), .nilCheck (.tmp 42), none⟩,
 ⟨(some 46), .fieldAddr 42 (.tmp 45) 2, none⟩,
 ⟨(some 47), .indexAddr 40 (.tmp 46) (.tmp 43), none⟩,
 ⟨(some 48), .indexAddr 39 (.tmp 47) (.tmp 44), none⟩,
 ⟨(some 49), .call ⟨.value (.tmp 36), #[(.tmp 41), (.tmp 48)], #[148, 230]⟩, none⟩,
 ⟨(some 50), .unOp .not 4 (.tmp 49), none⟩] 0)
 (.cond (.tmp 50) (.ret)
 (.skip)))))
 (.reg [0, 1, 5, 30, 33] [⟨(some 51), .binOp .add 3 (.tmp 33) (.const (.int .i64 1)) 3, none⟩,
 ⟨(some 33), .move (.tmp 51), none⟩] 0)))) :: k) st Q := Iff.rfl
theorem u164_l2 {C : Ctx} {k : List It} {st : St} {Q : Ex → St → Prop} : RunK C (.code m164_l2 :: k) st Q ↔ RunK C (.code (.seq (.reg [0, 1, 30] [⟨(some 31), .binOp .lss 3 (.tmp 30) (.const (.int .i64 4)) 3, none⟩] 0)
 (.seq (.cond (.tmp 31) (.skip)
 (.exit 4))
 (.seq (.block 5 (.seq (.reg [0, 1, 30] [⟨(some 32), .move (.tmp 30), none⟩,
 ⟨(some 5), .assign (.tmp 32), none⟩] 0)
 (.seq (.reg [0, 1, 5, 30] [⟨(some 33), .move (.const (.int .i64 0)), none⟩] 0)
 (.block 6 (.loop (m164_l3))))))
 (.reg [0, 1, 30] [⟨(some 52), .binOp .add 3 (.tmp 30) (.const (.int .i64 1)) 3, none⟩,
 ⟨(some 30), .move (.tmp 52), none⟩] 0)))) :: k) st Q := Iff.rfl
def m164 : M :=
 .seq (.seq (.reg [0, 1] [⟨(some 7), .move (.const (.int .i64 0)), none⟩] 0)
 (.block 0 (.loop (m164_l0))))
 (.seq (.reg [0, 1] [⟨(some 30), .move (.const (.int .i64 0)), none⟩] 0)
 (.block 4 (.loop (m164_l2))))
def fn164 : MFn := ⟨53, [], m164, .pass⟩
theorem fnOk164 : FnOk Tryz.prog 164 fn164 := ⟨Tryz.f164, _, kpL passing [] [[0, 1], [0, 1, 7], [0, 1, 7], [0, 1, 3, 7], [0, 1, 3, 7, 10], [0, 1, 3, 7, 10], [0, 1, 3, 4, 7, 10], [0, 1, 3, 7, 10], [0, 1, 7], [0, 1], [0, 1, 30], [0, 1, 30], [0, 1, 5, 30], [0, 1, 5, 30, 33], [0, 1, 5, 30, 33], [0, 1, 5, 6, 30, 33], [0, 1, 5, 30, 33], [0, 1, 30]], Tryz.func164, rfl, by kernel_rfl, by kernel_rfl, by kernel_rfl, by kernel_rfl⟩
/- seisin/check.demands$1 -/
def m165_l0 : M :=
 .seq (.reg [0, 9, 10, 11] [⟨(some 12), .binOp .lss 3 (.tmp 11) (.tmp 10) 3, none⟩] 0)
 (.seq (.cond (.tmp 12) (.skip)
 (.exit 0))
 (.seq (.block 1 (.seq (.reg [0, 9, 10, 11] [⟨(some 13), .indexAddr 24 (.tmp 9) (.tmp 11), none⟩,
 ⟨(some 14), .load 103 (.tmp 13), none⟩,
 ⟨(some 5), .assign (.tmp 14), none⟩] 0)
 (.seq (.reg [0, 5, 9, 10, 11] [⟨(some 15), .move (.tmp 0), none⟩,
 ⟨(some 16), .move (.tmp 5), none⟩,
 ⟨(some 17), .call ⟨.value (.tmp 15), #[(.tmp 16)], #[103]⟩, none⟩,
 ⟨(some 18), .unOp .not 4 (.tmp 17), none⟩] 0)
 (.cond (.tmp 18) (.seq (.reg [] [⟨(some 3), .assign (.const (.bool false)), none⟩] 0)
 (.ret))
 (.skip)))))
 (.reg [0, 9, 10, 11] [⟨(some 19), .binOp .add 3 (.tmp 11) (.const (.int .i64 1)) 3, none⟩,
 ⟨(some 11), .move (.tmp 19), none⟩] 0)))
def m165 : M :=
 .seq (.reg [0, 1] [⟨(some 3), .assign (.const (.bool false)), none⟩] 0)
 (.seq (.seq (.reg [0, 1] [⟨(some 6), .load 237 (.tmp 1), none⟩,
 ⟨(some 7), .nilCheck (.tmp 6), none⟩,
 ⟨(some 8), .fieldAddr 29 (.tmp 7) 3, none⟩,
 ⟨(some 9), .load 24 (.tmp 8), none⟩,
 ⟨(some 10), .call ⟨.builtin .len, #[(.tmp 9)], #[24]⟩, none⟩,
 ⟨(some 11), .move (.const (.int .i64 0)), none⟩] 0)
 (.block 0 (.loop (m165_l0))))
 (.seq (.reg [] [⟨(some 3), .assign (.const (.bool true)), none⟩] 0)
 (.ret)))
def fn165 : MFn := ⟨20, [.tmp 3], m165, .pass⟩
theorem fnOk165 : FnOk Tryz.prog 165 fn165 := ⟨Tryz.f165, _, kpL passing [] [[0, 1], [0, 1], [0, 9, 10, 11], [0, 9, 10, 11], [0, 5, 9, 10, 11], [], [0, 9, 10, 11], []], Tryz.func165, rfl, by kernel_rfl, by kernel_rfl, by kernel_rfl, by kernel_rfl⟩
/- seisin/check.demands$2 -/
def m166 : M :=
 .seq (.reg [0] [⟨(some 1), .assign (.const (.bool false)), none⟩] 0)
 (.seq (.reg [0] [⟨(some 2), .load 237 (.tmp 0), none⟩,
 ⟨(some 3), .nilCheck (.tmp 2), none⟩,
 ⟨(some 4), .fieldAddr 29 (.tmp 3) 0, none⟩,
 ⟨(some 5), .load 9 (.tmp 4), none⟩,
 ⟨(some 6), .call ⟨.value (.func 167), #[(.tmp 5)], #[9]⟩, none⟩,
 ⟨(some 1), .assign (.tmp 6), none⟩] 0)
 (.ret))
def fn166 : MFn := ⟨7, [.tmp 1], m166, .pass⟩
theorem fnOk166 : FnOk Tryz.prog 166 fn166 := ⟨Tryz.f166, _, kpL passing [] [[0], [0]], Tryz.func166, rfl, by kernel_rfl, by kernel_rfl, by kernel_rfl, by kernel_rfl⟩
/- seisin/check.isWord -/
def m167 : M :=
 .seq (.reg [0] [⟨(some 2), .assign (.const (.bool false)), none⟩] 0)
 (.seq (.reg [0] [⟨(some 7), .move (.tmp 0), none⟩,
 ⟨(some 8), .call ⟨.value (.func 185), #[(.tmp 7)], #[9]⟩, none⟩,
 ⟨(some 6), .move (.tmp 8), none⟩,
 ⟨(some 9), .extract (.tmp 6) 0, none⟩,
 ⟨(some 10), .extract (.tmp 6) 1, none⟩,
 ⟨(some 11), .extract (.tmp 6) 2, none⟩,
 ⟨(some 3), .assign (.tmp 9), none⟩,
 ⟨(some 4), .assign (.tmp 10), none⟩,
 ⟨(some 5), .assign (.tmp 11), none⟩] 0)
 (.seq (.reg [0, 3, 5] [⟨(some 12), .move (.tmp 5), none⟩,
 ⟨(some 13), .binOp .eql 100 (.tmp 12) (.const (.int .i64 0)) 100, none⟩,
 ⟨(some 14), .move (.tmp 13), none⟩,
 ⟨(some 15), .move (.tmp 3), (some (14, true))⟩,
 ⟨(some 16), .call ⟨.builtin .len, #[(.tmp 15)], #[270]⟩, (some (14, true))⟩,
 ⟨(some 17), .binOp .eql 3 (.tmp 16) (.const (.int .i64 2)) 3, (some (14, true))⟩,
 ⟨(some 18), .pick (.tmp 14) (.tmp 17) (.const (.bool false)), none⟩,
 ⟨(some 19), .move (.tmp 18), none⟩,
 ⟨(some 20), .move (.tmp 3), (some (19, true))⟩,
 ⟨(some 21), .indexAddr 270 (.tmp 20) (.const (.int .i64 0)), (some (19, true))⟩,
 ⟨(some 22), .fieldAddr 275 (.tmp 21) 0, (some (19, true))⟩,
 ⟨(some 23), .load 273 (.tmp 22), (some (19, true))⟩,
 ⟨(some 24), .binOp .eql 273 (.tmp 23) (.const (.int .u8 1)) 273, (some (19, true))⟩,
 ⟨(some 25), .pick (.tmp 19) (.tmp 24) (.const (.bool false)), none⟩,
 ⟨(some 26), .move (.tmp 25), none⟩,
 ⟨(some 27), .move (.tmp 3), (some (26, true))⟩,
 ⟨(some 28), .indexAddr 270 (.tmp 27) (.const (.int .i64 0)), (some (26, true))⟩,
 ⟨(some 29), .fieldAddr 275 (.tmp 28) 1, (some (26, true))⟩,
 ⟨(some 30), .load 9 (.tmp 29), (some (26, true))⟩,
 ⟨(some 31), .move (.tmp 0), (some (26, true))⟩,
 ⟨(some 32), .binOp .eql 9 (.tmp 30) (.tmp 31) 9, (some (26, true))⟩,
 ⟨(some 33), .pick (.tmp 26) (.tmp 32) (.const (.bool false)), none⟩,
 ⟨(some 2), .assign (.tmp 33), none⟩] 0)
 (.ret)))
def fn167 : MFn := ⟨34, [.tmp 2], m167, .shut⟩
theorem fnOk167 : FnOk Tryz.prog 167 fn167 := ⟨Tryz.f167, _, kpL passing [] [[0], [0], [0, 3, 5]], Tryz.func167, rfl, by kernel_rfl, by kernel_rfl, by kernel_rfl, by kernel_rfl⟩
/- seisin/check.demands$3 -/
def m168 : M :=
 .seq (.reg [0] [⟨(some 1), .assign (.const (.bool false)), none⟩] 0)
 (.seq (.reg [0] [⟨(some 2), .load 237 (.tmp 0), none⟩,
 ⟨(some 3), .call ⟨.value (.func 169), #[(.tmp 2)], #[237]⟩, none⟩,
 ⟨(some 1), .assign (.tmp 3), none⟩] 0)
 (.ret))
def fn168 : MFn := ⟨4, [.tmp 1], m168, .pass⟩
theorem fnOk168 : FnOk Tryz.prog 168 fn168 := ⟨Tryz.f168, _, kpL passing [] [[0], [0]], Tryz.func168, rfl, by kernel_rfl, by kernel_rfl, by kernel_rfl, by kernel_rfl⟩
/- seisin/check.locsRight -/
def m169_l0 : M :=
 .seq (.reg [0, 35, 36, 37] [⟨(some 38), .binOp .lss 3 (.tmp 37) (.tmp 36) 3, none⟩] 0)
 (.seq (.cond (.tmp 38) (.skip)
 (.exit 0))
 (.seq (.block 1 (.seq (.reg [0, 35, 36, 37] [⟨(some 39), .move (.tmp 37), none⟩,
 ⟨(some 40), .indexAddr 22 (.tmp 35) (.tmp 37), none⟩,
 ⟨(some 41), .load 9 (.tmp 40), none⟩,
 ⟨(some 3), .assign (.tmp 39), none⟩,
 ⟨(some 4), .assign (.tmp 41), none⟩] 0)
 (.seq (.reg [0, 3, 4, 35, 36, 37] [⟨(some 42), .move (.tmp 4), none⟩,
 ⟨(some 43), .call ⟨.value (.func 186), #[(.tmp 42)], #[9]⟩, none⟩,
 ⟨(some 44), .unOp .not 4 (.tmp 43), none⟩,
 ⟨(some 45), .move (.tmp 44), none⟩,
 ⟨(some 46), .move (.tmp 0), (some (45, false))⟩,
 ⟨(some 47), .nilCheck (.tmp 46), (some (45, false))⟩,
 ⟨(some 48), .fieldAddr 29 (.tmp 47) 1, (some (45, false))⟩,
 ⟨(some 49), .load 22 (.tmp 48), (some (45, false))⟩,
 ⟨(some 50), .move (.tmp 3), (some (45, false))⟩,
 ⟨(some 51), .slice 22 (.tmp 49) none (some (.tmp 50)) none, (some (45, false))⟩,
 ⟨(some 52), .move (.tmp 4), (some (45, false))⟩,
 ⟨(some 53), .call ⟨.value (.func 187), #[(.tmp 51), (.tmp 52)], #[22, 9]⟩, (some (45, false))⟩,
 ⟨(some 54), .pick (.tmp 45) (.const (.bool true)) (.tmp 53), none⟩] 0)
 (.cond (.tmp 54) (.seq (.reg [] [⟨(some 2), .assign (.const (.bool false)), none⟩] 0)
 (.ret))
 (.skip)))))
 (.reg [0, 35, 36, 37] [⟨(some 55), .binOp .add 3 (.tmp 37) (.const (.int .i64 1)) 3, none⟩,
 ⟨(some 37), .move (.tmp 55), none⟩] 0)))
def m169 : M :=
 .seq (.reg [0] [⟨(some 2), .assign (.const (.bool false)), none⟩] 0)
 (.seq (.seq (.reg [0] [⟨(some 5), .move (.tmp 0), none⟩,
 ⟨(some 6), .nilCheck (.tmp 5), none⟩,
 ⟨(some 7), .fieldAddr 29 (.tmp 6) 1, none⟩,
 ⟨(some 8), .load 22 (.tmp 7), none⟩,
 ⟨(some 9), .call ⟨.builtin .len, #[(.tmp 8)], #[22]⟩, none⟩,
 ⟨(some 10), .binOp .lss 3 (.tmp 9) (.const (.int .i64 1)) 3, none⟩,
 ⟨(some 11), .move (.tmp 10), none⟩,
 ⟨(some 12), .move (.tmp 0), (some (11, false))⟩,
 ⟨(some 13), .nilCheck (.tmp 12), (some (11, false))⟩,
 ⟨(some 14), .fieldAddr 29 (.tmp 13) 1, (some (11, false))⟩,
 ⟨(some 15), .load 22 (.tmp 14), (some (11, false))⟩,
 ⟨(some 16), .call ⟨.builtin .len, #[(.tmp 15)], #[22]⟩, (some (11, false))⟩,
 ⟨(some 17), .binOp .gtr 3 (.tmp 16) (.const (.int .i64 6)) 3, (some (11, false))⟩,
 ⟨(some 18), .pick (.tmp 11) (.const (.bool true)) (.tmp 17), none⟩,
 ⟨(some 19), .move (.tmp 18), none⟩,
 ⟨(some 20), .move (.tmp 0), (some (19, false))⟩,
 ⟨(some 21), .nilCheck (.tmp 20), (some (19, false))⟩,
 ⟨(some 22), .fieldAddr 29 (.tmp 21) 2, (some (19, false))⟩,
 ⟨(some 23), .load 23 (.tmp 22), (some (19, false))⟩,
 ⟨(some 24), .call ⟨.builtin .len, #[(.tmp 23)], #[23]⟩, (some (19, false))⟩,
 ⟨(some 25), .move (.tmp 0), (some (19, false))⟩,
 ⟨(some 26), .nilCheck (.tmp 25), (some (19, false))⟩,
 ⟨(some 27), .fieldAddr 29 (.tmp 26) 1, (some (19, false))⟩,
 ⟨(some 28), .load 22 (.tmp 27), (some (19, false))⟩,
 ⟨(some 29), .call ⟨.builtin .len, #[(.tmp 28)], #[22]⟩, (some (19, false))⟩,
 ⟨(some 30), .binOp .neq 3 (.tmp 24) (.tmp 29) 3, (some (19, false))⟩,
 ⟨(some 31), .pick (.tmp 19) (.const (.bool true)) (.tmp 30), none⟩] 25)
 (.cond (.tmp 31) (.seq (.reg [] [⟨(some 2), .assign (.const (.bool false)), none⟩] 0)
 (.ret))
 (.skip)))
 (.seq (.seq (.reg [0] [⟨(some 32), .move (.tmp 0), none⟩,
 ⟨(some 33), .nilCheck (.tmp 32), none⟩,
 ⟨(some 34), .fieldAddr 29 (.tmp 33) 1, none⟩,
 ⟨(some 35), .load 22 (.tmp 34), none⟩,
 ⟨(some 36), .call ⟨.builtin .len, #[(.tmp 35)], #[22]⟩, none⟩,
 ⟨(some 37), .move (.const (.int .i64 0)), none⟩] 0)
 (.block 0 (.loop (m169_l0))))
 (.seq (.reg [] [⟨(some 2), .assign (.const (.bool true)), none⟩] 0)
 (.ret))))
def fn169 : MFn := ⟨56, [.tmp 2], m169, .shut⟩
theorem fnOk169 : FnOk Tryz.prog 169 fn169 := ⟨Tryz.f169, _, kpL passing [] [[0], [0], [], [0], [0, 35, 36, 37], [0, 35, 36, 37], [0, 3, 4, 35, 36, 37], [], [0, 35, 36, 37], []], Tryz.func169, rfl, by kernel_rfl, by kernel_rfl, by kernel_rfl, by kernel_rfl⟩
/- seisin/check.demands$4 -/
def m170 : M :=
 .seq (.reg [0, 1] [⟨(some 2), .assign (.const (.bool false)), none⟩] 0)
 (.seq (.reg [0, 1] [⟨(some 3), .load 237 (.tmp 0), none⟩,
 ⟨(some 4), .nilCheck (.tmp 3), none⟩,
 ⟨(some 5), .fieldAddr 29 (.tmp 4) 3, none⟩,
 ⟨(some 6), .load 24 (.tmp 5), none⟩,
 ⟨(some 7), .call ⟨.builtin .len, #[(.tmp 6)], #[24]⟩, none⟩,
 ⟨(some 8), .binOp .geq 3 (.tmp 7) (.const (.int .i64 1)) 3, none⟩,
 ⟨(some 9), .move (.tmp 8), none⟩,
 ⟨(some 10), .load 237 (.tmp 0), (some (9, true))⟩,
 ⟨(some 11), .nilCheck (.tmp 10), (some (9, true))⟩,
 ⟨(some 12), .fieldAddr 29 (.tmp 11) 3, (some (9, true))⟩,
 ⟨(some 13), .load 24 (.tmp 12), (some (9, true))⟩,
 ⟨(some 14), .call ⟨.builtin .len, #[(.tmp 13)], #[24]⟩, (some (9, true))⟩,
 ⟨(some 15), .binOp .leq 3 (.tmp 14) (.const (.int .i64 4)) 3, (some (9, true))⟩,
 ⟨(some 16), .pick (.tmp 9) (.tmp 15) (.const (.bool false)), none⟩,
 ⟨(some 17), .move (.tmp 16), none⟩,
 ⟨(some 18), .load 258 (.tmp 1), (some (17, true))⟩,
 ⟨(some 19), .call ⟨.value (.tmp 18), #[(.func 171)], #[257]⟩, (some (17, true))⟩,
 ⟨(some 20), .pick (.tmp 17) (.tmp 19) (.const (.bool false)), none⟩,
 ⟨(some 2), .assign (.tmp 20), none⟩] 0)
 (.ret))
def fn170 : MFn := ⟨21, [.tmp 2], m170, .pass⟩
theorem fnOk170 : FnOk Tryz.prog 170 fn170 := ⟨Tryz.f170, _, kpL passing [] [[0, 1], [0, 1]], Tryz.func170, rfl, by kernel_rfl, by kernel_rfl, by kernel_rfl, by kernel_rfl⟩
/- seisin/check.demands$4$1 -/
def m171 : M :=
 .seq (.reg [0] [⟨(some 2), .assign (.const (.bool false)), none⟩] 0)
 (.seq (.reg [0] [⟨(some 3), .move (.tmp 0), none⟩,
 ⟨(some 4), .call ⟨.builtin .len, #[(.tmp 3)], #[103]⟩, none⟩,
 ⟨(some 5), .binOp .leq 3 (.tmp 4) (.const (.int .i64 12)) 3, none⟩,
 ⟨(some 2), .assign (.tmp 5), none⟩] 0)
 (.ret))
def fn171 : MFn := ⟨6, [.tmp 2], m171, .pass⟩
theorem fnOk171 : FnOk Tryz.prog 171 fn171 := ⟨Tryz.f171, _, kpL passing [] [[0], [0]], Tryz.func171, rfl, by kernel_rfl, by kernel_rfl, by kernel_rfl, by kernel_rfl⟩
/- seisin/check.demands$5 -/
def m172 : M :=
 .seq (.reg [0, 1] [⟨(some 2), .assign (.const (.bool false)), none⟩] 0)
 (.seq (.reg [0, 1] [⟨(some 3), .load 258 (.tmp 0), none⟩,
 ⟨(some 4), .makeFunc (.func 173) #[] #[(.tmp 1)], none⟩,
 ⟨(some 5), .call ⟨.value (.tmp 3), #[(.tmp 4)], #[257]⟩, none⟩,
 ⟨(some 2), .assign (.tmp 5), none⟩] 0)
 (.ret))
def fn172 : MFn := ⟨6, [.tmp 2], m172, .pass⟩
theorem fnOk172 : FnOk Tryz.prog 172 fn172 := ⟨Tryz.f172, _, kpL passing [] [[0, 1], [0, 1]], Tryz.func172, rfl, by kernel_rfl, by kernel_rfl, by kernel_rfl, by kernel_rfl⟩
/- seisin/check.demands$5$1 -/
def m173 : M :=
 .seq (.reg [0, 1] [⟨(some 3), .assign (.const (.bool false)), none⟩] 0)
 (.seq (.reg [0, 1] [⟨(some 4), .move (.tmp 0), none⟩,
 ⟨(some 5), .load 237 (.tmp 1), none⟩,
 ⟨(some 6), .nilCheck (.tmp 5), none⟩,
 ⟨(some 7), .fieldAddr 29 (.tmp 6) 1, none⟩,
 ⟨(some 8), .load 22 (.tmp 7), none⟩,
 ⟨(some 9), .call ⟨.builtin .len, #[(.tmp 8)], #[22]⟩, none⟩,
 ⟨(some 10), .call ⟨.value (.func 174), #[(.tmp 4), (.tmp 9)], #[103, 3]⟩, none⟩,
 ⟨(some 3), .assign (.tmp 10), none⟩] 0)
 (.ret))
def fn173 : MFn := ⟨11, [.tmp 3], m173, .pass⟩
theorem fnOk173 : FnOk Tryz.prog 173 fn173 := ⟨Tryz.f173, _, kpL passing [] [[0, 1], [0, 1]], Tryz.func173, rfl, by kernel_rfl, by kernel_rfl, by kernel_rfl, by kernel_rfl⟩
/- seisin/check.Thread -/
def m174_l1 : M :=
 .seq (.reg [0, 5, 6, 17, 18, 19, 32, 33, 34] [⟨(some 35), .binOp .lss 3 (.tmp 34) (.tmp 33) 3, none⟩] 0)
 (.seq (.cond (.tmp 35) (.skip)
 (.exit 2))
 (.seq (.block 3 (.seq (.reg [0, 5, 6, 17, 18, 19, 32, 33, 34] [⟨(some 36), .indexAddr 283 (.tmp 32) (.tmp 34), none⟩,
 ⟨(some 37), .load 47 (.tmp 36), none⟩,
 ⟨(some 10), .assign (.tmp 37), none⟩] 0)
 (.seq (.reg [0, 5, 6, 10, 17, 18, 19, 32, 33, 34] [⟨(some 38), .move (.tmp 10), none⟩,
 ⟨(some 39), .call ⟨.value (.tmp 38), #[], #[]⟩, none⟩,
 ⟨(some 40), .unOp .not 4 (.tmp 39), none⟩] 0)
 (.cond (.tmp 40) (.seq (.reg [] [⟨(some 4), .assign (.const (.bool false)), none⟩] 0)
 (.ret))
 (.skip)))))
 (.reg [0, 5, 6, 17, 18, 19, 32, 33, 34] [⟨(some 41), .binOp .add 3 (.tmp 34) (.const (.int .i64 1)) 3, none⟩,
 ⟨(some 34), .move (.tmp 41), none⟩] 0)))
def m174_l0 : M :=
 .seq (.reg [0, 5, 6, 17, 18, 19] [⟨(some 20), .binOp .lss 3 (.tmp 19) (.tmp 18) 3, none⟩] 0)
 (.seq (.cond (.tmp 20) (.skip)
 (.exit 0))
 (.seq (.block 1 (.seq (.reg [0, 5, 6, 17, 18, 19] [⟨(some 21), .move (.tmp 19), none⟩,
 ⟨(some 22), .indexAddr 103 (.tmp 17) (.tmp 19), none⟩,
 ⟨(some 23), .load 280 (.tmp 22), none⟩,
 ⟨(some 8), .alloc 280, none⟩,
 ⟨(some 7), .assign (.tmp 21), none⟩,
 ⟨none, .store 280 (.tmp 8) (.tmp 23), none⟩] 0)
 (.seq (.reg [0, 5, 6, 7, 8, 17, 18, 19] [⟨(some 24), .load 280 (.tmp 8), none⟩,
 ⟨(some 25), .move (.tmp 0), none⟩,
 ⟨(some 26), .call ⟨.builtin .len, #[(.tmp 25)], #[103]⟩, none⟩,
 ⟨(some 27), .binOp .sub 3 (.tmp 26) (.const (.int .i64 1)) 3, none⟩,
 ⟨(some 28), .move (.tmp 7), none⟩,
 ⟨(some 29), .binOp .sub 3 (.tmp 27) (.tmp 28) 3, none⟩,
 ⟨(some 30), .fieldAddr 282 (.tmp 5) 0, none⟩,
 ⟨none, .store 280 (.tmp 30) (.tmp 24), none⟩,
 ⟨(some 31), .fieldAddr 282 (.tmp 5) 2, none⟩,
 ⟨none, .store 3 (.tmp 31) (.tmp 29), none⟩] 0)
 (.seq (.reg [0, 5, 6, 17, 18, 19] [⟨(some 32), .move (.tmp 6), none⟩,
 ⟨(some 33), .call ⟨.builtin .len, #[(.tmp 32)], #[283]⟩, none⟩,
 ⟨(some 34), .move (.const (.int .i64 0)), none⟩] 0)
 (.block 2 (.loop (m174_l1)))))))
 (.reg [0, 5, 6, 17, 18, 19] [⟨(some 42), .binOp .add 3 (.tmp 19) (.const (.int .i64 1)) 3, none⟩,
 ⟨(some 19), .move (.tmp 42), none⟩] 0)))
def m174 : M :=
 .seq (.reg [0, 1] [⟨(some 4), .assign (.const (.bool false)), none⟩] 0)
 (.seq (.seq (.reg [0, 1] [⟨(some 11), .move (.tmp 0), none⟩,
 ⟨(some 12), .call ⟨.builtin .len, #[(.tmp 11)], #[103]⟩, none⟩,
 ⟨(some 13), .binOp .gtr 3 (.tmp 12) (.const (.int .i64 12)) 3, none⟩] 0)
 (.cond (.tmp 13) (.seq (.reg [] [⟨(some 4), .assign (.const (.bool false)), none⟩] 0)
 (.ret))
 (.skip)))
 (.seq (.reg [0, 1] [⟨(some 14), .move (.tmp 1), none⟩,
 ⟨(some 15), .build 282 #[(1, (.tmp 14))], none⟩,
 ⟨(some 5), .alloc 282, none⟩,
 ⟨none, .store 282 (.tmp 5) (.tmp 15), none⟩] 0)
 (.seq (.reg [0, 5] [⟨(some 16), .call ⟨.value (.func 188), #[(.tmp 5)], #[282]⟩, none⟩,
 ⟨(some 6), .assign (.tmp 16), none⟩] 0)
 (.seq (.seq (.reg [0, 5, 6] [⟨(some 17), .move (.tmp 0), none⟩,
 ⟨(some 18), .call ⟨.builtin .len, #[(.tmp 17)], #[103]⟩, none⟩,
 ⟨(some 19), .move (.const (.int .i64 0)), none⟩] 0)
 (.block 0 (.loop (m174_l0))))
 (.seq (.reg [] [⟨(some 4), .assign (.const (.bool true)), none⟩] 0)
 (.ret))))))
def fn174 : MFn := ⟨43, [.tmp 4], m174, .shut⟩
theorem fnOk174 : FnOk Tryz.prog 174 fn174 := ⟨Tryz.f174, _, kpL passing [] [[0, 1], [0, 1], [], [0, 1], [0, 5], [0, 5, 6], [0, 5, 6, 17, 18, 19], [0, 5, 6, 17, 18, 19], [0, 5, 6, 7, 8, 17, 18, 19], [0, 5, 6, 17, 18, 19], [0, 5, 6, 17, 18, 19, 32, 33, 34], [0, 5, 6, 17, 18, 19, 32, 33, 34], [0, 5, 6, 10, 17, 18, 19, 32, 33, 34], [], [0, 5, 6, 17, 18, 19, 32, 33, 34], [0, 5, 6, 17, 18, 19], []], Tryz.func174, rfl, by kernel_rfl, by kernel_rfl, by kernel_rfl, by kernel_rfl⟩
/- seisin/check.demands$6 -/
def m175 : M :=
 .seq (.reg [0] [⟨(some 1), .assign (.const (.bool false)), none⟩] 0)
 (.seq (.reg [0] [⟨(some 2), .load 237 (.tmp 0), none⟩,
 ⟨(some 3), .nilCheck (.tmp 2), none⟩,
 ⟨(some 4), .fieldAddr 29 (.tmp 3) 4, none⟩,
 ⟨(some 5), .load 5 (.tmp 4), none⟩,
 ⟨(some 6), .binOp .eql 5 (.tmp 5) (.const (.int .u8 1)) 5, none⟩,
 ⟨(some 7), .move (.tmp 6), none⟩,
 ⟨(some 8), .load 237 (.tmp 0), (some (7, false))⟩,
 ⟨(some 9), .nilCheck (.tmp 8), (some (7, false))⟩,
 ⟨(some 10), .fieldAddr 29 (.tmp 9) 4, (some (7, false))⟩,
 ⟨(some 11), .load 5 (.tmp 10), (some (7, false))⟩,
 ⟨(some 12), .binOp .eql 5 (.tmp 11) (.const (.int .u8 2)) 5, (some (7, false))⟩,
 ⟨(some 13), .pick (.tmp 7) (.const (.bool true)) (.tmp 12), none⟩,
 ⟨(some 14), .move (.tmp 13), none⟩,
 ⟨(some 15), .load 237 (.tmp 0), (some (14, false))⟩,
 ⟨(some 16), .nilCheck (.tmp 15), (some (14, false))⟩,
 ⟨(some 17), .fieldAddr 29 (.tmp 16) 4, (some (14, false))⟩,
 ⟨(some 18), .load 5 (.tmp 17), (some (14, false))⟩,
 ⟨(some 19), .binOp .eql 5 (.tmp 18) (.const (.int .u8 3)) 5, (some (14, false))⟩,
 ⟨(some 20), .pick (.tmp 14) (.const (.bool true)) (.tmp 19), none⟩,
 ⟨(some 1), .assign (.tmp 20), none⟩] 0)
 (.ret))
def fn175 : MFn := ⟨21, [.tmp 1], m175, .pass⟩
theorem fnOk175 : FnOk Tryz.prog 175 fn175 := ⟨Tryz.f175, _, kpL passing [] [[0], [0]], Tryz.func175, rfl, by kernel_rfl, by kernel_rfl, by kernel_rfl, by kernel_rfl⟩
/- seisin/check.demands$7 -/
def m176 : M :=
 .seq (.reg [0] [⟨(some 1), .assign (.const (.bool false)), none⟩] 0)
 (.seq (.reg [0] [⟨(some 2), .load 237 (.tmp 0), none⟩,
 ⟨(some 3), .nilCheck (.tmp 2), none⟩,
 ⟨(some 4), .fieldAddr 29 (.tmp 3) 5, none⟩,
 ⟨(some 5), .load 27 (.tmp 4), none⟩,
 ⟨(some 6), .load 237 (.tmp 0), none⟩,
 ⟨(some 7), .nilCheck (.tmp 6), none⟩,
 ⟨(some 8), .fieldAddr 29 (.tmp 7) 3, none⟩,
 ⟨(some 9), .load 24 (.tmp 8), none⟩,
 ⟨(some 10), .call ⟨.builtin .len, #[(.tmp 9)], #[24]⟩, none⟩,
 ⟨(some 11), .load 237 (.tmp 0), none⟩,
 ⟨(some 12), .nilCheck (.tmp 11), none⟩,
 ⟨(some 13), .fieldAddr 29 (.tmp 12) 1, none⟩,
 ⟨(some 14), .load 22 (.tmp 13), none⟩,
 ⟨(some 15), .call ⟨.builtin .len, #[(.tmp 14)], #[22]⟩, none⟩,
 ⟨(some 16), .call ⟨.value (.func 177), #[(.tmp 5), (.tmp 10), (.tmp 15)], #[27, 3, 3]⟩, none⟩,
 ⟨(some 1), .assign (.tmp 16), none⟩] 14)
 (.ret))
def fn176 : MFn := ⟨17, [.tmp 1], m176, .pass⟩
theorem fnOk176 : FnOk Tryz.prog 176 fn176 := ⟨Tryz.f176, _, kpL passing [] [[0], [0]], Tryz.func176, rfl, by kernel_rfl, by kernel_rfl, by kernel_rfl, by kernel_rfl⟩
/- seisin/check.Cond -/
def m177 : M :=
 .seq (.reg [0, 1, 2] [⟨(some 3), .box 27 (.tmp 0), none⟩,
 ⟨(some 6), .assign (.const (.bool false)), none⟩] 0)
 (.seq (.reg [1, 2, 3] [⟨(some 7), .move (.tmp 1), none⟩,
 ⟨(some 8), .move (.tmp 2), none⟩,
 ⟨(some 9), .call ⟨.value (.func 189), #[(.tmp 3), (.tmp 7), (.tmp 8), (.const (.int .i64 20))], #[286, 3, 3, 3]⟩, none⟩,
 ⟨(some 6), .assign (.tmp 9), none⟩] 0)
 (.ret))
def fn177 : MFn := ⟨10, [.tmp 6], m177, .shut⟩
theorem fnOk177 : FnOk Tryz.prog 177 fn177 := ⟨Tryz.f177, _, kpL passing [] [[0, 1, 2], [1, 2, 3]], Tryz.func177, rfl, by kernel_rfl, by kernel_rfl, by kernel_rfl, by kernel_rfl⟩
/- seisin/spec.cells$1 -/
def m178_l1 : M :=
 .seq (.reg [0, 2, 6, 9] [⟨(some 10), .binOp .lss 3 (.tmp 9) (.const (.int .i64 14)) 3, none⟩] 0)
 (.seq (.cond (.tmp 10) (.skip)
 (.exit 2))
 (.seq (.block 3 (.seq (.reg [0, 2, 6, 9] [⟨(some 11), .move (.tmp 9), none⟩,
 ⟨(some 3), .assign (.tmp 11), none⟩] 0)
 (.seq (.reg [0, 2, 3, 6, 9] [⟨(some 12), .move (.tmp 0), none⟩,
 ⟨(some 13), .call ⟨.value (.func 162), #[], #[]⟩, none⟩,
 ⟨(some 14), .move (.tmp 2), none⟩,
 ⟨(some 15), .move (.tmp 3), none⟩,
 ⟨(some 16), .build 225 #[(0, (.tmp 13)), (1, (.tmp 14)), (2, (.tmp 15))], none⟩,
 ⟨(some 17), .call ⟨.value (.tmp 12), #[(.tmp 16)], #[225]⟩, none⟩,
 ⟨(some 18), .unOp .not 4 (.tmp 17), none⟩] 0)
 (.cond (.tmp 18) (.ret)
 (.skip)))))
 (.reg [0, 2, 6, 9] [⟨(some 19), .binOp .add 3 (.tmp 9) (.const (.int .i64 1)) 3, none⟩,
 ⟨(some 9), .move (.tmp 19), none⟩] 0)))
def m178_l0 : M :=
 .seq (.reg [0, 6] [⟨(some 7), .binOp .lss 3 (.tmp 6) (.const (.int .i64 12)) 3, none⟩] 0)
 (.seq (.cond (.tmp 7) (.skip)
 (.exit 0))
 (.seq (.block 1 (.seq (.reg [0, 6] [⟨(some 8), .move (.tmp 6), none⟩,
 ⟨(some 2), .assign (.tmp 8), none⟩] 0)
 (.seq (.reg [0, 2, 6] [⟨(some 9), .move (.const (.int .i64 0)), none⟩] 0)
 (.block 2 (.loop (m178_l1))))))
 (.reg [0, 6] [⟨(some 20), .binOp .add 3 (.tmp 6) (.const (.int .i64 1)) 3, none⟩,
 ⟨(some 6), .move (.tmp 20), none⟩] 0)))
def m178_l3 : M :=
 .seq (.reg [0, 4, 21, 24] [⟨(some 25), .binOp .lss 3 (.tmp 24) (.const (.int .i64 5)) 3, none⟩] 0)
 (.seq (.cond (.tmp 25) (.skip)
 (.exit 6))
 (.seq (.block 7 (.seq (.reg [0, 4, 21, 24] [⟨(some 26), .move (.tmp 24), none⟩,
 ⟨(some 5), .assign (.tmp 26), none⟩] 0)
 (.seq (.reg [0, 4, 5, 21, 24] [⟨(some 27), .move (.tmp 0), none⟩,
 ⟨(some 28), .call ⟨.value (.func 163), #[], #[]⟩, none⟩,
 ⟨(some 29), .move (.tmp 4), none⟩,
 ⟨(some 30), .move (.tmp 5), none⟩,
 ⟨(some 31), .build 225 #[(0, (.tmp 28)), (1, (.tmp 29)), (2, (.tmp 30))], none⟩,
 ⟨(some 32), .call ⟨.value (.tmp 27), #[(.tmp 31)], #[225]⟩, none⟩,
 ⟨(some 33), .unOp .not 4 (.tmp 32), none⟩] 0)
 (.cond (.tmp 33) (.ret)
 (.skip)))))
 (.reg [0, 4, 21, 24] [⟨(some 34), .binOp .add 3 (.tmp 24) (.const (.int .i64 1)) 3, none⟩,
 ⟨(some 24), .move (.tmp 34), none⟩] 0)))
def m178_l2 : M :=
 .seq (.reg [0, 21] [⟨(some 22), .binOp .lss 3 (.tmp 21) (.const (.int .i64 4)) 3, none⟩] 0)
 (.seq (.cond (.tmp 22) (.skip)
 (.exit 4))
 (.seq (.block 5 (.seq (.reg [0, 21] [⟨(some 23), .move (.tmp 21), none⟩,
 ⟨(some 4), .assign (.tmp 23), none⟩] 0)
 (.seq (.reg [0, 4, 21] [⟨(some 24), .move (.const (.int .i64 0)), none⟩] 0)
 (.block 6 (.loop (m178_l3))))))
 (.reg [0, 21] [⟨(some 35), .binOp .add 3 (.tmp 21) (.const (.int .i64 1)) 3, none⟩,
 ⟨(some 21), .move (.tmp 35), none⟩] 0)))
def m178 : M :=
 .seq (.seq (.reg [0] [⟨(some 6), .move (.const (.int .i64 0)), none⟩] 0)
 (.block 0 (.loop (m178_l0))))
 (.seq (.reg [0] [⟨(some 21), .move (.const (.int .i64 0)), none⟩] 0)
 (.block 4 (.loop (m178_l2))))
def fn178 : MFn := ⟨36, [], m178, .pass⟩
theorem fnOk178 : FnOk Tryz.prog 178 fn178 := ⟨Tryz.f178, _, kpL passing [] [[0], [0, 6], [0, 6], [0, 2, 6], [0, 2, 6, 9], [0, 2, 6, 9], [0, 2, 3, 6, 9], [0, 2, 6, 9], [0, 6], [0], [0, 21], [0, 21], [0, 4, 21], [0, 4, 21, 24], [0, 4, 21, 24], [0, 4, 5, 21, 24], [0, 4, 21, 24], [0, 21]], Tryz.func178, rfl, by kernel_rfl, by kernel_rfl, by kernel_rfl, by kernel_rfl⟩
/- seisin/repl.New -/
def m179_l0 : M :=
 .seq (.reg [4, 7, 32, 33] [⟨(some 34), .binOp .lss 3 (.tmp 33) (.tmp 32) 3, none⟩] 0)
 (.seq (.cond (.tmp 34) (.skip)
 (.exit 0))
 (.seq (.block 1 (.seq (.reg [4, 7, 32, 33] [⟨(some 35), .move (.tmp 33), none⟩,
 ⟨(some 8), .assign (.tmp 35), none⟩] 0)
 (.reg [4, 7, 8, 32, 33] [⟨(some 36), .move (.tmp 8), none⟩,
 ⟨(some 37), .move (.tmp 8), none⟩,
 ⟨(some 38), .convert 3 5 (.tmp 37), none⟩,
 ⟨(some 39), .fieldAddr 87 (.tmp 7) 2, none⟩,
 ⟨(some 40), .indexAddr 62 (.tmp 39) (.tmp 36), none⟩,
 ⟨none, .store 5 (.tmp 40) (.tmp 38), none⟩] 0)))
 (.reg [4, 7, 32, 33] [⟨(some 41), .binOp .add 3 (.tmp 33) (.const (.int .i64 1)) 3, none⟩,
 ⟨(some 33), .move (.tmp 41), none⟩] 0)))
def m179 : M :=
 .seq (.reg [0, 1] [⟨(some 4), .alloc 87, none⟩] 0)
 (.seq (.seq (.reg [0, 1, 4] [⟨(some 10), .call ⟨.value (.func 190), #[], #[]⟩, none⟩,
 ⟨(some 11), .move (.tmp 0), none⟩,
 ⟨(some 12), .lookup 292 (.tmp 10) (.tmp 11) true, none⟩,
 ⟨(some 9), .move (.tmp 12), none⟩,
 ⟨(some 13), .extract (.tmp 9) 0, none⟩,
 ⟨(some 14), .extract (.tmp 9) 1, none⟩,
 ⟨(some 5), .alloc 290, none⟩,
 ⟨none, .store 290 (.tmp 5) (.tmp 13), none⟩,
 ⟨(some 6), .assign (.tmp 14), none⟩] 0)
 (.seq (.reg [0, 1, 4, 6] [⟨(some 15), .move (.tmp 6), none⟩,
 ⟨(some 16), .unOp .not 4 (.tmp 15), none⟩,
 ⟨(some 17), .move (.tmp 16), none⟩,
 ⟨(some 18), .move (.tmp 1), (some (17, false))⟩,
 ⟨(some 19), .binOp .lss 3 (.tmp 18) (.const (.int .i64 1)) 3, (some (17, false))⟩,
 ⟨(some 20), .pick (.tmp 17) (.const (.bool true)) (.tmp 19), none⟩,
 ⟨(some 21), .move (.tmp 20), none⟩,
 ⟨(some 22), .move (.tmp 1), (some (21, false))⟩,
 ⟨(some 23), .binOp .gtr 3 (.tmp 22) (.const (.int .i64 4)) 3, (some (21, false))⟩,
 ⟨(some 24), .pick (.tmp 21) (.const (.bool true)) (.tmp 23), none⟩] 0)
 (.cond (.tmp 24) (.seq (.reg [4] [⟨(some 25), .build 87 #[], none⟩,
 ⟨none, .store 87 (.tmp 4) (.tmp 25), none⟩] 0)
 (.ret))
 (.skip))))
 (.seq (.reg [0, 1, 4] [⟨(some 26), .move (.tmp 0), none⟩,
 ⟨(some 27), .move (.tmp 1), none⟩,
 ⟨(some 28), .build 87 #[(0, (.tmp 26)), (1, (.tmp 27))], none⟩,
 ⟨(some 7), .alloc 87, none⟩,
 ⟨none, .store 87 (.tmp 7) (.tmp 28), none⟩] 0)
 (.seq (.seq (.reg [0, 1, 4, 7] [⟨(some 29), .move (.tmp 0), none⟩,
 ⟨(some 30), .binOp .eql 5 (.tmp 29) (.const (.int .u8 3)) 5, none⟩] 0)
 (.cond (.tmp 30) (.seq (.reg [4, 7] [⟨(some 31), .load 87 (.tmp 7), none⟩,
 ⟨none, .store 87 (.tmp 4) (.tmp 31), none⟩] 0)
 (.ret))
 (.skip)))
 (.seq (.seq (.reg [1, 4, 7] [⟨(some 32), .move (.tmp 1), none⟩,
 ⟨(some 33), .move (.const (.int .i64 0)), none⟩] 0)
 (.block 0 (.loop (m179_l0))))
 (.seq (.reg [4, 7] [⟨(some 42), .load 87 (.tmp 7), none⟩,
 ⟨none, .store 87 (.tmp 4) (.tmp 42), none⟩] 0)
 (.ret))))))
def fn179 : MFn := ⟨43, [.cell 4 87], m179, .pass⟩
theorem fnOk179 : FnOk Tryz.prog 179 fn179 := ⟨Tryz.f179, _, kpL passing [] [[0, 1], [0, 1, 4], [0, 1, 4, 6], [4], [0, 1, 4], [0, 1, 4, 7], [4, 7], [1, 4, 7], [4, 7, 32, 33], [4, 7, 32, 33], [4, 7, 8, 32, 33], [4, 7, 32, 33], [4, 7]], Tryz.func179, rfl, by kernel_rfl, by kernel_rfl, by kernel_rfl, by kernel_rfl⟩
/- (seisin/tags.frame).row$1 -/
def m180_l0 : M :=
 .seq (.reg [0, 2, 3, 8, 9] [⟨(some 10), .binOp .lss 3 (.tmp 9) (.tmp 8) 3, none⟩] 0)
 (.seq (.cond (.tmp 10) (.skip)
 (.exit 0))
 (.seq (.block 1 (.seq (.reg [0, 2, 3, 8, 9] [⟨(some 11), .move (.tmp 9), none⟩,
 ⟨(some 5), .assign (.tmp 11), none⟩] 0)
 (.seq (.reg [0, 2, 3, 5, 8, 9] [⟨(some 12), .move (.tmp 0), none⟩,
 ⟨(some 13), .move (.tmp 5), none⟩,
 ⟨(some 14), .load 194 (.tmp 2), none⟩,
 ⟨(some 15), .load 3 (.tmp 3), none⟩,
 ⟨(some 16), .move (.tmp 5), none⟩,
 ⟨(some 17), .nilCheck (.tmp 14), none⟩,
 ⟨(some 18), .fieldAddr 90 (.tmp 17) 0, none⟩,
 ⟨(some 19), .indexAddr 85 (.tmp 18) (.tmp 15), none⟩,
 ⟨(some 20), .indexAddr 84 (.tmp 19) (.tmp 16), none⟩,
 ⟨(some 21), .load 83 (.tmp 20), none⟩,
 ⟨(some 22), .call ⟨.value (.tmp 12), #[(.tmp 13), (.tmp 21)], #[3, 83]⟩, none⟩,
 ⟨(some 23), .unOp .not 4 (.tmp 22), none⟩] 10)
 (.cond (.tmp 23) (.ret)
 (.skip)))))
 (.reg [0, 2, 3, 8, 9] [⟨(some 24), .binOp .add 3 (.tmp 9) (.const (.int .i64 1)) 3, none⟩,
 ⟨(some 9), .move (.tmp 24), none⟩] 0)))
def m180 : M :=
 .seq (.reg [0, 1, 2, 3] [⟨(some 6), .fieldAddr 122 (.tmp 1) 0, none⟩,
 ⟨(some 7), .fieldAddr 31 (.tmp 6) 4, none⟩,
 ⟨(some 8), .load 3 (.tmp 7), none⟩,
 ⟨(some 9), .move (.const (.int .i64 0)), none⟩] 0)
 (.block 0 (.loop (m180_l0)))
def fn180 : MFn := ⟨25, [], m180, .pass⟩
theorem fnOk180 : FnOk Tryz.prog 180 fn180 := ⟨Tryz.f180, _, kpL passing [] [[0, 1, 2, 3], [0, 2, 3, 8, 9], [0, 2, 3, 8, 9], [0, 2, 3, 5, 8, 9], [0, 2, 3, 8, 9]], Tryz.func180, rfl, by kernel_rfl, by kernel_rfl, by kernel_rfl, by kernel_rfl⟩
/- strings.splitSeq$1 -/
def m181_l0 : M :=
 .seq (.seq (.reg [0, 2] [⟨(some 12), .load 9 (.tmp 2), none⟩,
 ⟨(some 13), .call ⟨.builtin .len, #[(.tmp 12)], #[9]⟩, none⟩,
 ⟨(some 14), .binOp .gtr 3 (.tmp 13) (.const (.int .i64 0)) 3, none⟩] 0)
 (.cond (.tmp 14) (.skip)
 (.exit 0)))
 (.block 1 (.seq (.reg [0, 2] [⟨(some 16), .load 9 (.tmp 2), none⟩,
 ⟨(some 17), .call ⟨.value (.func 182), #[(.tmp 16)], #[9]⟩, none⟩,
 ⟨(some 15), .move (.tmp 17), none⟩,
 ⟨(some 18), .extract (.tmp 15) 0, none⟩,
 ⟨(some 19), .extract (.tmp 15) 1, none⟩,
 ⟨(some 5), .assign (.tmp 18), none⟩,
 ⟨(some 6), .assign (.tmp 19), none⟩] 0)
 (.seq (.seq (.reg [0, 2, 6] [⟨(some 20), .move (.tmp 0), none⟩,
 ⟨(some 21), .load 9 (.tmp 2), none⟩,
 ⟨(some 22), .move (.tmp 6), none⟩,
 ⟨(some 23), .slice 9 (.tmp 21) none (some (.tmp 22)) none, none⟩,
 ⟨(some 24), .call ⟨.value (.tmp 20), #[(.tmp 23)], #[9]⟩, none⟩,
 ⟨(some 25), .unOp .not 4 (.tmp 24), none⟩] 0)
 (.cond (.tmp 25) (.ret)
 (.skip)))
 (.reg [0, 2, 6] [⟨(some 26), .load 9 (.tmp 2), none⟩,
 ⟨(some 27), .move (.tmp 6), none⟩,
 ⟨(some 28), .slice 9 (.tmp 26) (some (.tmp 27)) none none, none⟩,
 ⟨none, .store 9 (.tmp 2) (.tmp 28), none⟩] 0))))
def m181_l1 : M :=
 .block 3 (.seq (.reg [0, 1, 2, 3] [⟨(some 29), .load 9 (.tmp 2), none⟩,
 ⟨(some 30), .load 9 (.tmp 1), none⟩,
 ⟨(some 31), .call ⟨.value (.func 183), #[(.tmp 29), (.tmp 30)], #[9, 9]⟩, none⟩,
 ⟨(some 7), .assign (.tmp 31), none⟩] 0)
 (.seq (.seq (.reg [0, 1, 2, 3, 7] [⟨(some 32), .move (.tmp 7), none⟩,
 ⟨(some 33), .binOp .lss 3 (.tmp 32) (.const (.int .i64 0)) 3, none⟩] 0)
 (.cond (.tmp 33) (.exit 2)
 (.skip)))
 (.seq (.reg [0, 1, 2, 3, 7] [⟨(some 34), .load 9 (.tmp 2), none⟩,
 ⟨(some 35), .move (.tmp 7), none⟩,
 ⟨(some 36), .load 3 (.tmp 3), none⟩,
 ⟨(some 37), .binOp .add 3 (.tmp 35) (.tmp 36) 3, none⟩,
 ⟨(some 38), .slice 9 (.tmp 34) none (some (.tmp 37)) none, none⟩,
 ⟨(some 8), .assign (.tmp 38), none⟩] 0)
 (.seq (.seq (.reg [0, 1, 2, 3, 7, 8] [⟨(some 39), .move (.tmp 0), none⟩,
 ⟨(some 40), .move (.tmp 8), none⟩,
 ⟨(some 41), .call ⟨.value (.tmp 39), #[(.tmp 40)], #[9]⟩, none⟩,
 ⟨(some 42), .unOp .not 4 (.tmp 41), none⟩] 0)
 (.cond (.tmp 42) (.ret)
 (.skip)))
 (.reg [0, 1, 2, 3, 7] [⟨(some 43), .load 9 (.tmp 2), none⟩,
 ⟨(some 44), .move (.tmp 7), none⟩,
 ⟨(some 45), .load 9 (.tmp 1), none⟩,
 ⟨(some 46), .call ⟨.builtin .len, #[(.tmp 45)], #[9]⟩, none⟩,
 ⟨(some 47), .binOp .add 3 (.tmp 44) (.tmp 46) 3, none⟩,
 ⟨(some 48), .slice 9 (.tmp 43) (some (.tmp 47)) none none, none⟩,
 ⟨none, .store 9 (.tmp 2) (.tmp 48), none⟩] 0)))))
def m181 : M :=
 .seq (.seq (.reg [0, 1, 2, 3] [⟨(some 9), .load 9 (.tmp 1), none⟩,
 ⟨(some 10), .call ⟨.builtin .len, #[(.tmp 9)], #[9]⟩, none⟩,
 ⟨(some 11), .binOp .eql 3 (.tmp 10) (.const (.int .i64 0)) 3, none⟩] 0)
 (.cond (.tmp 11) (.seq (.block 0 (.loop (m181_l0)))
 (.ret))
 (.skip)))
 (.seq (.block 2 (.loop (m181_l1)))
 (.reg [0, 2] [⟨(some 49), .move (.tmp 0), none⟩,
 ⟨(some 50), .load 9 (.tmp 2), none⟩,
 ⟨(some 51), .call ⟨.value (.tmp 49), #[(.tmp 50)], #[9]⟩, none⟩] 0))
def fn181 : MFn := ⟨52, [], m181, .pass⟩
theorem fnOk181 : FnOk Tryz.prog 181 fn181 := ⟨Tryz.f181, _, kpL passing [] [[0, 1, 2, 3], [0, 2], [0, 2], [0, 2, 6], [0, 2, 6], [0, 1, 2, 3], [0, 1, 2, 3, 7], [0, 1, 2, 3, 7], [0, 1, 2, 3, 7, 8], [0, 1, 2, 3, 7], [0, 2]], Tryz.func181, rfl, by kernel_rfl, by kernel_rfl, by kernel_rfl, by kernel_rfl⟩
/- strings.Index -/
def m183 : M :=
 .seq (.reg [0, 1] [⟨(some 4), .assign (.const (.int .i64 0)), none⟩] 0)
 (.seq (.reg [0, 1] [⟨(some 5), .move (.tmp 0), none⟩,
 ⟨(some 6), .move (.tmp 1), none⟩,
 ⟨(some 7), .call ⟨.value (.func 184), #[(.tmp 5), (.tmp 6)], #[9, 9]⟩, none⟩,
 ⟨(some 4), .assign (.tmp 7), none⟩] 0)
 (.ret))
def fn183 : MFn := ⟨8, [.tmp 4], m183, .shut⟩
theorem fnOk183 : FnOk Tryz.prog 183 fn183 := ⟨Tryz.f183, _, kpL passing [] [[0, 1], [0, 1]], Tryz.func183, rfl, by kernel_rfl, by kernel_rfl, by kernel_rfl, by kernel_rfl⟩
/- internal/stringslite.Index -/
def m184_l0 : M :=
 .seq (.seq (.reg [0, 1, 5, 6, 7, 8, 9, 10] [⟨(some 57), .move (.tmp 8), none⟩,
 ⟨(some 58), .move (.tmp 9), none⟩,
 ⟨(some 59), .binOp .lss 3 (.tmp 57) (.tmp 58) 3, none⟩] 0)
 (.cond (.tmp 59) (.skip)
 (.exit 1)))
 (.block 2 (.seq (.seq (.reg [0, 1, 5, 6, 7, 8, 9, 10] [⟨(some 60), .move (.tmp 0), none⟩,
 ⟨(some 61), .move (.tmp 8), none⟩,
 ⟨(some 62), .index 9 (.tmp 60) (.tmp 61), none⟩,
 ⟨(some 63), .move (.tmp 6), none⟩,
 ⟨(some 64), .binOp .neq 5 (.tmp 62) (.tmp 63) 5, none⟩] 0)
 (.cond (.tmp 64) (.seq (.reg [0, 1, 5, 6, 7, 8, 9, 10] [⟨(some 65), .move (.tmp 0), none⟩,
 ⟨(some 66), .move (.tmp 8), none⟩,
 ⟨(some 67), .binOp .add 3 (.tmp 66) (.const (.int .i64 1)) 3, none⟩,
 ⟨(some 68), .move (.tmp 9), none⟩,
 ⟨(some 69), .slice 9 (.tmp 65) (some (.tmp 67)) (some (.tmp 68)) none, none⟩,
 ⟨(some 70), .move (.tmp 6), none⟩,
 ⟨(some 71), .call ⟨.value (.func 192), #[(.tmp 69), (.tmp 70)], #[9, 5]⟩, none⟩,
 ⟨(some 11), .assign (.tmp 71), none⟩] 0)
 (.seq (.seq (.reg [0, 1, 5, 6, 7, 8, 9, 10, 11] [⟨(some 72), .move (.tmp 11), none⟩,
 ⟨(some 73), .binOp .lss 3 (.tmp 72) (.const (.int .i64 0)) 3, none⟩] 0)
 (.cond (.tmp 73) (.seq (.reg [] [⟨(some 4), .assign (.const (.int .i64 (-1))), none⟩] 0)
 (.ret))
 (.skip)))
 (.reg [0, 1, 5, 6, 7, 8, 9, 10, 11] [⟨(some 74), .move (.tmp 8), none⟩,
 ⟨(some 75), .move (.tmp 11), none⟩,
 ⟨(some 76), .binOp .add 3 (.tmp 75) (.const (.int .i64 1)) 3, none⟩,
 ⟨(some 77), .binOp .add 3 (.tmp 74) (.tmp 76) 3, none⟩,
 ⟨(some 8), .assign (.tmp 77), none⟩] 0)))
 (.skip)))
 (.seq (.seq (.reg [0, 1, 5, 6, 7, 8, 9, 10] [⟨(some 78), .move (.tmp 0), none⟩,
 ⟨(some 79), .move (.tmp 8), none⟩,
 ⟨(some 80), .binOp .add 3 (.tmp 79) (.const (.int .i64 1)) 3, none⟩,
 ⟨(some 81), .index 9 (.tmp 78) (.tmp 80), none⟩,
 ⟨(some 82), .move (.tmp 7), none⟩,
 ⟨(some 83), .binOp .eql 5 (.tmp 81) (.tmp 82) 5, none⟩,
 ⟨(some 84), .move (.tmp 83), none⟩,
 ⟨(some 85), .move (.tmp 0), (some (84, true))⟩,
 ⟨(some 86), .move (.tmp 8), (some (84, true))⟩,
 ⟨(some 87), .move (.tmp 8), (some (84, true))⟩,
 ⟨(some 88), .move (.tmp 5), (some (84, true))⟩,
 ⟨(some 89), .binOp .add 3 (.tmp 87) (.tmp 88) 3, (some (84, true))⟩,
 ⟨(some 90), .slice 9 (.tmp 85) (some (.tmp 86)) (some (.tmp 89)) none, (some (84, true))⟩,
 ⟨(some 91), .move (.tmp 1), (some (84, true))⟩,
 ⟨(some 92), .binOp .eql 9 (.tmp 90) (.tmp 91) 9, (some (84, true))⟩,
 ⟨(some 93), .pick (.tmp 84) (.tmp 92) (.const (.bool false)), none⟩] 0)
 (.cond (.tmp 93) (.seq (.reg [8] [⟨(some 94), .move (.tmp 8), none⟩,
 ⟨(some 4), .assign (.tmp 94), none⟩] 0)
 (.ret))
 (.skip)))
 (.seq (.reg [0, 1, 5, 6, 7, 8, 9, 10] [⟨(some 95), .move (.tmp 8), none⟩,
 ⟨(some 96), .binOp .add 3 (.tmp 95) (.const (.int .i64 1)) 3, none⟩,
 ⟨(some 8), .assign (.tmp 96), none⟩] 0)
 (.seq (.reg [0, 1, 5, 6, 7, 8, 9, 10] [⟨(some 97), .move (.tmp 10), none⟩,
 ⟨(some 98), .binOp .add 3 (.tmp 97) (.const (.int .i64 1)) 3, none⟩,
 ⟨(some 10), .assign (.tmp 98), none⟩] 0)
 (.seq (.reg [0, 1, 5, 6, 7, 8, 9, 10] [⟨(some 99), .move (.tmp 5), none⟩,
 ⟨(some 100), .load 3 (.global 4), none⟩,
 ⟨(some 101), .binOp .leq 3 (.tmp 99) (.tmp 100) 3, none⟩,
 ⟨(some 102), .move (.tmp 101), none⟩,
 ⟨(some 103), .move (.tmp 10), (some (102, true))⟩,
 ⟨(some 104), .move (.tmp 8), (some (102, true))⟩,
 ⟨(some 105), .call ⟨.value (.func 194), #[(.tmp 104)], #[3]⟩, (some (102, true))⟩,
 ⟨(some 106), .binOp .gtr 3 (.tmp 103) (.tmp 105) 3, (some (102, true))⟩,
 ⟨(some 107), .pick (.tmp 102) (.tmp 106) (.const (.bool false)), none⟩] 0)
 (.cond (.tmp 107) (.seq (.reg [0, 1, 8] [⟨(some 108), .move (.tmp 0), none⟩,
 ⟨(some 109), .move (.tmp 8), none⟩,
 ⟨(some 110), .slice 9 (.tmp 108) (some (.tmp 109)) none none, none⟩,
 ⟨(some 111), .move (.tmp 1), none⟩,
 ⟨(some 112), .call ⟨.value (.func 193), #[(.tmp 110), (.tmp 111)], #[9, 9]⟩, none⟩,
 ⟨(some 12), .assign (.tmp 112), none⟩] 0)
 (.seq (.seq (.reg [8, 12] [⟨(some 113), .move (.tmp 12), none⟩,
 ⟨(some 114), .binOp .geq 3 (.tmp 113) (.const (.int .i64 0)) 3, none⟩] 0)
 (.cond (.tmp 114) (.seq (.reg [8, 12] [⟨(some 115), .move (.tmp 12), none⟩,
 ⟨(some 116), .move (.tmp 8), none⟩,
 ⟨(some 117), .binOp .add 3 (.tmp 115) (.tmp 116) 3, none⟩,
 ⟨(some 4), .assign (.tmp 117), none⟩] 0)
 (.ret))
 (.skip)))
 (.seq (.reg [] [⟨(some 4), .assign (.const (.int .i64 (-1))), none⟩] 0)
 (.ret))))
 (.seq (.reg [0, 1, 5, 6, 7, 8, 9, 10] [⟨(some 118), .move (.tmp 5), none⟩,
 ⟨(some 119), .load 3 (.global 4), none⟩,
 ⟨(some 120), .binOp .gtr 3 (.tmp 118) (.tmp 119) 3, none⟩,
 ⟨(some 121), .move (.tmp 120), none⟩,
 ⟨(some 122), .move (.tmp 10), (some (121, true))⟩,
 ⟨(some 123), .move (.tmp 8), (some (121, true))⟩,
 ⟨(some 124), .binOp .shr 3 (.tmp 123) (.const (.int .u64 4)) 197, (some (121, true))⟩,
 ⟨(some 125), .binOp .add 3 (.const (.int .i64 4)) (.tmp 124) 3, (some (121, true))⟩,
 ⟨(some 126), .binOp .geq 3 (.tmp 122) (.tmp 125) 3, (some (121, true))⟩,
 ⟨(some 127), .pick (.tmp 121) (.tmp 126) (.const (.bool false)), none⟩,
 ⟨(some 128), .move (.tmp 127), none⟩,
 ⟨(some 129), .move (.tmp 8), (some (128, true))⟩,
 ⟨(some 130), .move (.tmp 9), (some (128, true))⟩,
 ⟨(some 131), .binOp .lss 3 (.tmp 129) (.tmp 130) 3, (some (128, true))⟩,
 ⟨(some 132), .pick (.tmp 128) (.tmp 131) (.const (.bool false)), none⟩] 0)
 (.cond (.tmp 132) (.seq (.reg [0, 1, 8] [⟨(some 133), .move (.tmp 0), none⟩,
 ⟨(some 134), .move (.tmp 8), none⟩,
 ⟨(some 135), .slice 9 (.tmp 133) (some (.tmp 134)) none none, none⟩,
 ⟨(some 136), .move (.tmp 1), none⟩,
 ⟨(some 137), .call ⟨.value (.func 195), #[(.tmp 135), (.tmp 136)], #[9, 9]⟩, none⟩,
 ⟨(some 13), .assign (.tmp 137), none⟩] 0)
 (.seq (.seq (.reg [8, 13] [⟨(some 138), .move (.tmp 13), none⟩,
 ⟨(some 139), .binOp .lss 3 (.tmp 138) (.const (.int .i64 0)) 3, none⟩] 0)
 (.cond (.tmp 139) (.seq (.reg [] [⟨(some 4), .assign (.const (.int .i64 (-1))), none⟩] 0)
 (.ret))
 (.skip)))
 (.seq (.reg [8, 13] [⟨(some 140), .move (.tmp 8), none⟩,
 ⟨(some 141), .move (.tmp 13), none⟩,
 ⟨(some 142), .binOp .add 3 (.tmp 140) (.tmp 141) 3, none⟩,
 ⟨(some 4), .assign (.tmp 142), none⟩] 0)
 (.ret))))
 (.skip))))))))))
def m184 : M :=
 .seq (.reg [0, 1] [⟨(some 4), .assign (.const (.int .i64 0)), none⟩] 0)
 (.seq (.reg [0, 1] [⟨(some 14), .move (.tmp 1), none⟩,
 ⟨(some 15), .call ⟨.builtin .len, #[(.tmp 14)], #[9]⟩, none⟩,
 ⟨(some 5), .assign (.tmp 15), none⟩] 0)
 (.seq (.block 0 (.seq (.reg [0, 1, 5] [⟨(some 17), .move (.tmp 5), none⟩,
 ⟨(some 18), .binOp .eql 3 (.tmp 17) (.const (.int .i64 0)) 3, none⟩,
 ⟨(some 19), .move (.tmp 18), none⟩,
 ⟨(some 20), .move (.tmp 1), (some (19, false))⟩,
 ⟨(some 21), .move (.tmp 0), (some (19, false))⟩,
 ⟨(some 22), .binOp .eql 9 (.tmp 20) (.tmp 21) 9, (some (19, false))⟩,
 ⟨(some 23), .pick (.tmp 19) (.const (.bool true)) (.tmp 22), none⟩,
 ⟨(some 16), .assign (.tmp 23), none⟩] 0)
 (.cond (.tmp 16) (.seq (.reg [] [⟨(some 4), .assign (.const (.int .i64 0)), none⟩] 0)
 (.ret))
 (.seq (.reg [0, 1, 5] [⟨(some 25), .move (.tmp 5), none⟩,
 ⟨(some 26), .binOp .eql 3 (.tmp 25) (.const (.int .i64 1)) 3, none⟩,
 ⟨(some 24), .assign (.tmp 26), none⟩] 0)
 (.cond (.tmp 24) (.seq (.reg [0, 1] [⟨(some 27), .move (.tmp 0), none⟩,
 ⟨(some 28), .move (.tmp 1), none⟩,
 ⟨(some 29), .index 9 (.tmp 28) (.const (.int .i64 0)), none⟩,
 ⟨(some 30), .call ⟨.value (.func 192), #[(.tmp 27), (.tmp 29)], #[9, 5]⟩, none⟩,
 ⟨(some 4), .assign (.tmp 30), none⟩] 0)
 (.ret))
 (.seq (.reg [0, 1, 5] [⟨(some 32), .move (.tmp 5), none⟩,
 ⟨(some 33), .move (.tmp 0), none⟩,
 ⟨(some 34), .call ⟨.builtin .len, #[(.tmp 33)], #[9]⟩, none⟩,
 ⟨(some 35), .binOp .geq 3 (.tmp 32) (.tmp 34) 3, none⟩,
 ⟨(some 31), .assign (.tmp 35), none⟩] 0)
 (.cond (.tmp 31) (.seq (.reg [] [⟨(some 4), .assign (.const (.int .i64 (-1))), none⟩] 0)
 (.ret))
 (.seq (.reg [0, 1, 5] [⟨(some 37), .move (.tmp 5), none⟩,
 ⟨(some 38), .load 3 (.global 4), none⟩,
 ⟨(some 39), .binOp .leq 3 (.tmp 37) (.tmp 38) 3, none⟩,
 ⟨(some 40), .move (.tmp 39), none⟩,
 ⟨(some 41), .move (.tmp 0), (some (40, true))⟩,
 ⟨(some 42), .call ⟨.builtin .len, #[(.tmp 41)], #[9]⟩, (some (40, true))⟩,
 ⟨(some 43), .binOp .leq 3 (.tmp 42) (.const (.int .i64 64)) 3, (some (40, true))⟩,
 ⟨(some 44), .pick (.tmp 40) (.tmp 43) (.const (.bool false)), none⟩,
 ⟨(some 36), .assign (.tmp 44), none⟩] 0)
 (.cond (.tmp 36) (.seq (.reg [0, 1] [⟨(some 45), .move (.tmp 0), none⟩,
 ⟨(some 46), .move (.tmp 1), none⟩,
 ⟨(some 47), .call ⟨.value (.func 193), #[(.tmp 45), (.tmp 46)], #[9, 9]⟩, none⟩,
 ⟨(some 4), .assign (.tmp 47), none⟩] 0)
 (.ret))
 (.skip))))))))))
 (.seq (.reg [0, 1, 5] [⟨(some 48), .move (.tmp 1), none⟩,
 ⟨(some 49), .index 9 (.tmp 48) (.const (.int .i64 0)), none⟩,
 ⟨(some 6), .assign (.tmp 49), none⟩] 0)
 (.seq (.reg [0, 1, 5, 6] [⟨(some 50), .move (.tmp 1), none⟩,
 ⟨(some 51), .index 9 (.tmp 50) (.const (.int .i64 1)), none⟩,
 ⟨(some 7), .assign (.tmp 51), none⟩] 0)
 (.seq (.reg [0, 1, 5, 6, 7] [⟨(some 8), .assign (.const (.int .i64 0)), none⟩] 0)
 (.seq (.reg [0, 1, 5, 6, 7, 8] [⟨(some 52), .move (.tmp 0), none⟩,
 ⟨(some 53), .call ⟨.builtin .len, #[(.tmp 52)], #[9]⟩, none⟩,
 ⟨(some 54), .move (.tmp 5), none⟩,
 ⟨(some 55), .binOp .sub 3 (.tmp 53) (.tmp 54) 3, none⟩,
 ⟨(some 56), .binOp .add 3 (.tmp 55) (.const (.int .i64 1)) 3, none⟩,
 ⟨(some 9), .assign (.tmp 56), none⟩] 0)
 (.seq (.reg [0, 1, 5, 6, 7, 8, 9] [⟨(some 10), .assign (.const (.int .i64 0)), none⟩] 0)
 (.seq (.block 1 (.loop (m184_l0)))
 (.seq (.reg [] [⟨(some 4), .assign (.const (.int .i64 (-1))), none⟩] 0)
 (.ret))))))))))
def fn184 : MFn := ⟨143, [.tmp 4], m184, .shut⟩
theorem fnOk184 : FnOk Tryz.prog 184 fn184 := ⟨Tryz.f184, _, kpL passing [] [[0, 1], [0, 1], [0, 1, 5], [], [0, 1, 5], [0, 1], [0, 1, 5], [], [0, 1, 5], [0, 1], [0, 1, 5], [0, 1, 5, 6], [0, 1, 5, 6, 7], [0, 1, 5, 6, 7, 8], [0, 1, 5, 6, 7, 8, 9], [0, 1, 5, 6, 7, 8, 9, 10], [0, 1, 5, 6, 7, 8, 9, 10], [0, 1, 5, 6, 7, 8, 9, 10], [0, 1, 5, 6, 7, 8, 9, 10, 11], [], [0, 1, 5, 6, 7, 8, 9, 10, 11], [0, 1, 5, 6, 7, 8, 9, 10], [8], [0, 1, 5, 6, 7, 8, 9, 10], [0, 1, 5, 6, 7, 8, 9, 10], [0, 1, 5, 6, 7, 8, 9, 10], [0, 1, 8], [8, 12], [8, 12], [], [0, 1, 5, 6, 7, 8, 9, 10], [0, 1, 8], [8, 13], [], [8, 13], []], Tryz.func184, rfl, by kernel_rfl, by kernel_rfl, by kernel_rfl, by kernel_rfl⟩
/- seisin/lex.Lex -/
def m185_l0 : M :=
 .seq (.reg [2, 3, 4, 15, 16] [⟨(some 6), .alloc 275, none⟩,
 ⟨none, .store 275 (.tmp 6) (.tmp 15), none⟩] 0)
 (.reg [2, 3, 4, 6, 16] [⟨(some 7), .assign (.tmp 16), none⟩] 0)
def m185_l1 : M :=
 .block 1 (.seq (.seq (.reg [2, 3, 4, 6, 7] [⟨(some 17), .move (.tmp 7), none⟩,
 ⟨(some 18), .binOp .neq 100 (.tmp 17) (.const (.int .i64 0)) 100, none⟩] 0)
 (.cond (.tmp 18) (.seq (.seq (.reg [2, 3, 4, 6, 7] [⟨(some 19), .fieldAddr 275 (.tmp 6) 2, none⟩,
 ⟨(some 20), .load 3 (.tmp 19), none⟩,
 ⟨(some 21), .move (.tmp 7), none⟩] 3)
 (.seq (.ops [⟨none, .store 270 (.tmp 2) (.const (.slice none 0 0)), none⟩])
 (.seq (.again [⟨(some 20), .load 3 (.tmp 19), none⟩])
 (.seq (.ops [⟨none, .store 3 (.tmp 3) (.tmp 20), none⟩])
 (.seq (.again [])
 (.seq (.ops [⟨none, .store 100 (.tmp 4) (.tmp 21), none⟩])
 (.seq (.again [])
 (.skip))))))))
 (.ret))
 (.skip)))
 (.reg [2, 6] [⟨(some 22), .load 270 (.tmp 2), none⟩,
 ⟨(some 23), .load 275 (.tmp 6), none⟩,
 ⟨(some 24), .buildSlice 270 1 #[(0, (.tmp 23))], none⟩,
 ⟨(some 25), .call ⟨.builtin .append, #[(.tmp 22), (.tmp 24)], #[270, 270]⟩, none⟩,
 ⟨none, .store 270 (.tmp 2) (.tmp 25), none⟩] 0))
def m185 : M :=
 .seq (.reg [0] [⟨(some 2), .alloc 270, none⟩,
 ⟨(some 3), .alloc 3, none⟩,
 ⟨(some 4), .alloc 100, none⟩] 0)
 (.seq (.seq (.reg [0, 2, 3, 4] [⟨(some 8), .move (.tmp 0), none⟩,
 ⟨(some 9), .call ⟨.builtin .len, #[(.tmp 8)], #[9]⟩, none⟩,
 ⟨(some 10), .binOp .gtr 3 (.tmp 9) (.const (.int .i64 16384)) 3, none⟩] 0)
 (.cond (.tmp 10) (.seq (.reg [2, 3, 4] [⟨none, .store 270 (.tmp 2) (.const (.slice none 0 0)), none⟩,
 ⟨none, .store 3 (.tmp 3) (.const (.int .i64 0)), none⟩,
 ⟨none, .store 100 (.tmp 4) (.const (.int .i64 3)), none⟩] 0)
 (.ret))
 (.skip)))
 (.seq (.reg [0, 2, 3, 4] [⟨(some 11), .move (.tmp 0), none⟩,
 ⟨(some 12), .build 297 #[(0, (.tmp 11))], none⟩,
 ⟨(some 13), .build 299 #[(0, (.tmp 12))], none⟩,
 ⟨(some 5), .alloc 299, none⟩,
 ⟨none, .store 299 (.tmp 5) (.tmp 13), none⟩] 0)
 (.seq (.seq (.reg [2, 3, 4, 5] [⟨(some 14), .call ⟨.value (.func 196), #[(.tmp 5)], #[299]⟩, none⟩] 0)
 (.block 0 (.rf (.tmp 14) 27 [15, 16] [2, 3, 4] (m185_l0) (m185_l1))))
 (.seq (.reg [2, 3, 4] [⟨(some 26), .load 270 (.tmp 2), none⟩,
 ⟨none, .store 270 (.tmp 2) (.tmp 26), none⟩,
 ⟨none, .store 3 (.tmp 3) (.const (.int .i64 0)), none⟩,
 ⟨none, .store 100 (.tmp 4) (.const (.int .i64 0)), none⟩] 0)
 (.ret)))))
def fn185 : MFn := ⟨27, [.cell 2 270, .cell 3 3, .cell 4 100], m185, .shut⟩
theorem fnOk185 : FnOk Tryz.prog 185 fn185 := ⟨Tryz.f185, _, kpL passing [2, 3, 4] [[0], [0, 2, 3, 4], [2, 3, 4], [0, 2, 3, 4], [2, 3, 4, 5], [2, 3, 4, 15, 16], [2, 3, 4, 6, 16], [2, 3, 4, 6, 7], [2, 3, 4, 6, 7], [2, 6], [2, 3, 4]], Tryz.func185, rfl, by kernel_rfl, by kernel_rfl, by kernel_rfl, by kernel_rfl⟩
/- seisin/lex.Name -/
def m186_l0 : M :=
 .seq (.seq (.reg [0, 3, 4] [⟨(some 23), .move (.tmp 4), none⟩,
 ⟨(some 24), .move (.tmp 0), none⟩,
 ⟨(some 25), .call ⟨.builtin .len, #[(.tmp 24)], #[9]⟩, none⟩,
 ⟨(some 26), .binOp .lss 3 (.tmp 23) (.tmp 25) 3, none⟩] 0)
 (.cond (.tmp 26) (.skip)
 (.exit 0)))
 (.seq (.block 1 (.seq (.seq (.reg [0, 3, 4] [⟨(some 29), .move (.tmp 0), none⟩,
 ⟨(some 30), .move (.tmp 4), none⟩,
 ⟨(some 31), .index 9 (.tmp 29) (.tmp 30), none⟩,
 ⟨(some 32), .call ⟨.value (.func 199), #[(.tmp 31)], #[5]⟩, none⟩,
 ⟨(some 33), .unOp .not 4 (.tmp 32), none⟩] 0)
 (.cond (.tmp 33) (.seq (.reg [] [⟨(some 2), .assign (.const (.bool false)), none⟩] 0)
 (.ret))
 (.skip)))
 (.seq (.reg [0, 3, 4] [⟨(some 34), .move (.tmp 0), none⟩,
 ⟨(some 35), .move (.tmp 4), none⟩,
 ⟨(some 36), .index 9 (.tmp 34) (.tmp 35), none⟩,
 ⟨(some 37), .call ⟨.value (.func 197), #[(.tmp 36)], #[5]⟩, none⟩,
 ⟨(some 38), .binOp .eql 3 (.tmp 37) (.const (.int .i64 4)) 3, none⟩] 0)
 (.cond (.tmp 38) (.reg [0, 3, 4] [⟨(some 39), .move (.tmp 3), none⟩,
 ⟨(some 40), .binOp .add 3 (.tmp 39) (.const (.int .i64 1)) 3, none⟩,
 ⟨(some 3), .assign (.tmp 40), none⟩] 0)
 (.skip)))))
 (.reg [0, 3, 4] [⟨(some 27), .move (.tmp 4), none⟩,
 ⟨(some 28), .binOp .add 3 (.tmp 27) (.const (.int .i64 1)) 3, none⟩,
 ⟨(some 4), .assign (.tmp 28), none⟩] 0))
def m186 : M :=
 .seq (.reg [0] [⟨(some 2), .assign (.const (.bool false)), none⟩] 0)
 (.seq (.seq (.reg [0] [⟨(some 5), .move (.tmp 0), none⟩,
 ⟨(some 6), .call ⟨.builtin .len, #[(.tmp 5)], #[9]⟩, none⟩,
 ⟨(some 7), .binOp .lss 3 (.tmp 6) (.const (.int .i64 1)) 3, none⟩,
 ⟨(some 8), .move (.tmp 7), none⟩,
 ⟨(some 9), .move (.tmp 0), (some (8, false))⟩,
 ⟨(some 10), .call ⟨.builtin .len, #[(.tmp 9)], #[9]⟩, (some (8, false))⟩,
 ⟨(some 11), .binOp .gtr 3 (.tmp 10) (.const (.int .i64 16)) 3, (some (8, false))⟩,
 ⟨(some 12), .pick (.tmp 8) (.const (.bool true)) (.tmp 11), none⟩,
 ⟨(some 13), .move (.tmp 12), none⟩,
 ⟨(some 14), .move (.tmp 0), (some (13, false))⟩,
 ⟨(some 15), .index 9 (.tmp 14) (.const (.int .i64 0)), (some (13, false))⟩,
 ⟨(some 16), .call ⟨.value (.func 197), #[(.tmp 15)], #[5]⟩, (some (13, false))⟩,
 ⟨(some 17), .binOp .neq 3 (.tmp 16) (.const (.int .i64 3)) 3, (some (13, false))⟩,
 ⟨(some 18), .pick (.tmp 13) (.const (.bool true)) (.tmp 17), none⟩,
 ⟨(some 19), .move (.tmp 18), none⟩,
 ⟨(some 20), .move (.tmp 0), (some (19, false))⟩,
 ⟨(some 21), .call ⟨.value (.func 198), #[(.tmp 20)], #[9]⟩, (some (19, false))⟩,
 ⟨(some 22), .pick (.tmp 19) (.const (.bool true)) (.tmp 21), none⟩] 0)
 (.cond (.tmp 22) (.seq (.reg [] [⟨(some 2), .assign (.const (.bool false)), none⟩] 0)
 (.ret))
 (.skip)))
 (.seq (.reg [0] [⟨(some 3), .assign (.const (.int .i64 0)), none⟩] 0)
 (.seq (.seq (.reg [0, 3] [⟨(some 4), .assign (.const (.int .i64 1)), none⟩] 0)
 (.block 0 (.loop (m186_l0))))
 (.seq (.reg [0, 3] [⟨(some 41), .move (.tmp 0), none⟩,
 ⟨(some 42), .index 9 (.tmp 41) (.const (.int .i64 0)), none⟩,
 ⟨(some 43), .binOp .neq 5 (.tmp 42) (.const (.int .u8 114)) 5, none⟩,
 ⟨(some 44), .move (.tmp 43), none⟩,
 ⟨(some 45), .move (.tmp 3), (some (44, false))⟩,
 ⟨(some 46), .binOp .eql 3 (.tmp 45) (.const (.int .i64 0)) 3, (some (44, false))⟩,
 ⟨(some 47), .pick (.tmp 44) (.const (.bool true)) (.tmp 46), none⟩,
 ⟨(some 48), .move (.tmp 47), none⟩,
 ⟨(some 49), .move (.tmp 3), (some (48, false))⟩,
 ⟨(some 50), .move (.tmp 0), (some (48, false))⟩,
 ⟨(some 51), .call ⟨.builtin .len, #[(.tmp 50)], #[9]⟩, (some (48, false))⟩,
 ⟨(some 52), .binOp .sub 3 (.tmp 51) (.const (.int .i64 1)) 3, (some (48, false))⟩,
 ⟨(some 53), .binOp .lss 3 (.tmp 49) (.tmp 52) 3, (some (48, false))⟩,
 ⟨(some 54), .pick (.tmp 48) (.const (.bool true)) (.tmp 53), none⟩,
 ⟨(some 2), .assign (.tmp 54), none⟩] 0)
 (.ret)))))
def fn186 : MFn := ⟨55, [.tmp 2], m186, .shut⟩
theorem fnOk186 : FnOk Tryz.prog 186 fn186 := ⟨Tryz.f186, _, kpL passing [] [[0], [0], [], [0], [0, 3], [0, 3, 4], [0, 3, 4], [0, 3, 4], [], [0, 3, 4], [0, 3, 4], [0, 3]], Tryz.func186, rfl, by kernel_rfl, by kernel_rfl, by kernel_rfl, by kernel_rfl⟩
/- slices.Contains[[]string,string] -/
def m187 : M :=
 .seq (.reg [0, 1] [⟨(some 4), .assign (.const (.bool false)), none⟩] 0)
 (.seq (.reg [0, 1] [⟨(some 5), .move (.tmp 0), none⟩,
 ⟨(some 6), .move (.tmp 1), none⟩,
 ⟨(some 7), .call ⟨.value (.func 200), #[(.tmp 5), (.tmp 6)], #[22, 9]⟩, none⟩,
 ⟨(some 8), .binOp .geq 3 (.tmp 7) (.const (.int .i64 0)) 3, none⟩,
 ⟨(some 4), .assign (.tmp 8), none⟩] 0)
 (.ret))
def fn187 : MFn := ⟨9, [.tmp 4], m187, .shut⟩
theorem fnOk187 : FnOk Tryz.prog 187 fn187 := ⟨Tryz.f187, _, kpL passing [] [[0, 1], [0, 1]], Tryz.func187, rfl, by kernel_rfl, by kernel_rfl, by kernel_rfl, by kernel_rfl⟩
/- (*seisin/check.spot).conditions -/
def m188 : M :=
 .seq (.reg [0] [⟨(some 1), .box 304 (.tmp 0), none⟩,
 ⟨(some 2), .assign (.const (.slice none 0 0)), none⟩] 0)
 (.seq (.reg [1] [⟨(some 3), .makeFunc (.func 201) #[] #[(.tmp 1)], none⟩,
 ⟨(some 4), .makeFunc (.func 202) #[] #[(.tmp 1)], none⟩,
 ⟨(some 5), .makeFunc (.func 204) #[] #[(.tmp 1)], none⟩,
 ⟨(some 6), .makeFunc (.func 205) #[] #[(.tmp 1)], none⟩,
 ⟨(some 7), .makeFunc (.func 207) #[] #[(.tmp 1)], none⟩,
 ⟨(some 8), .load 304 (.tmp 1), none⟩,
 ⟨(some 9), .makeFunc (.func 209) #[(.tmp 8)] #[], none⟩,
 ⟨(some 10), .load 304 (.tmp 1), none⟩,
 ⟨(some 11), .makeFunc (.func 210) #[(.tmp 10)] #[], none⟩,
 ⟨(some 12), .makeFunc (.func 211) #[] #[(.tmp 1)], none⟩,
 ⟨(some 13), .buildSlice 283 8 #[(0, (.tmp 3)), (1, (.tmp 4)), (2, (.tmp 5)), (3, (.tmp 6)), (4, (.tmp 7)), (5, (.tmp 9)), (6, (.tmp 11)), (7, (.tmp 12))], none⟩,
 ⟨(some 2), .assign (.tmp 13), none⟩] 0)
 (.ret))
def fn188 : MFn := ⟨14, [.tmp 2], m188, .pass⟩
theorem fnOk188 : FnOk Tryz.prog 188 fn188 := ⟨Tryz.f188, _, kpL passing [] [[0], [1]], Tryz.func188, rfl, by kernel_rfl, by kernel_rfl, by kernel_rfl, by kernel_rfl⟩
/- seisin/check.condRight -/
def m189_l0 : M :=
 .seq (.reg [0, 1, 2, 3, 124, 125] [⟨(some 126), .binOp .lss 3 (.tmp 125) (.tmp 124) 3, none⟩] 0)
 (.seq (.cond (.tmp 126) (.skip)
 (.exit 1))
 (.seq (.block 2 (.seq (.reg [0, 1, 2, 3, 124, 125] [⟨(some 127), .move (.tmp 125), none⟩,
 ⟨(some 10), .assign (.tmp 127), none⟩] 0)
 (.seq (.reg [0, 1, 2, 3, 10, 124, 125] [⟨(some 128), .move (.tmp 0), none⟩,
 ⟨(some 129), .nilCheck (.tmp 128), none⟩,
 ⟨(some 130), .fieldAddr 27 (.tmp 129) 4, none⟩,
 ⟨(some 131), .load 25 (.tmp 130), none⟩,
 ⟨(some 132), .move (.tmp 10), none⟩,
 ⟨(some 133), .indexAddr 25 (.tmp 131) (.tmp 132), none⟩,
 ⟨(some 134), .move (.tmp 1), none⟩,
 ⟨(some 135), .move (.tmp 2), none⟩,
 ⟨(some 136), .move (.tmp 3), none⟩,
 ⟨(some 137), .binOp .sub 3 (.tmp 136) (.const (.int .i64 1)) 3, none⟩,
 ⟨(some 138), .call ⟨.value (.func 189), #[(.tmp 133), (.tmp 134), (.tmp 135), (.tmp 137)], #[286, 3, 3, 3]⟩, none⟩,
 ⟨(some 139), .unOp .not 4 (.tmp 138), none⟩] 0)
 (.cond (.tmp 139) (.seq (.reg [] [⟨(some 8), .assign (.const (.bool false)), none⟩] 0)
 (.ret))
 (.skip)))))
 (.reg [0, 1, 2, 3, 124, 125] [⟨(some 140), .binOp .add 3 (.tmp 125) (.const (.int .i64 1)) 3, none⟩,
 ⟨(some 125), .move (.tmp 140), none⟩] 0)))
def m189 : M :=
 .seq (.reg [0, 1, 2, 3] [⟨(some 8), .assign (.const (.bool false)), none⟩] 0)
 (.seq (.seq (.reg [0, 1, 2, 3] [⟨(some 11), .move (.tmp 3), none⟩,
 ⟨(some 12), .binOp .eql 3 (.tmp 11) (.const (.int .i64 0)) 3, none⟩] 0)
 (.cond (.tmp 12) (.seq (.reg [] [⟨(some 8), .assign (.const (.bool false)), none⟩] 0)
 (.ret))
 (.skip)))
 (.seq (.reg [0, 1, 2, 3] [⟨(some 13), .move (.tmp 0), none⟩,
 ⟨(some 14), .nilCheck (.tmp 13), none⟩,
 ⟨(some 15), .fieldAddr 27 (.tmp 14) 1, none⟩,
 ⟨(some 16), .load 5 (.tmp 15), none⟩,
 ⟨(some 17), .binOp .eql 5 (.tmp 16) (.const (.int .u8 0)) 5, none⟩,
 ⟨(some 18), .move (.tmp 17), none⟩,
 ⟨(some 19), .move (.tmp 0), (some (18, true))⟩,
 ⟨(some 20), .nilCheck (.tmp 19), (some (18, true))⟩,
 ⟨(some 21), .fieldAddr 27 (.tmp 20) 2, (some (18, true))⟩,
 ⟨(some 22), .load 5 (.tmp 21), (some (18, true))⟩,
 ⟨(some 23), .binOp .eql 5 (.tmp 22) (.const (.int .u8 0)) 5, (some (18, true))⟩,
 ⟨(some 24), .pick (.tmp 18) (.tmp 23) (.const (.bool false)), none⟩,
 ⟨(some 25), .move (.tmp 24), none⟩,
 ⟨(some 26), .move (.tmp 0), (some (25, true))⟩,
 ⟨(some 27), .nilCheck (.tmp 26), (some (25, true))⟩,
 ⟨(some 28), .fieldAddr 27 (.tmp 27) 3, (some (25, true))⟩,
 ⟨(some 29), .load 5 (.tmp 28), (some (25, true))⟩,
 ⟨(some 30), .binOp .eql 5 (.tmp 29) (.const (.int .u8 0)) 5, (some (25, true))⟩,
 ⟨(some 31), .pick (.tmp 25) (.tmp 30) (.const (.bool false)), none⟩,
 ⟨(some 9), .assign (.tmp 31), none⟩] 0)
 (.seq (.seq (.reg [0, 1, 2, 3, 9] [⟨(some 32), .move (.tmp 0), none⟩,
 ⟨(some 33), .nilCheck (.tmp 32), none⟩,
 ⟨(some 34), .fieldAddr 27 (.tmp 33) 0, none⟩,
 ⟨(some 35), .load 5 (.tmp 34), none⟩] 0)
 (.block 0 (.seq (.reg [0, 1, 2, 3, 9, 35] [⟨(some 37), .binOp .eql 5 (.tmp 35) (.const (.int .u8 0)) 5, none⟩,
 ⟨(some 36), .assign (.tmp 37), none⟩] 0)
 (.cond (.tmp 36) (.seq (.reg [0, 9] [⟨(some 38), .move (.tmp 9), none⟩,
 ⟨(some 39), .move (.tmp 38), none⟩,
 ⟨(some 40), .move (.tmp 0), (some (39, true))⟩,
 ⟨(some 41), .nilCheck (.tmp 40), (some (39, true))⟩,
 ⟨(some 42), .fieldAddr 27 (.tmp 41) 4, (some (39, true))⟩,
 ⟨(some 43), .load 25 (.tmp 42), (some (39, true))⟩,
 ⟨(some 44), .call ⟨.builtin .len, #[(.tmp 43)], #[25]⟩, (some (39, true))⟩,
 ⟨(some 45), .binOp .eql 3 (.tmp 44) (.const (.int .i64 0)) 3, (some (39, true))⟩,
 ⟨(some 46), .pick (.tmp 39) (.tmp 45) (.const (.bool false)), none⟩,
 ⟨(some 8), .assign (.tmp 46), none⟩] 0)
 (.ret))
 (.seq (.reg [0, 1, 2, 3, 9, 35] [⟨(some 48), .binOp .eql 5 (.tmp 35) (.const (.int .u8 1)) 5, none⟩,
 ⟨(some 47), .assign (.tmp 48), none⟩] 0)
 (.cond (.tmp 47) (.seq (.reg [0, 1] [⟨(some 49), .move (.tmp 0), none⟩,
 ⟨(some 50), .nilCheck (.tmp 49), none⟩,
 ⟨(some 51), .fieldAddr 27 (.tmp 50) 1, none⟩,
 ⟨(some 52), .load 5 (.tmp 51), none⟩,
 ⟨(some 53), .convert 5 3 (.tmp 52), none⟩,
 ⟨(some 54), .move (.tmp 1), none⟩,
 ⟨(some 55), .binOp .lss 3 (.tmp 53) (.tmp 54) 3, none⟩,
 ⟨(some 56), .move (.tmp 55), none⟩,
 ⟨(some 57), .move (.tmp 0), (some (56, true))⟩,
 ⟨(some 58), .nilCheck (.tmp 57), (some (56, true))⟩,
 ⟨(some 59), .fieldAddr 27 (.tmp 58) 2, (some (56, true))⟩,
 ⟨(some 60), .load 5 (.tmp 59), (some (56, true))⟩,
 ⟨(some 61), .binOp .lss 5 (.tmp 60) (.const (.int .u8 8)) 5, (some (56, true))⟩,
 ⟨(some 62), .pick (.tmp 56) (.tmp 61) (.const (.bool false)), none⟩,
 ⟨(some 63), .move (.tmp 62), none⟩,
 ⟨(some 64), .move (.tmp 0), (some (63, true))⟩,
 ⟨(some 65), .nilCheck (.tmp 64), (some (63, true))⟩,
 ⟨(some 66), .fieldAddr 27 (.tmp 65) 4, (some (63, true))⟩,
 ⟨(some 67), .load 25 (.tmp 66), (some (63, true))⟩,
 ⟨(some 68), .call ⟨.builtin .len, #[(.tmp 67)], #[25]⟩, (some (63, true))⟩,
 ⟨(some 69), .binOp .eql 3 (.tmp 68) (.const (.int .i64 0)) 3, (some (63, true))⟩,
 ⟨(some 70), .pick (.tmp 63) (.tmp 69) (.const (.bool false)), none⟩,
 ⟨(some 8), .assign (.tmp 70), none⟩] 0)
 (.ret))
 (.seq (.reg [0, 1, 2, 3, 9, 35] [⟨(some 72), .binOp .eql 5 (.tmp 35) (.const (.int .u8 2)) 5, none⟩,
 ⟨(some 71), .assign (.tmp 72), none⟩] 0)
 (.cond (.tmp 71) (.seq (.reg [0, 2] [⟨(some 73), .move (.tmp 0), none⟩,
 ⟨(some 74), .nilCheck (.tmp 73), none⟩,
 ⟨(some 75), .fieldAddr 27 (.tmp 74) 2, none⟩,
 ⟨(some 76), .load 5 (.tmp 75), none⟩,
 ⟨(some 77), .convert 5 3 (.tmp 76), none⟩,
 ⟨(some 78), .move (.tmp 2), none⟩,
 ⟨(some 79), .binOp .lss 3 (.tmp 77) (.tmp 78) 3, none⟩,
 ⟨(some 80), .move (.tmp 79), none⟩,
 ⟨(some 81), .move (.tmp 0), (some (80, true))⟩,
 ⟨(some 82), .nilCheck (.tmp 81), (some (80, true))⟩,
 ⟨(some 83), .fieldAddr 27 (.tmp 82) 1, (some (80, true))⟩,
 ⟨(some 84), .load 5 (.tmp 83), (some (80, true))⟩,
 ⟨(some 85), .binOp .eql 5 (.tmp 84) (.const (.int .u8 0)) 5, (some (80, true))⟩,
 ⟨(some 86), .pick (.tmp 80) (.tmp 85) (.const (.bool false)), none⟩,
 ⟨(some 87), .move (.tmp 86), none⟩,
 ⟨(some 88), .move (.tmp 0), (some (87, true))⟩,
 ⟨(some 89), .nilCheck (.tmp 88), (some (87, true))⟩,
 ⟨(some 90), .fieldAddr 27 (.tmp 89) 4, (some (87, true))⟩,
 ⟨(some 91), .load 25 (.tmp 90), (some (87, true))⟩,
 ⟨(some 92), .call ⟨.builtin .len, #[(.tmp 91)], #[25]⟩, (some (87, true))⟩,
 ⟨(some 93), .binOp .eql 3 (.tmp 92) (.const (.int .i64 0)) 3, (some (87, true))⟩,
 ⟨(some 94), .pick (.tmp 87) (.tmp 93) (.const (.bool false)), none⟩,
 ⟨(some 8), .assign (.tmp 94), none⟩] 0)
 (.ret))
 (.seq (.seq (.reg [0, 1, 2, 3, 9, 35] [⟨(some 96), .binOp .eql 5 (.tmp 35) (.const (.int .u8 3)) 5, none⟩,
 ⟨(some 95), .assign (.tmp 96), none⟩] 0)
 (.cond (.tmp 95) (.skip)
 (.reg [0, 1, 2, 3, 9, 35] [⟨(some 97), .binOp .eql 5 (.tmp 35) (.const (.int .u8 4)) 5, none⟩,
 ⟨(some 95), .assign (.tmp 97), none⟩] 0)))
 (.cond (.tmp 95) (.seq (.reg [0, 1, 2, 3, 9] [⟨(some 98), .move (.tmp 9), none⟩,
 ⟨(some 99), .unOp .not 4 (.tmp 98), none⟩,
 ⟨(some 100), .move (.tmp 99), none⟩,
 ⟨(some 101), .move (.tmp 0), (some (100, false))⟩,
 ⟨(some 102), .nilCheck (.tmp 101), (some (100, false))⟩,
 ⟨(some 103), .fieldAddr 27 (.tmp 102) 4, (some (100, false))⟩,
 ⟨(some 104), .load 25 (.tmp 103), (some (100, false))⟩,
 ⟨(some 105), .call ⟨.builtin .len, #[(.tmp 104)], #[25]⟩, (some (100, false))⟩,
 ⟨(some 106), .binOp .lss 3 (.tmp 105) (.const (.int .i64 2)) 3, (some (100, false))⟩,
 ⟨(some 107), .pick (.tmp 100) (.const (.bool true)) (.tmp 106), none⟩] 0)
 (.cond (.tmp 107) (.seq (.reg [] [⟨(some 8), .assign (.const (.bool false)), none⟩] 0)
 (.ret))
 (.skip)))
 (.seq (.reg [0, 1, 2, 3, 9, 35] [⟨(some 109), .binOp .eql 5 (.tmp 35) (.const (.int .u8 5)) 5, none⟩,
 ⟨(some 108), .assign (.tmp 109), none⟩] 0)
 (.cond (.tmp 108) (.seq (.reg [0, 1, 2, 3, 9] [⟨(some 110), .move (.tmp 9), none⟩,
 ⟨(some 111), .unOp .not 4 (.tmp 110), none⟩,
 ⟨(some 112), .move (.tmp 111), none⟩,
 ⟨(some 113), .move (.tmp 0), (some (112, false))⟩,
 ⟨(some 114), .nilCheck (.tmp 113), (some (112, false))⟩,
 ⟨(some 115), .fieldAddr 27 (.tmp 114) 4, (some (112, false))⟩,
 ⟨(some 116), .load 25 (.tmp 115), (some (112, false))⟩,
 ⟨(some 117), .call ⟨.builtin .len, #[(.tmp 116)], #[25]⟩, (some (112, false))⟩,
 ⟨(some 118), .binOp .neq 3 (.tmp 117) (.const (.int .i64 1)) 3, (some (112, false))⟩,
 ⟨(some 119), .pick (.tmp 112) (.const (.bool true)) (.tmp 118), none⟩] 0)
 (.cond (.tmp 119) (.seq (.reg [] [⟨(some 8), .assign (.const (.bool false)), none⟩] 0)
 (.ret))
 (.skip)))
 (.seq (.reg [] [⟨(some 8), .assign (.const (.bool false)), none⟩] 0)
 (.ret))))))))))))))
 (.seq (.seq (.reg [0, 1, 2, 3] [⟨(some 120), .move (.tmp 0), none⟩,
 ⟨(some 121), .nilCheck (.tmp 120), none⟩,
 ⟨(some 122), .fieldAddr 27 (.tmp 121) 4, none⟩,
 ⟨(some 123), .load 25 (.tmp 122), none⟩,
 ⟨(some 124), .call ⟨.builtin .len, #[(.tmp 123)], #[25]⟩, none⟩,
 ⟨(some 125), .move (.const (.int .i64 0)), none⟩] 0)
 (.block 1 (.loop (m189_l0))))
 (.seq (.reg [] [⟨(some 8), .assign (.const (.bool true)), none⟩] 0)
 (.ret))))))
def fn189 : MFn := ⟨141, [.tmp 8], m189, .shut⟩
theorem fnOk189 : FnOk Tryz.prog 189 fn189 := ⟨Tryz.f189, _, kpL passing [] [[0, 1, 2, 3], [0, 1, 2, 3], [], [0, 1, 2, 3], [0, 1, 2, 3, 9], [], [0, 1, 2, 3, 9, 35], [0, 9], [0, 1, 2, 3, 9, 35], [0, 1], [0, 1, 2, 3, 9, 35], [0, 2], [0, 1, 2, 3, 9, 35], [0, 1, 2, 3, 9, 35], [0, 1, 2, 3, 9], [], [0, 1, 2, 3, 9, 35], [0, 1, 2, 3, 9], [], [0, 1, 2, 3], [0, 1, 2, 3, 124, 125], [0, 1, 2, 3, 124, 125], [0, 1, 2, 3, 10, 124, 125], [], [0, 1, 2, 3, 124, 125], []], Tryz.func189, rfl, by kernel_rfl, by kernel_rfl, by kernel_rfl, by kernel_rfl⟩
/- seisin/repl.policies -/
def m190 : M :=
 .seq (.reg [] [⟨(some 0), .assign (.const (.map none)), none⟩] 0)
 (.seq (.reg [] [⟨(some 1), .makeMap 292 none, none⟩,
 ⟨(some 2), .build 290 #[(0, (.func 212)), (1, (.func 212)), (2, (.func 213))], none⟩,
 ⟨none, .insert 292 (.tmp 1) (.const (.int .u8 1)) (.tmp 2), none⟩,
 ⟨(some 3), .build 290 #[(0, (.func 212)), (1, (.func 214)), (2, (.func 213))], none⟩,
 ⟨none, .insert 292 (.tmp 1) (.const (.int .u8 2)) (.tmp 3), none⟩,
 ⟨(some 4), .build 290 #[(0, (.func 215)), (1, (.func 215)), (2, (.func 216))], none⟩,
 ⟨none, .insert 292 (.tmp 1) (.const (.int .u8 3)) (.tmp 4), none⟩,
 ⟨(some 5), .build 290 #[(0, (.func 212)), (1, (.func 212)), (2, (.func 217))], none⟩,
 ⟨none, .insert 292 (.tmp 1) (.const (.int .u8 4)) (.tmp 5), none⟩,
 ⟨(some 6), .move (.tmp 1), none⟩,
 ⟨(some 0), .assign (.tmp 6), none⟩] 0)
 (.ret))
def fn190 : MFn := ⟨7, [.tmp 0], m190, .shut⟩
theorem fnOk190 : FnOk Tryz.prog 190 fn190 := ⟨Tryz.f190, _, kpL passing [] [[], []], Tryz.func190, rfl, by kernel_rfl, by kernel_rfl, by kernel_rfl, by kernel_rfl⟩
/- internal/stringslite.IndexByte -/
def m192 : M :=
 .seq (.reg [0, 1] [⟨(some 4), .assign (.const (.int .i64 0)), none⟩] 0)
 (.seq (.reg [0, 1] [⟨(some 5), .move (.tmp 0), none⟩,
 ⟨(some 6), .move (.tmp 1), none⟩,
 ⟨(some 7), .call ⟨.value (.func 218), #[(.tmp 5), (.tmp 6)], #[9, 5]⟩, none⟩,
 ⟨(some 4), .assign (.tmp 7), none⟩] 0)
 (.ret))
def fn192 : MFn := ⟨8, [.tmp 4], m192, .shut⟩
theorem fnOk192 : FnOk Tryz.prog 192 fn192 := ⟨Tryz.f192, _, kpL passing [] [[0, 1], [0, 1]], Tryz.func192, rfl, by kernel_rfl, by kernel_rfl, by kernel_rfl, by kernel_rfl⟩
/- (*seisin/lex.scanner).tokens -/
def m196 : M :=
 .seq (.reg [0] [⟨(some 1), .box 318 (.tmp 0), none⟩,
 ⟨(some 2), .assign (.const .nilFunc), none⟩] 0)
 (.seq (.reg [1] [⟨(some 3), .makeFunc (.func 220) #[] #[(.tmp 1)], none⟩,
 ⟨(some 2), .assign (.tmp 3), none⟩] 0)
 (.ret))
def fn196 : MFn := ⟨4, [.tmp 2], m196, .pass⟩
theorem fnOk196 : FnOk Tryz.prog 196 fn196 := ⟨Tryz.f196, _, kpL passing [] [[0], [1]], Tryz.func196, rfl, by kernel_rfl, by kernel_rfl, by kernel_rfl, by kernel_rfl⟩
/- seisin/lex.classOf -/
def m197 : M :=
 .seq (.reg [0] [⟨(some 2), .assign (.const (.int .i64 0)), none⟩] 0)
 (.seq (.block 0 (.seq (.reg [0] [⟨(some 4), .move (.tmp 0), none⟩,
 ⟨(some 5), .binOp .geq 5 (.tmp 4) (.const (.int .u8 97)) 5, none⟩,
 ⟨(some 6), .move (.tmp 5), none⟩,
 ⟨(some 7), .move (.tmp 0), (some (6, true))⟩,
 ⟨(some 8), .binOp .leq 5 (.tmp 7) (.const (.int .u8 122)) 5, (some (6, true))⟩,
 ⟨(some 9), .pick (.tmp 6) (.tmp 8) (.const (.bool false)), none⟩,
 ⟨(some 10), .move (.tmp 9), none⟩,
 ⟨(some 11), .move (.tmp 0), (some (10, false))⟩,
 ⟨(some 12), .binOp .geq 5 (.tmp 11) (.const (.int .u8 65)) 5, (some (10, false))⟩,
 ⟨(some 13), .move (.tmp 12), (some (10, false))⟩,
 ⟨(some 14), .move (.tmp 0), (some (13, true))⟩,
 ⟨(some 15), .binOp .leq 5 (.tmp 14) (.const (.int .u8 90)) 5, (some (13, true))⟩,
 ⟨(some 16), .pick (.tmp 13) (.tmp 15) (.const (.bool false)), (some (10, false))⟩,
 ⟨(some 17), .pick (.tmp 10) (.const (.bool true)) (.tmp 16), none⟩,
 ⟨(some 3), .assign (.tmp 17), none⟩] 0)
 (.cond (.tmp 3) (.seq (.reg [] [⟨(some 2), .assign (.const (.int .i64 3)), none⟩] 0)
 (.ret))
 (.seq (.reg [0] [⟨(some 19), .move (.tmp 0), none⟩,
 ⟨(some 20), .binOp .geq 5 (.tmp 19) (.const (.int .u8 48)) 5, none⟩,
 ⟨(some 21), .move (.tmp 20), none⟩,
 ⟨(some 22), .move (.tmp 0), (some (21, true))⟩,
 ⟨(some 23), .binOp .leq 5 (.tmp 22) (.const (.int .u8 57)) 5, (some (21, true))⟩,
 ⟨(some 24), .pick (.tmp 21) (.tmp 23) (.const (.bool false)), none⟩,
 ⟨(some 18), .assign (.tmp 24), none⟩] 0)
 (.cond (.tmp 18) (.seq (.reg [] [⟨(some 2), .assign (.const (.int .i64 4)), none⟩] 0)
 (.ret))
 (.skip))))))
 (.seq (.seq (.reg [0] [⟨(some 25), .move (.tmp 0), none⟩] 0)
 (.block 1 (.seq (.seq (.reg [25] [⟨(some 27), .binOp .eql 5 (.tmp 25) (.const (.int .u8 32)) 5, none⟩,
 ⟨(some 26), .assign (.tmp 27), none⟩] 0)
 (.cond (.tmp 26) (.skip)
 (.reg [25] [⟨(some 28), .binOp .eql 5 (.tmp 25) (.const (.int .u8 9)) 5, none⟩,
 ⟨(some 26), .assign (.tmp 28), none⟩] 0)))
 (.cond (.tmp 26) (.seq (.reg [] [⟨(some 2), .assign (.const (.int .i64 1)), none⟩] 0)
 (.ret))
 (.seq (.reg [25] [⟨(some 30), .binOp .eql 5 (.tmp 25) (.const (.int .u8 10)) 5, none⟩,
 ⟨(some 29), .assign (.tmp 30), none⟩] 0)
 (.cond (.tmp 29) (.seq (.reg [] [⟨(some 2), .assign (.const (.int .i64 2)), none⟩] 0)
 (.ret))
 (.seq (.reg [25] [⟨(some 32), .binOp .eql 5 (.tmp 25) (.const (.int .u8 95)) 5, none⟩,
 ⟨(some 31), .assign (.tmp 32), none⟩] 0)
 (.cond (.tmp 31) (.seq (.reg [] [⟨(some 2), .assign (.const (.int .i64 5)), none⟩] 0)
 (.ret))
 (.seq (.reg [25] [⟨(some 34), .binOp .eql 5 (.tmp 25) (.const (.int .u8 35)) 5, none⟩,
 ⟨(some 33), .assign (.tmp 34), none⟩] 0)
 (.cond (.tmp 33) (.seq (.reg [] [⟨(some 2), .assign (.const (.int .i64 7)), none⟩] 0)
 (.ret))
 (.seq (.seq (.reg [25] [⟨(some 36), .binOp .eql 5 (.tmp 25) (.const (.int .u8 61)) 5, none⟩,
 ⟨(some 35), .assign (.tmp 36), none⟩] 0)
 (.cond (.tmp 35) (.skip)
 (.seq (.reg [25] [⟨(some 37), .binOp .eql 5 (.tmp 25) (.const (.int .u8 43)) 5, none⟩,
 ⟨(some 35), .assign (.tmp 37), none⟩] 0)
 (.cond (.tmp 35) (.skip)
 (.seq (.reg [25] [⟨(some 38), .binOp .eql 5 (.tmp 25) (.const (.int .u8 45)) 5, none⟩,
 ⟨(some 35), .assign (.tmp 38), none⟩] 0)
 (.cond (.tmp 35) (.skip)
 (.seq (.reg [25] [⟨(some 39), .binOp .eql 5 (.tmp 25) (.const (.int .u8 94)) 5, none⟩,
 ⟨(some 35), .assign (.tmp 39), none⟩] 0)
 (.cond (.tmp 35) (.skip)
 (.seq (.reg [25] [⟨(some 40), .binOp .eql 5 (.tmp 25) (.const (.int .u8 38)) 5, none⟩,
 ⟨(some 35), .assign (.tmp 40), none⟩] 0)
 (.cond (.tmp 35) (.skip)
 (.seq (.reg [25] [⟨(some 41), .binOp .eql 5 (.tmp 25) (.const (.int .u8 124)) 5, none⟩,
 ⟨(some 35), .assign (.tmp 41), none⟩] 0)
 (.cond (.tmp 35) (.skip)
 (.seq (.reg [25] [⟨(some 42), .binOp .eql 5 (.tmp 25) (.const (.int .u8 33)) 5, none⟩,
 ⟨(some 35), .assign (.tmp 42), none⟩] 0)
 (.cond (.tmp 35) (.skip)
 (.seq (.reg [25] [⟨(some 43), .binOp .eql 5 (.tmp 25) (.const (.int .u8 40)) 5, none⟩,
 ⟨(some 35), .assign (.tmp 43), none⟩] 0)
 (.cond (.tmp 35) (.skip)
 (.seq (.reg [25] [⟨(some 44), .binOp .eql 5 (.tmp 25) (.const (.int .u8 41)) 5, none⟩,
 ⟨(some 35), .assign (.tmp 44), none⟩] 0)
 (.cond (.tmp 35) (.skip)
 (.seq (.reg [25] [⟨(some 45), .binOp .eql 5 (.tmp 25) (.const (.int .u8 58)) 5, none⟩,
 ⟨(some 35), .assign (.tmp 45), none⟩] 0)
 (.cond (.tmp 35) (.skip)
 (.reg [25] [⟨(some 46), .binOp .eql 5 (.tmp 25) (.const (.int .u8 60)) 5, none⟩,
 ⟨(some 35), .assign (.tmp 46), none⟩] 0)))))))))))))))))))))
 (.cond (.tmp 35) (.seq (.reg [] [⟨(some 2), .assign (.const (.int .i64 6)), none⟩] 0)
 (.ret))
 (.skip)))))))))))))
 (.seq (.reg [] [⟨(some 2), .assign (.const (.int .i64 0)), none⟩] 0)
 (.ret))))
def fn197 : MFn := ⟨47, [.tmp 2], m197, .shut⟩
theorem fnOk197 : FnOk Tryz.prog 197 fn197 := ⟨Tryz.f197, _, kpL passing [] [[0], [0], [], [0], [], [0], [25], [25], [], [25], [], [25], [], [25], [], [25], [25], [25], [25], [25], [25], [25], [25], [25], [25], [25], [], []], Tryz.func197, rfl, by kernel_rfl, by kernel_rfl, by kernel_rfl, by kernel_rfl⟩
/- seisin/lex.Kept -/
def m198 : M :=
 .seq (.reg [0] [⟨(some 2), .assign (.const (.bool false)), none⟩] 0)
 (.seq (.seq (.reg [0] [⟨(some 3), .move (.tmp 0), none⟩] 0)
 (.block 0 (.seq (.seq (.reg [3] [⟨(some 5), .binOp .eql 9 (.tmp 3) (.const (.string ⟨#[116, 101, 115, 116]⟩)) 9, none⟩,
 ⟨(some 4), .assign (.tmp 5), none⟩] 0)
 (.cond (.tmp 4) (.skip)
 (.seq (.reg [3] [⟨(some 6), .binOp .eql 9 (.tmp 3) (.const (.string ⟨#[105, 110, 105, 116]⟩)) 9, none⟩,
 ⟨(some 4), .assign (.tmp 6), none⟩] 0)
 (.cond (.tmp 4) (.skip)
 (.seq (.reg [3] [⟨(some 7), .binOp .eql 9 (.tmp 3) (.const (.string ⟨#[116, 104, 114, 101, 97, 100]⟩)) 9, none⟩,
 ⟨(some 4), .assign (.tmp 7), none⟩] 0)
 (.cond (.tmp 4) (.skip)
 (.seq (.reg [3] [⟨(some 8), .binOp .eql 9 (.tmp 3) (.const (.string ⟨#[115, 111, 109, 101]⟩)) 9, none⟩,
 ⟨(some 4), .assign (.tmp 8), none⟩] 0)
 (.cond (.tmp 4) (.skip)
 (.seq (.reg [3] [⟨(some 9), .binOp .eql 9 (.tmp 3) (.const (.string ⟨#[110, 111, 110, 101]⟩)) 9, none⟩,
 ⟨(some 4), .assign (.tmp 9), none⟩] 0)
 (.cond (.tmp 4) (.skip)
 (.seq (.reg [3] [⟨(some 10), .binOp .eql 9 (.tmp 3) (.const (.string ⟨#[97, 108, 108]⟩)) 9, none⟩,
 ⟨(some 4), .assign (.tmp 10), none⟩] 0)
 (.cond (.tmp 4) (.skip)
 (.seq (.reg [3] [⟨(some 11), .binOp .eql 9 (.tmp 3) (.const (.string ⟨#[97, 99, 113]⟩)) 9, none⟩,
 ⟨(some 4), .assign (.tmp 11), none⟩] 0)
 (.cond (.tmp 4) (.skip)
 (.seq (.reg [3] [⟨(some 12), .binOp .eql 9 (.tmp 3) (.const (.string ⟨#[114, 101, 108]⟩)) 9, none⟩,
 ⟨(some 4), .assign (.tmp 12), none⟩] 0)
 (.cond (.tmp 4) (.skip)
 (.seq (.reg [3] [⟨(some 13), .binOp .eql 9 (.tmp 3) (.const (.string ⟨#[115, 119, 97, 112]⟩)) 9, none⟩,
 ⟨(some 4), .assign (.tmp 13), none⟩] 0)
 (.cond (.tmp 4) (.skip)
 (.seq (.reg [3] [⟨(some 14), .binOp .eql 9 (.tmp 3) (.const (.string ⟨#[102, 101, 116, 99, 104]⟩)) 9, none⟩,
 ⟨(some 4), .assign (.tmp 14), none⟩] 0)
 (.cond (.tmp 4) (.skip)
 (.seq (.reg [3] [⟨(some 15), .binOp .eql 9 (.tmp 3) (.const (.string ⟨#[99, 97, 115]⟩)) 9, none⟩,
 ⟨(some 4), .assign (.tmp 15), none⟩] 0)
 (.cond (.tmp 4) (.skip)
 (.seq (.reg [3] [⟨(some 16), .binOp .eql 9 (.tmp 3) (.const (.string ⟨#[102, 101, 110, 99, 101]⟩)) 9, none⟩,
 ⟨(some 4), .assign (.tmp 16), none⟩] 0)
 (.cond (.tmp 4) (.skip)
 (.seq (.reg [3] [⟨(some 17), .binOp .eql 9 (.tmp 3) (.const (.string ⟨#[108, 111, 97, 100, 115]⟩)) 9, none⟩,
 ⟨(some 4), .assign (.tmp 17), none⟩] 0)
 (.cond (.tmp 4) (.skip)
 (.seq (.reg [3] [⟨(some 18), .binOp .eql 9 (.tmp 3) (.const (.string ⟨#[115, 116, 111, 114, 101, 115]⟩)) 9, none⟩,
 ⟨(some 4), .assign (.tmp 18), none⟩] 0)
 (.cond (.tmp 4) (.skip)
 (.seq (.reg [3] [⟨(some 19), .binOp .eql 9 (.tmp 3) (.const (.string ⟨#[115, 107, 105, 112]⟩)) 9, none⟩,
 ⟨(some 4), .assign (.tmp 19), none⟩] 0)
 (.cond (.tmp 4) (.skip)
 (.seq (.reg [3] [⟨(some 20), .binOp .eql 9 (.tmp 3) (.const (.string ⟨#[105, 102]⟩)) 9, none⟩,
 ⟨(some 4), .assign (.tmp 20), none⟩] 0)
 (.cond (.tmp 4) (.skip)
 (.reg [3] [⟨(some 21), .binOp .eql 9 (.tmp 3) (.const (.string ⟨#[116, 114, 117, 101]⟩)) 9, none⟩,
 ⟨(some 4), .assign (.tmp 21), none⟩] 0)))))))))))))))))))))))))))))))))
 (.cond (.tmp 4) (.seq (.reg [] [⟨(some 2), .assign (.const (.bool true)), none⟩] 0)
 (.ret))
 (.skip)))))
 (.seq (.reg [] [⟨(some 2), .assign (.const (.bool false)), none⟩] 0)
 (.ret)))
def fn198 : MFn := ⟨22, [.tmp 2], m198, .shut⟩
theorem fnOk198 : FnOk Tryz.prog 198 fn198 := ⟨Tryz.f198, _, kpL passing [] [[0], [0], [3], [3], [3], [3], [3], [3], [3], [3], [3], [3], [3], [3], [3], [3], [3], [3], [3], [], []], Tryz.func198, rfl, by kernel_rfl, by kernel_rfl, by kernel_rfl, by kernel_rfl⟩
/- slices.Index[[]string,string] -/
def m200_l0 : M :=
 .seq (.reg [0, 1, 7, 8] [⟨(some 9), .binOp .lss 3 (.tmp 8) (.tmp 7) 3, none⟩] 0)
 (.seq (.cond (.tmp 9) (.skip)
 (.exit 0))
 (.seq (.block 1 (.seq (.reg [0, 1, 7, 8] [⟨(some 10), .move (.tmp 8), none⟩,
 ⟨(some 5), .assign (.tmp 10), none⟩] 0)
 (.seq (.reg [0, 1, 5, 7, 8] [⟨(some 11), .move (.tmp 1), none⟩,
 ⟨(some 12), .move (.tmp 0), none⟩,
 ⟨(some 13), .move (.tmp 5), none⟩,
 ⟨(some 14), .indexAddr 22 (.tmp 12) (.tmp 13), none⟩,
 ⟨(some 15), .load 9 (.tmp 14), none⟩,
 ⟨(some 16), .binOp .eql 9 (.tmp 11) (.tmp 15) 9, none⟩] 0)
 (.cond (.tmp 16) (.seq (.reg [5] [⟨(some 17), .move (.tmp 5), none⟩,
 ⟨(some 4), .assign (.tmp 17), none⟩] 0)
 (.ret))
 (.skip)))))
 (.reg [0, 1, 7, 8] [⟨(some 18), .binOp .add 3 (.tmp 8) (.const (.int .i64 1)) 3, none⟩,
 ⟨(some 8), .move (.tmp 18), none⟩] 0)))
def m200 : M :=
 .seq (.reg [0, 1] [⟨(some 4), .assign (.const (.int .i64 0)), none⟩] 0)
 (.seq (.seq (.reg [0, 1] [⟨(some 6), .move (.tmp 0), none⟩,
 ⟨(some 7), .call ⟨.builtin .len, #[(.tmp 6)], #[22]⟩, none⟩,
 ⟨(some 8), .move (.const (.int .i64 0)), none⟩] 0)
 (.block 0 (.loop (m200_l0))))
 (.seq (.reg [] [⟨(some 4), .assign (.const (.int .i64 (-1))), none⟩] 0)
 (.ret)))
def fn200 : MFn := ⟨19, [.tmp 4], m200, .shut⟩
theorem fnOk200 : FnOk Tryz.prog 200 fn200 := ⟨Tryz.f200, _, kpL passing [] [[0, 1], [0, 1], [0, 1, 7, 8], [0, 1, 7, 8], [0, 1, 5, 7, 8], [5], [0, 1, 7, 8], []], Tryz.func200, rfl, by kernel_rfl, by kernel_rfl, by kernel_rfl, by kernel_rfl⟩
/- (*seisin/lex.scanner).tokens$1 -/
def m220_l0 : M :=
 .seq (.seq (.reg [0, 1, 3, 4] [⟨(some 10), .move (.tmp 4), none⟩] 0)
 (.cond (.tmp 10) (.skip)
 (.exit 0)))
 (.seq (.block 1 (.seq (.reg [0, 1, 3] [⟨(some 16), .move (.tmp 0), none⟩,
 ⟨(some 17), .load 275 (.tmp 3), none⟩,
 ⟨(some 18), .load 275 (.tmp 3), none⟩,
 ⟨(some 19), .call ⟨.value (.func 222), #[(.tmp 18)], #[275]⟩, none⟩,
 ⟨(some 20), .call ⟨.value (.tmp 16), #[(.tmp 17), (.tmp 19)], #[275, 100]⟩, none⟩,
 ⟨(some 21), .unOp .not 4 (.tmp 20), none⟩] 4)
 (.cond (.tmp 21) (.ret)
 (.skip))))
 (.seq (.seq (.reg [0, 1, 3] [⟨(some 22), .load 275 (.tmp 3), none⟩] 0)
 (.reg [0, 1, 22] [⟨(some 3), .alloc 275, none⟩,
 ⟨none, .store 275 (.tmp 3) (.tmp 22), none⟩] 0))
 (.reg [0, 1, 3] [⟨(some 12), .load 318 (.tmp 1), none⟩,
 ⟨(some 13), .call ⟨.value (.func 221), #[(.tmp 12)], #[318]⟩, none⟩,
 ⟨(some 11), .move (.tmp 13), none⟩,
 ⟨(some 14), .extract (.tmp 11) 0, none⟩,
 ⟨(some 15), .extract (.tmp 11) 1, none⟩,
 ⟨none, .store 275 (.tmp 3) (.tmp 14), none⟩,
 ⟨(some 4), .assign (.tmp 15), none⟩] 0)))
def m220 : M :=
 .seq (.reg [0, 1] [⟨(some 6), .load 318 (.tmp 1), none⟩,
 ⟨(some 7), .call ⟨.value (.func 221), #[(.tmp 6)], #[318]⟩, none⟩,
 ⟨(some 5), .move (.tmp 7), none⟩,
 ⟨(some 8), .extract (.tmp 5) 0, none⟩,
 ⟨(some 9), .extract (.tmp 5) 1, none⟩,
 ⟨(some 3), .alloc 275, none⟩,
 ⟨none, .store 275 (.tmp 3) (.tmp 8), none⟩,
 ⟨(some 4), .assign (.tmp 9), none⟩] 0)
 (.block 0 (.loop (m220_l0)))
def fn220 : MFn := ⟨23, [], m220, .pass⟩
theorem fnOk220 : FnOk Tryz.prog 220 fn220 := ⟨Tryz.f220, _, kpL passing [] [[0, 1], [0, 1, 3, 4], [0, 1, 3], [0, 1, 3], [0, 1, 3], [0, 1, 22]], Tryz.func220, rfl, by kernel_rfl, by kernel_rfl, by kernel_rfl, by kernel_rfl⟩
/- (*seisin/lex.scanner).next -/
def m221_l0 : M :=
 .block 1 (.seq (.reg [0, 2] [⟨(some 6), .move (.tmp 0), none⟩,
 ⟨(some 7), .nilCheck (.tmp 6), none⟩,
 ⟨(some 8), .fieldAddr 299 (.tmp 7) 0, none⟩,
 ⟨(some 9), .call ⟨.value (.func 224), #[(.tmp 8)], #[297]⟩, none⟩] 0)
 (.seq (.seq (.reg [0, 2] [⟨(some 10), .move (.tmp 0), none⟩,
 ⟨(some 11), .nilCheck (.tmp 10), none⟩,
 ⟨(some 12), .fieldAddr 299 (.tmp 11) 0, none⟩,
 ⟨(some 13), .call ⟨.value (.func 225), #[(.tmp 12)], #[297]⟩, none⟩,
 ⟨(some 14), .unOp .not 4 (.tmp 13), none⟩] 0)
 (.cond (.tmp 14) (.seq (.reg [0, 2] [⟨(some 15), .move (.tmp 0), none⟩,
 ⟨(some 16), .nilCheck (.tmp 15), none⟩,
 ⟨(some 17), .fieldAddr 299 (.tmp 16) 1, none⟩,
 ⟨none, .store 4 (.tmp 17) (.const (.bool true)), none⟩] 0)
 (.seq (.reg [0, 2] [⟨(some 18), .move (.tmp 0), none⟩,
 ⟨(some 19), .call ⟨.value (.func 226), #[(.tmp 18)], #[318]⟩, none⟩,
 ⟨none, .store 275 (.tmp 2) (.tmp 19), none⟩,
 ⟨(some 3), .assign (.const (.bool true)), none⟩] 0)
 (.ret)))
 (.skip)))
 (.seq (.reg [0, 2] [⟨(some 20), .move (.tmp 0), none⟩,
 ⟨(some 21), .nilCheck (.tmp 20), none⟩,
 ⟨(some 22), .fieldAddr 299 (.tmp 21) 0, none⟩,
 ⟨(some 23), .fieldAddr 297 (.tmp 22) 1, none⟩,
 ⟨(some 24), .load 3 (.tmp 23), none⟩,
 ⟨(some 25), .build 275 #[(0, (.const (.int .u8 4))), (2, (.tmp 24))], none⟩,
 ⟨(some 4), .alloc 275, none⟩,
 ⟨none, .store 275 (.tmp 4) (.tmp 25), none⟩] 0)
 (.seq (.reg [0, 2, 4] [⟨(some 26), .move (.tmp 0), none⟩,
 ⟨(some 27), .nilCheck (.tmp 26), none⟩,
 ⟨(some 28), .fieldAddr 299 (.tmp 27) 0, none⟩,
 ⟨(some 29), .call ⟨.value (.func 227), #[(.tmp 28)], #[297]⟩, none⟩,
 ⟨(some 5), .assign (.tmp 29), none⟩] 0)
 (.seq (.reg [0, 2, 4, 5] [⟨(some 30), .move (.tmp 0), none⟩,
 ⟨(some 31), .move (.tmp 0), none⟩,
 ⟨(some 32), .nilCheck (.tmp 31), none⟩,
 ⟨(some 33), .fieldAddr 299 (.tmp 32) 0, none⟩,
 ⟨(some 34), .fieldAddr 297 (.tmp 33) 1, none⟩,
 ⟨(some 35), .load 3 (.tmp 34), none⟩,
 ⟨(some 36), .binOp .add 3 (.tmp 35) (.const (.int .i64 1)) 3, none⟩,
 ⟨(some 37), .move (.tmp 0), none⟩,
 ⟨(some 38), .nilCheck (.tmp 37), none⟩,
 ⟨(some 39), .fieldAddr 299 (.tmp 38) 0, none⟩,
 ⟨(some 40), .fieldAddr 297 (.tmp 39) 0, none⟩,
 ⟨(some 41), .load 9 (.tmp 40), none⟩,
 ⟨(some 42), .call ⟨.builtin .len, #[(.tmp 41)], #[9]⟩, none⟩,
 ⟨(some 43), .call ⟨.builtin .min, #[(.tmp 36), (.tmp 42)], #[3, 3]⟩, none⟩,
 ⟨(some 44), .nilCheck (.tmp 30), none⟩,
 ⟨(some 45), .fieldAddr 299 (.tmp 44) 0, none⟩,
 ⟨(some 46), .fieldAddr 297 (.tmp 45) 1, none⟩,
 ⟨none, .store 3 (.tmp 46) (.tmp 43), none⟩] 14)
 (.seq (.seq (.reg [0, 2, 4, 5] [⟨(some 47), .move (.tmp 0), none⟩,
 ⟨(some 48), .nilCheck (.tmp 47), none⟩,
 ⟨(some 49), .fieldAddr 299 (.tmp 48) 1, none⟩,
 ⟨(some 50), .load 4 (.tmp 49), none⟩] 0)
 (.cond (.tmp 50) (.seq (.reg [0, 2, 4] [⟨(some 51), .move (.tmp 0), none⟩,
 ⟨(some 52), .nilCheck (.tmp 51), none⟩,
 ⟨(some 53), .fieldAddr 299 (.tmp 52) 1, none⟩,
 ⟨none, .store 4 (.tmp 53) (.const (.bool false)), none⟩] 0)
 (.seq (.reg [2, 4] [⟨(some 54), .load 275 (.tmp 4), none⟩,
 ⟨none, .store 275 (.tmp 2) (.tmp 54), none⟩,
 ⟨(some 3), .assign (.const (.bool true)), none⟩] 0)
 (.ret)))
 (.skip)))
 (.seq (.reg [0, 2, 5] [⟨(some 55), .move (.tmp 5), none⟩] 0)
 (.cond (.tmp 55) (.seq (.reg [2] [⟨(some 56), .build 275 #[], none⟩,
 ⟨none, .store 275 (.tmp 2) (.tmp 56), none⟩,
 ⟨(some 3), .assign (.const (.bool false)), none⟩] 0)
 (.ret))
 (.skip)))))))))
def m221 : M :=
 .seq (.reg [0] [⟨(some 2), .alloc 275, none⟩,
 ⟨(some 3), .assign (.const (.bool false)), none⟩] 0)
 (.block 0 (.loop (m221_l0)))
def fn221 : MFn := ⟨57, [.cell 2 275, .tmp 3], m221, .pass⟩
theorem fnOk221 : FnOk Tryz.prog 221 fn221 := ⟨Tryz.f221, _, kpL passing [] [[0], [0, 2], [0, 2], [0, 2], [0, 2], [0, 2], [0, 2, 4], [0, 2, 4, 5], [0, 2, 4, 5], [0, 2, 4], [2, 4], [0, 2, 5], [2]], Tryz.func221, rfl, by kernel_rfl, by kernel_rfl, by kernel_rfl, by kernel_rfl⟩
/- seisin/lex.fault -/
def m222 : M :=
 .seq (.reg [0] [⟨(some 1), .box 275 (.tmp 0), none⟩,
 ⟨(some 2), .assign (.const (.int .i64 0)), none⟩] 0)
 (.seq (.seq (.reg [1] [⟨(some 5), .fieldAddr 275 (.tmp 1) 0, none⟩,
 ⟨(some 6), .load 273 (.tmp 5), none⟩] 0)
 (.block 0 (.seq (.reg [1, 6] [⟨(some 8), .binOp .eql 273 (.tmp 6) (.const (.int .u8 1)) 273, none⟩,
 ⟨(some 7), .assign (.tmp 8), none⟩] 0)
 (.cond (.tmp 7) (.seq (.reg [1] [⟨(some 9), .fieldAddr 275 (.tmp 1) 1, none⟩,
 ⟨(some 10), .load 9 (.tmp 9), none⟩,
 ⟨(some 11), .call ⟨.builtin .len, #[(.tmp 10)], #[9]⟩, none⟩,
 ⟨(some 12), .binOp .gtr 3 (.tmp 11) (.const (.int .i64 16)) 3, none⟩] 0)
 (.cond (.tmp 12) (.seq (.reg [] [⟨(some 2), .assign (.const (.int .i64 42)), none⟩] 0)
 (.ret))
 (.skip)))
 (.seq (.reg [1, 6] [⟨(some 14), .binOp .eql 273 (.tmp 6) (.const (.int .u8 2)) 273, none⟩,
 ⟨(some 13), .assign (.tmp 14), none⟩] 0)
 (.cond (.tmp 13) (.seq (.reg [1] [⟨(some 16), .fieldAddr 275 (.tmp 1) 1, none⟩,
 ⟨(some 17), .load 9 (.tmp 16), none⟩,
 ⟨(some 18), .call ⟨.value (.func 228), #[(.tmp 17)], #[9]⟩, none⟩,
 ⟨(some 15), .move (.tmp 18), none⟩,
 ⟨(some 19), .extract (.tmp 15) 0, none⟩,
 ⟨(some 20), .extract (.tmp 15) 1, none⟩,
 ⟨(some 3), .assign (.tmp 19), none⟩,
 ⟨(some 4), .assign (.tmp 20), none⟩] 0)
 (.seq (.reg [4] [⟨(some 21), .move (.tmp 4), none⟩,
 ⟨(some 22), .unOp .not 4 (.tmp 21), none⟩] 0)
 (.cond (.tmp 22) (.seq (.reg [] [⟨(some 2), .assign (.const (.int .i64 41)), none⟩] 0)
 (.ret))
 (.skip))))
 (.seq (.reg [1, 6] [⟨(some 24), .binOp .eql 273 (.tmp 6) (.const (.int .u8 3)) 273, none⟩,
 ⟨(some 23), .assign (.tmp 24), none⟩] 0)
 (.cond (.tmp 23) (.seq (.reg [1] [⟨(some 25), .fieldAddr 275 (.tmp 1) 1, none⟩,
 ⟨(some 26), .load 9 (.tmp 25), none⟩,
 ⟨(some 27), .index 9 (.tmp 26) (.const (.int .i64 0)), none⟩,
 ⟨(some 28), .call ⟨.value (.func 197), #[(.tmp 27)], #[5]⟩, none⟩,
 ⟨(some 29), .binOp .neq 3 (.tmp 28) (.const (.int .i64 6)) 3, none⟩] 0)
 (.cond (.tmp 29) (.seq (.reg [] [⟨(some 2), .assign (.const (.int .i64 40)), none⟩] 0)
 (.ret))
 (.skip)))
 (.skip)))))))))
 (.seq (.reg [] [⟨(some 2), .assign (.const (.int .i64 0)), none⟩] 0)
 (.ret)))
def fn222 : MFn := ⟨30, [.tmp 2], m222, .shut⟩
theorem fnOk222 : FnOk Tryz.prog 222 fn222 := ⟨Tryz.f222, _, kpL passing [] [[0], [1], [1, 6], [1], [], [1, 6], [1], [4], [], [1, 6], [1], [], []], Tryz.func222, rfl, by kernel_rfl, by kernel_rfl, by kernel_rfl, by kernel_rfl⟩
/- (*seisin/lex.input).pass -/
def m224_l0 : M :=
 .seq (.seq (.seq (.reg [0] [⟨(some 2), .move (.tmp 0), none⟩,
 ⟨(some 3), .call ⟨.value (.func 227), #[(.tmp 2)], #[328]⟩, none⟩,
 ⟨(some 4), .unOp .not 4 (.tmp 3), none⟩,
 ⟨(some 5), .move (.tmp 4), none⟩,
 ⟨(some 6), .move (.tmp 0), (some (5, true))⟩,
 ⟨(some 7), .nilCheck (.tmp 6), (some (5, true))⟩,
 ⟨(some 8), .fieldAddr 297 (.tmp 7) 0, (some (5, true))⟩,
 ⟨(some 9), .load 9 (.tmp 8), (some (5, true))⟩,
 ⟨(some 10), .move (.tmp 0), (some (5, true))⟩] 9)
 (.seq (.ops [⟨(some 11), .nilCheck (.tmp 10), (some (5, true))⟩])
 (.seq (.again [⟨(some 7), .nilCheck (.tmp 6), (some (5, true))⟩,
 ⟨(some 9), .load 9 (.tmp 8), (some (5, true))⟩])
 (.seq (.ops [⟨(some 12), .fieldAddr 297 (.tmp 11) 1, (some (5, true))⟩])
 (.seq (.again [⟨(some 7), .nilCheck (.tmp 6), (some (5, true))⟩,
 ⟨(some 9), .load 9 (.tmp 8), (some (5, true))⟩])
 (.seq (.ops [⟨(some 13), .load 3 (.tmp 12), (some (5, true))⟩])
 (.seq (.again [⟨(some 7), .nilCheck (.tmp 6), (some (5, true))⟩,
 ⟨(some 9), .load 9 (.tmp 8), (some (5, true))⟩])
 (.seq (.ops [⟨(some 14), .index 9 (.tmp 9) (.tmp 13), (some (5, true))⟩])
 (.seq (.again [])
 (.seq (.ops [⟨(some 15), .call ⟨.value (.func 197), #[(.tmp 14)], #[5]⟩, (some (5, true))⟩])
 (.seq (.again [])
 (.seq (.ops [⟨(some 16), .binOp .eql 3 (.tmp 15) (.const (.int .i64 1)) 3, (some (5, true))⟩])
 (.seq (.again [])
 (.seq (.ops [⟨(some 17), .pick (.tmp 5) (.tmp 16) (.const (.bool false)), none⟩])
 (.seq (.again [])
 (.skip))))))))))))))))
 (.cond (.tmp 17) (.skip)
 (.exit 0)))
 (.block 1 (.reg [0] [⟨(some 18), .move (.tmp 0), none⟩,
 ⟨(some 19), .nilCheck (.tmp 18), none⟩,
 ⟨(some 20), .fieldAddr 297 (.tmp 19) 1, none⟩,
 ⟨(some 21), .load 3 (.tmp 20), none⟩,
 ⟨(some 22), .binOp .add 3 (.tmp 21) (.const (.int .i64 1)) 3, none⟩,
 ⟨(some 23), .nilCheck (.tmp 18), none⟩,
 ⟨(some 24), .fieldAddr 297 (.tmp 23) 1, none⟩,
 ⟨none, .store 3 (.tmp 24) (.tmp 22), none⟩] 0))
def m224_l1 : M :=
 .seq (.seq (.reg [0] [⟨(some 40), .move (.tmp 0), none⟩,
 ⟨(some 41), .call ⟨.value (.func 225), #[(.tmp 40)], #[328]⟩, none⟩,
 ⟨(some 42), .unOp .not 4 (.tmp 41), none⟩] 0)
 (.cond (.tmp 42) (.skip)
 (.exit 2)))
 (.block 3 (.reg [0] [⟨(some 43), .move (.tmp 0), none⟩,
 ⟨(some 44), .nilCheck (.tmp 43), none⟩,
 ⟨(some 45), .fieldAddr 297 (.tmp 44) 1, none⟩,
 ⟨(some 46), .load 3 (.tmp 45), none⟩,
 ⟨(some 47), .binOp .add 3 (.tmp 46) (.const (.int .i64 1)) 3, none⟩,
 ⟨(some 48), .nilCheck (.tmp 43), none⟩,
 ⟨(some 49), .fieldAddr 297 (.tmp 48) 1, none⟩,
 ⟨none, .store 3 (.tmp 49) (.tmp 47), none⟩] 0))
def m224 : M :=
 .seq (.block 0 (.loop (m224_l0)))
 (.seq (.seq (.seq (.reg [0] [⟨(some 25), .move (.tmp 0), none⟩,
 ⟨(some 26), .call ⟨.value (.func 227), #[(.tmp 25)], #[328]⟩, none⟩,
 ⟨(some 27), .move (.tmp 26), none⟩,
 ⟨(some 28), .move (.tmp 0), (some (27, false))⟩,
 ⟨(some 29), .nilCheck (.tmp 28), (some (27, false))⟩,
 ⟨(some 30), .fieldAddr 297 (.tmp 29) 0, (some (27, false))⟩,
 ⟨(some 31), .load 9 (.tmp 30), (some (27, false))⟩,
 ⟨(some 32), .move (.tmp 0), (some (27, false))⟩] 8)
 (.seq (.ops [⟨(some 33), .nilCheck (.tmp 32), (some (27, false))⟩])
 (.seq (.again [⟨(some 29), .nilCheck (.tmp 28), (some (27, false))⟩,
 ⟨(some 31), .load 9 (.tmp 30), (some (27, false))⟩])
 (.seq (.ops [⟨(some 34), .fieldAddr 297 (.tmp 33) 1, (some (27, false))⟩])
 (.seq (.again [⟨(some 29), .nilCheck (.tmp 28), (some (27, false))⟩,
 ⟨(some 31), .load 9 (.tmp 30), (some (27, false))⟩])
 (.seq (.ops [⟨(some 35), .load 3 (.tmp 34), (some (27, false))⟩])
 (.seq (.again [⟨(some 29), .nilCheck (.tmp 28), (some (27, false))⟩,
 ⟨(some 31), .load 9 (.tmp 30), (some (27, false))⟩])
 (.seq (.ops [⟨(some 36), .index 9 (.tmp 31) (.tmp 35), (some (27, false))⟩])
 (.seq (.again [])
 (.seq (.ops [⟨(some 37), .call ⟨.value (.func 197), #[(.tmp 36)], #[5]⟩, (some (27, false))⟩])
 (.seq (.again [])
 (.seq (.ops [⟨(some 38), .binOp .neq 3 (.tmp 37) (.const (.int .i64 7)) 3, (some (27, false))⟩])
 (.seq (.again [])
 (.seq (.ops [⟨(some 39), .pick (.tmp 27) (.const (.bool true)) (.tmp 38), none⟩])
 (.seq (.again [])
 (.skip))))))))))))))))
 (.cond (.tmp 39) (.ret)
 (.skip)))
 (.block 2 (.loop (m224_l1))))
def fn224 : MFn := ⟨50, [], m224, .pass⟩
theorem fnOk224 : FnOk Tryz.prog 224 fn224 := ⟨Tryz.f224, _, kpL passing [] [[0], [0], [0], [0], [0]], Tryz.func224, rfl, by kernel_rfl, by kernel_rfl, by kernel_rfl, by kernel_rfl⟩
/- (*seisin/lex.input).atEnd -/
def m225 : M :=
 .seq (.reg [0] [⟨(some 2), .assign (.const (.bool false)), none⟩] 0)
 (.seq (.seq (.reg [0] [⟨(some 3), .move (.tmp 0), none⟩,
 ⟨(some 4), .call ⟨.value (.func 227), #[(.tmp 3)], #[328]⟩, none⟩,
 ⟨(some 5), .move (.tmp 4), none⟩,
 ⟨(some 6), .move (.tmp 0), (some (5, false))⟩,
 ⟨(some 7), .nilCheck (.tmp 6), (some (5, false))⟩,
 ⟨(some 8), .fieldAddr 297 (.tmp 7) 0, (some (5, false))⟩,
 ⟨(some 9), .load 9 (.tmp 8), (some (5, false))⟩,
 ⟨(some 10), .move (.tmp 0), (some (5, false))⟩] 8)
 (.seq (.ops [⟨(some 11), .nilCheck (.tmp 10), (some (5, false))⟩])
 (.seq (.again [⟨(some 7), .nilCheck (.tmp 6), (some (5, false))⟩,
 ⟨(some 9), .load 9 (.tmp 8), (some (5, false))⟩])
 (.seq (.ops [⟨(some 12), .fieldAddr 297 (.tmp 11) 1, (some (5, false))⟩])
 (.seq (.again [⟨(some 7), .nilCheck (.tmp 6), (some (5, false))⟩,
 ⟨(some 9), .load 9 (.tmp 8), (some (5, false))⟩])
 (.seq (.ops [⟨(some 13), .load 3 (.tmp 12), (some (5, false))⟩])
 (.seq (.again [⟨(some 7), .nilCheck (.tmp 6), (some (5, false))⟩,
 ⟨(some 9), .load 9 (.tmp 8), (some (5, false))⟩])
 (.seq (.ops [⟨(some 14), .index 9 (.tmp 9) (.tmp 13), (some (5, false))⟩])
 (.seq (.again [])
 (.seq (.ops [⟨(some 15), .call ⟨.value (.func 197), #[(.tmp 14)], #[5]⟩, (some (5, false))⟩])
 (.seq (.again [])
 (.seq (.ops [⟨(some 16), .binOp .eql 3 (.tmp 15) (.const (.int .i64 2)) 3, (some (5, false))⟩])
 (.seq (.again [])
 (.seq (.ops [⟨(some 17), .pick (.tmp 5) (.const (.bool true)) (.tmp 16), none⟩])
 (.seq (.again [])
 (.seq (.ops [⟨(some 2), .assign (.tmp 17), none⟩])
 (.seq (.again [])
 (.skip))))))))))))))))))
 (.ret))
def fn225 : MFn := ⟨18, [.tmp 2], m225, .pass⟩
theorem fnOk225 : FnOk Tryz.prog 225 fn225 := ⟨Tryz.f225, _, kpL passing [] [[0], [0]], Tryz.func225, rfl, by kernel_rfl, by kernel_rfl, by kernel_rfl, by kernel_rfl⟩
/- (*seisin/lex.scanner).token -/
def m226 : M :=
 .seq (.reg [0] [⟨(some 2), .alloc 275, none⟩] 0)
 (.seq (.reg [0, 2] [⟨(some 3), .assign (.const (.int .u8 3)), none⟩,
 ⟨(some 4), .assign (.func 229), none⟩] 0)
 (.seq (.seq (.reg [0, 2, 3, 4] [⟨(some 6), .move (.tmp 0), none⟩,
 ⟨(some 7), .nilCheck (.tmp 6), none⟩,
 ⟨(some 8), .fieldAddr 299 (.tmp 7) 0, none⟩,
 ⟨(some 9), .fieldAddr 297 (.tmp 8) 0, none⟩,
 ⟨(some 10), .load 9 (.tmp 9), none⟩,
 ⟨(some 11), .move (.tmp 0), none⟩,
 ⟨(some 12), .nilCheck (.tmp 11), none⟩,
 ⟨(some 13), .fieldAddr 299 (.tmp 12) 0, none⟩,
 ⟨(some 14), .fieldAddr 297 (.tmp 13) 1, none⟩,
 ⟨(some 15), .load 3 (.tmp 14), none⟩,
 ⟨(some 16), .index 9 (.tmp 10) (.tmp 15), none⟩,
 ⟨(some 17), .call ⟨.value (.func 197), #[(.tmp 16)], #[5]⟩, none⟩] 10)
 (.block 0 (.seq (.reg [0, 2, 3, 4, 17] [⟨(some 19), .binOp .eql 3 (.tmp 17) (.const (.int .i64 3)) 3, none⟩,
 ⟨(some 18), .assign (.tmp 19), none⟩] 0)
 (.cond (.tmp 18) (.reg [0, 2] [⟨(some 3), .assign (.const (.int .u8 1)), none⟩,
 ⟨(some 4), .assign (.func 230), none⟩] 0)
 (.seq (.reg [0, 2, 3, 4, 17] [⟨(some 21), .binOp .eql 3 (.tmp 17) (.const (.int .i64 4)) 3, none⟩,
 ⟨(some 20), .assign (.tmp 21), none⟩] 0)
 (.cond (.tmp 20) (.reg [0, 2] [⟨(some 3), .assign (.const (.int .u8 2)), none⟩,
 ⟨(some 4), .assign (.func 231), none⟩] 0)
 (.skip)))))))
 (.seq (.reg [0, 2, 3, 4] [⟨(some 22), .move (.tmp 0), none⟩,
 ⟨(some 23), .nilCheck (.tmp 22), none⟩,
 ⟨(some 24), .fieldAddr 299 (.tmp 23) 0, none⟩,
 ⟨(some 25), .fieldAddr 297 (.tmp 24) 1, none⟩,
 ⟨(some 26), .load 3 (.tmp 25), none⟩,
 ⟨(some 5), .assign (.tmp 26), none⟩] 0)
 (.seq (.reg [0, 2, 3, 4, 5] [⟨(some 27), .move (.tmp 0), none⟩,
 ⟨(some 28), .move (.tmp 4), none⟩,
 ⟨(some 29), .move (.tmp 0), none⟩,
 ⟨(some 30), .nilCheck (.tmp 29), none⟩,
 ⟨(some 31), .fieldAddr 299 (.tmp 30) 0, none⟩,
 ⟨(some 32), .call ⟨.value (.tmp 28), #[(.tmp 31)], #[328]⟩, none⟩,
 ⟨(some 33), .nilCheck (.tmp 27), none⟩,
 ⟨(some 34), .fieldAddr 299 (.tmp 33) 0, none⟩,
 ⟨(some 35), .fieldAddr 297 (.tmp 34) 1, none⟩,
 ⟨none, .store 3 (.tmp 35) (.tmp 32), none⟩] 0)
 (.seq (.reg [0, 2, 3, 5] [⟨(some 36), .move (.tmp 3), none⟩,
 ⟨(some 37), .move (.tmp 0), none⟩,
 ⟨(some 38), .nilCheck (.tmp 37), none⟩,
 ⟨(some 39), .fieldAddr 299 (.tmp 38) 0, none⟩,
 ⟨(some 40), .fieldAddr 297 (.tmp 39) 0, none⟩,
 ⟨(some 41), .load 9 (.tmp 40), none⟩,
 ⟨(some 42), .move (.tmp 5), none⟩,
 ⟨(some 43), .move (.tmp 0), none⟩,
 ⟨(some 44), .nilCheck (.tmp 43), none⟩,
 ⟨(some 45), .fieldAddr 299 (.tmp 44) 0, none⟩,
 ⟨(some 46), .fieldAddr 297 (.tmp 45) 1, none⟩,
 ⟨(some 47), .load 3 (.tmp 46), none⟩,
 ⟨(some 48), .slice 9 (.tmp 41) (some (.tmp 42)) (some (.tmp 47)) none, none⟩,
 ⟨(some 49), .move (.tmp 5), none⟩,
 ⟨(some 50), .build 275 #[(0, (.tmp 36)), (1, (.tmp 48)), (2, (.tmp 49))], none⟩,
 ⟨none, .store 275 (.tmp 2) (.tmp 50), none⟩] 14)
 (.ret))))))
def fn226 : MFn := ⟨51, [.cell 2 275], m226, .pass⟩
theorem fnOk226 : FnOk Tryz.prog 226 fn226 := ⟨Tryz.f226, _, kpL passing [] [[0], [0, 2], [0, 2, 3, 4], [0, 2, 3, 4, 17], [0, 2], [0, 2, 3, 4, 17], [0, 2], [0, 2, 3, 4], [0, 2, 3, 4, 5], [0, 2, 3, 5]], Tryz.func226, rfl, by kernel_rfl, by kernel_rfl, by kernel_rfl, by kernel_rfl⟩
/- (*seisin/lex.input).over -/
def m227 : M :=
 .seq (.reg [0] [⟨(some 2), .assign (.const (.bool false)), none⟩] 0)
 (.seq (.reg [0] [⟨(some 3), .move (.tmp 0), none⟩,
 ⟨(some 4), .nilCheck (.tmp 3), none⟩,
 ⟨(some 5), .fieldAddr 297 (.tmp 4) 1, none⟩,
 ⟨(some 6), .load 3 (.tmp 5), none⟩,
 ⟨(some 7), .move (.tmp 0), none⟩,
 ⟨(some 8), .nilCheck (.tmp 7), none⟩,
 ⟨(some 9), .fieldAddr 297 (.tmp 8) 0, none⟩,
 ⟨(some 10), .load 9 (.tmp 9), none⟩,
 ⟨(some 11), .call ⟨.builtin .len, #[(.tmp 10)], #[9]⟩, none⟩,
 ⟨(some 12), .binOp .geq 3 (.tmp 6) (.tmp 11) 3, none⟩,
 ⟨(some 2), .assign (.tmp 12), none⟩] 9)
 (.ret))
def fn227 : MFn := ⟨13, [.tmp 2], m227, .pass⟩
theorem fnOk227 : FnOk Tryz.prog 227 fn227 := ⟨Tryz.f227, _, kpL passing [] [[0], [0]], Tryz.func227, rfl, by kernel_rfl, by kernel_rfl, by kernel_rfl, by kernel_rfl⟩
/- (*seisin/lex.input).wordEnd -/
def m230_l0 : M :=
 .seq (.seq (.reg [0, 3] [⟨(some 9), .move (.tmp 3), none⟩,
 ⟨(some 10), .move (.tmp 0), none⟩,
 ⟨(some 11), .nilCheck (.tmp 10), none⟩,
 ⟨(some 12), .fieldAddr 297 (.tmp 11) 0, none⟩,
 ⟨(some 13), .load 9 (.tmp 12), none⟩,
 ⟨(some 14), .call ⟨.builtin .len, #[(.tmp 13)], #[9]⟩, none⟩,
 ⟨(some 15), .binOp .lss 3 (.tmp 9) (.tmp 14) 3, none⟩,
 ⟨(some 16), .move (.tmp 15), none⟩,
 ⟨(some 17), .move (.tmp 0), (some (16, true))⟩,
 ⟨(some 18), .nilCheck (.tmp 17), (some (16, true))⟩,
 ⟨(some 19), .fieldAddr 297 (.tmp 18) 0, (some (16, true))⟩,
 ⟨(some 20), .load 9 (.tmp 19), (some (16, true))⟩,
 ⟨(some 21), .move (.tmp 3), (some (16, true))⟩,
 ⟨(some 22), .index 9 (.tmp 20) (.tmp 21), (some (16, true))⟩,
 ⟨(some 23), .call ⟨.value (.func 199), #[(.tmp 22)], #[5]⟩, (some (16, true))⟩,
 ⟨(some 24), .pick (.tmp 16) (.tmp 23) (.const (.bool false)), none⟩] 0)
 (.cond (.tmp 24) (.skip)
 (.exit 0)))
 (.block 1 (.reg [0, 3] [⟨(some 25), .move (.tmp 3), none⟩,
 ⟨(some 26), .binOp .add 3 (.tmp 25) (.const (.int .i64 1)) 3, none⟩,
 ⟨(some 3), .assign (.tmp 26), none⟩] 0))
def m230 : M :=
 .seq (.reg [0] [⟨(some 2), .assign (.const (.int .i64 0)), none⟩] 0)
 (.seq (.reg [0] [⟨(some 4), .move (.tmp 0), none⟩,
 ⟨(some 5), .nilCheck (.tmp 4), none⟩,
 ⟨(some 6), .fieldAddr 297 (.tmp 5) 1, none⟩,
 ⟨(some 7), .load 3 (.tmp 6), none⟩,
 ⟨(some 8), .binOp .add 3 (.tmp 7) (.const (.int .i64 1)) 3, none⟩,
 ⟨(some 3), .assign (.tmp 8), none⟩] 0)
 (.seq (.block 0 (.loop (m230_l0)))
 (.seq (.reg [3] [⟨(some 27), .move (.tmp 3), none⟩,
 ⟨(some 2), .assign (.tmp 27), none⟩] 0)
 (.ret))))
def fn230 : MFn := ⟨28, [.tmp 2], m230, .pass⟩
theorem fnOk230 : FnOk Tryz.prog 230 fn230 := ⟨Tryz.f230, _, kpL passing [] [[0], [0], [0, 3], [0, 3], [3]], Tryz.func230, rfl, by kernel_rfl, by kernel_rfl, by kernel_rfl, by kernel_rfl⟩
/- seisin/seisinlaw32.InvOrder -/
def m4_l0 : M :=
 .seq (.reg [2, 3, 7, 8, 31, 32, 33] [⟨(some 34), .binOp .lss 3 (.tmp 33) (.tmp 32) 3, none⟩] 0)
 (.seq (.cond (.tmp 34) (.skip)
 (.exit 0))
 (.seq (.block 1 (.seq (.reg [2, 3, 7, 8, 31, 32, 33] [⟨(some 35), .indexAddr 45 (.tmp 31) (.tmp 33), none⟩,
 ⟨(some 36), .load 52 (.tmp 35), none⟩,
 ⟨(some 10), .alloc 52, none⟩,
 ⟨none, .store 52 (.tmp 10) (.tmp 36), none⟩] 0)
 (.seq (.reg [2, 3, 7, 8, 10, 31, 32, 33] [⟨(some 37), .fieldAddr 52 (.tmp 10) 0, none⟩,
 ⟨(some 38), .load 5 (.tmp 37), none⟩,
 ⟨(some 39), .convert 5 3 (.tmp 38), none⟩,
 ⟨(some 40), .fieldAddr 44 (.tmp 3) 1, none⟩,
 ⟨(some 41), .fieldAddr 31 (.tmp 40) 0, none⟩,
 ⟨(some 42), .load 3 (.tmp 41), none⟩,
 ⟨(some 43), .call ⟨.builtin .min, #[(.tmp 42), (.const (.int .i64 200))], #[3, 3]⟩, none⟩,
 ⟨(some 44), .binOp .rem 3 (.tmp 39) (.tmp 43) 3, none⟩,
 ⟨(some 45), .convert 3 5 (.tmp 44), none⟩,
 ⟨(some 46), .fieldAddr 52 (.tmp 10) 0, none⟩,
 ⟨none, .store 5 (.tmp 46) (.tmp 45), none⟩] 0)
 (.seq (.reg [2, 3, 7, 8, 10, 31, 32, 33] [⟨(some 47), .fieldAddr 52 (.tmp 10) 1, none⟩,
 ⟨(some 48), .fieldAddr 50 (.tmp 47) 1, none⟩,
 ⟨(some 49), .load 5 (.tmp 48), none⟩,
 ⟨(some 50), .binOp .rem 5 (.tmp 49) (.const (.int .u8 6)) 5, none⟩,
 ⟨(some 51), .fieldAddr 52 (.tmp 10) 1, none⟩,
 ⟨(some 52), .fieldAddr 50 (.tmp 51) 1, none⟩,
 ⟨none, .store 5 (.tmp 52) (.tmp 50), none⟩] 0)
 (.seq (.reg [2, 3, 7, 8, 10, 31, 32, 33] [⟨(some 53), .build 53 #[(0, (.const (.int .u8 1))), (1, (.const (.int .u8 2))), (2, (.const (.int .u8 4))), (3, (.const (.int .u8 5))), (4, (.const (.int .u8 6)))], none⟩,
 ⟨(some 54), .fieldAddr 52 (.tmp 10) 1, none⟩,
 ⟨(some 55), .fieldAddr 50 (.tmp 54) 0, none⟩,
 ⟨(some 56), .load 5 (.tmp 55), none⟩,
 ⟨(some 57), .binOp .rem 5 (.tmp 56) (.const (.int .u8 5)) 5, none⟩,
 ⟨(some 58), .index 53 (.tmp 53) (.tmp 57), none⟩,
 ⟨(some 59), .fieldAddr 52 (.tmp 10) 1, none⟩,
 ⟨(some 60), .fieldAddr 50 (.tmp 59) 0, none⟩,
 ⟨none, .store 5 (.tmp 60) (.tmp 58), none⟩] 0)
 (.seq (.reg [2, 3, 7, 8, 10, 31, 32, 33] [⟨(some 61), .fieldAddr 52 (.tmp 10) 1, none⟩,
 ⟨(some 62), .fieldAddr 50 (.tmp 61) 1, none⟩,
 ⟨(some 63), .load 5 (.tmp 62), none⟩,
 ⟨(some 64), .indexAddr 48 (.tmp 7) (.tmp 63), none⟩,
 ⟨(some 65), .load 5 (.tmp 64), none⟩,
 ⟨(some 66), .fieldAddr 52 (.tmp 10) 2, none⟩,
 ⟨none, .store 5 (.tmp 66) (.tmp 65), none⟩] 0)
 (.seq (.reg [2, 3, 7, 8, 10, 31, 32, 33] [⟨(some 67), .fieldAddr 52 (.tmp 10) 1, none⟩,
 ⟨(some 68), .load 50 (.tmp 67), none⟩,
 ⟨(some 69), .fieldAddr 52 (.tmp 10) 2, none⟩,
 ⟨(some 70), .load 5 (.tmp 69), none⟩,
 ⟨(some 71), .call ⟨.value (.func 9), #[(.tmp 68), (.tmp 70)], #[50, 5]⟩, none⟩,
 ⟨(some 72), .fieldAddr 52 (.tmp 10) 3, none⟩,
 ⟨none, .store 5 (.tmp 72) (.tmp 71), none⟩] 0)
 (.seq (.reg [2, 3, 7, 8, 10, 31, 32, 33] [⟨(some 73), .fieldAddr 52 (.tmp 10) 1, none⟩,
 ⟨(some 74), .fieldAddr 50 (.tmp 73) 1, none⟩,
 ⟨(some 75), .load 5 (.tmp 74), none⟩,
 ⟨(some 76), .fieldAddr 52 (.tmp 10) 3, none⟩,
 ⟨(some 77), .load 5 (.tmp 76), none⟩,
 ⟨(some 78), .indexAddr 48 (.tmp 7) (.tmp 75), none⟩,
 ⟨none, .store 5 (.tmp 78) (.tmp 77), none⟩] 0)
 (.reg [2, 3, 7, 8, 10, 31, 32, 33] [⟨(some 79), .move (.tmp 8), none⟩,
 ⟨(some 80), .load 52 (.tmp 10), none⟩,
 ⟨(some 81), .buildSlice 45 1 #[(0, (.tmp 80))], none⟩,
 ⟨(some 82), .call ⟨.builtin .append, #[(.tmp 79), (.tmp 81)], #[45, 45]⟩, none⟩,
 ⟨(some 8), .assign (.tmp 82), none⟩] 0)))))))))
 (.reg [2, 3, 7, 8, 31, 32, 33] [⟨(some 83), .binOp .add 3 (.tmp 33) (.const (.int .i64 1)) 3, none⟩,
 ⟨(some 33), .move (.tmp 83), none⟩] 0)))
def m4_l1 : M :=
 .seq (.reg [3, 8, 11, 100, 101] [⟨(some 102), .binOp .lss 3 (.tmp 101) (.const (.int .i64 6)) 3, none⟩] 0)
 (.seq (.cond (.tmp 102) (.skip)
 (.exit 2))
 (.seq (.block 3 (.seq (.reg [3, 8, 11, 100, 101] [⟨(some 103), .move (.tmp 101), none⟩,
 ⟨(some 104), .index 48 (.tmp 100) (.tmp 101), none⟩,
 ⟨(some 12), .assign (.tmp 103), none⟩,
 ⟨(some 13), .assign (.tmp 104), none⟩] 0)
 (.seq (.reg [3, 8, 11, 12, 13, 100, 101] [⟨(some 105), .move (.tmp 12), none⟩,
 ⟨(some 106), .convert 3 5 (.tmp 105), none⟩,
 ⟨(some 107), .build 50 #[(0, (.const (.int .u8 1))), (1, (.tmp 106))], none⟩,
 ⟨(some 108), .move (.tmp 13), none⟩,
 ⟨(some 109), .move (.tmp 13), none⟩,
 ⟨(some 110), .build 52 #[(1, (.tmp 107)), (2, (.tmp 108)), (3, (.tmp 109))], none⟩,
 ⟨(some 14), .alloc 52, none⟩,
 ⟨none, .store 52 (.tmp 14) (.tmp 110), none⟩] 0)
 (.seq (.reg [3, 8, 11, 14, 100, 101] [⟨(some 111), .load 52 (.tmp 14), none⟩,
 ⟨(some 15), .alloc 52, none⟩,
 ⟨none, .store 52 (.tmp 15) (.tmp 111), none⟩] 0)
 (.seq (.reg [3, 8, 11, 14, 15, 100, 101] [⟨(some 112), .fieldAddr 52 (.tmp 15) 2, none⟩,
 ⟨(some 113), .load 5 (.tmp 112), none⟩,
 ⟨(some 114), .binOp .add 5 (.tmp 113) (.const (.int .u8 1)) 5, none⟩,
 ⟨(some 115), .fieldAddr 52 (.tmp 15) 2, none⟩,
 ⟨none, .store 5 (.tmp 115) (.tmp 114), none⟩] 0)
 (.seq (.seq (.reg [3, 8, 11, 14, 15, 100, 101] [⟨(some 116), .load 44 (.tmp 3), none⟩,
 ⟨(some 117), .buildSlice 45 0 #[], none⟩,
 ⟨(some 118), .move (.tmp 8), none⟩,
 ⟨(some 119), .call ⟨.builtin .append, #[(.tmp 117), (.tmp 118)], #[45, 45]⟩, none⟩,
 ⟨(some 120), .load 52 (.tmp 14), none⟩,
 ⟨(some 121), .buildSlice 45 1 #[(0, (.tmp 120))], none⟩,
 ⟨(some 122), .call ⟨.builtin .append, #[(.tmp 119), (.tmp 121)], #[45, 45]⟩, none⟩,
 ⟨(some 123), .call ⟨.value (.func 6), #[(.tmp 116), (.tmp 122)], #[44, 45]⟩, none⟩,
 ⟨(some 124), .unOp .not 4 (.tmp 123), none⟩,
 ⟨(some 125), .move (.tmp 124), none⟩,
 ⟨(some 126), .load 44 (.tmp 3), (some (125, false))⟩,
 ⟨(some 127), .buildSlice 45 0 #[], (some (125, false))⟩,
 ⟨(some 128), .move (.tmp 8), (some (125, false))⟩,
 ⟨(some 129), .call ⟨.builtin .append, #[(.tmp 127), (.tmp 128)], #[45, 45]⟩, (some (125, false))⟩] 14)
 (.seq (.ops [⟨(some 130), .load 52 (.tmp 15), (some (125, false))⟩])
 (.seq (.again [⟨(some 126), .load 44 (.tmp 3), (some (125, false))⟩,
 ⟨(some 127), .buildSlice 45 0 #[], (some (125, false))⟩,
 ⟨(some 129), .call ⟨.builtin .append, #[(.tmp 127), (.tmp 128)], #[45, 45]⟩, (some (125, false))⟩])
 (.seq (.ops [⟨(some 131), .buildSlice 45 1 #[(0, (.tmp 130))], (some (125, false))⟩])
 (.seq (.again [⟨(some 126), .load 44 (.tmp 3), (some (125, false))⟩,
 ⟨(some 127), .buildSlice 45 0 #[], (some (125, false))⟩,
 ⟨(some 129), .call ⟨.builtin .append, #[(.tmp 127), (.tmp 128)], #[45, 45]⟩, (some (125, false))⟩])
 (.seq (.ops [⟨(some 132), .call ⟨.builtin .append, #[(.tmp 129), (.tmp 131)], #[45, 45]⟩, (some (125, false))⟩])
 (.seq (.again [⟨(some 126), .load 44 (.tmp 3), (some (125, false))⟩])
 (.seq (.ops [⟨(some 133), .call ⟨.value (.func 6), #[(.tmp 126), (.tmp 132)], #[44, 45]⟩, (some (125, false))⟩])
 (.seq (.again [])
 (.seq (.ops [⟨(some 134), .pick (.tmp 125) (.const (.bool true)) (.tmp 133), none⟩])
 (.seq (.again [])
 (.skip))))))))))))
 (.cond (.tmp 134) (.seq (.reg [] [⟨(some 6), .assign (.const (.bool false)), none⟩] 0)
 (.ret))
 (.skip))))))))
 (.reg [3, 8, 11, 100, 101] [⟨(some 135), .binOp .add 3 (.tmp 101) (.const (.int .i64 1)) 3, none⟩,
 ⟨(some 101), .move (.tmp 135), none⟩] 0)))
theorem u4_l0 {C : Ctx} {k : List It} {st : St} {Q : Ex → St → Prop} : RunK C (.code m4_l0 :: k) st Q ↔ RunK C (.code (.seq (.reg [2, 3, 7, 8, 31, 32, 33] [⟨(some 34), .binOp .lss 3 (.tmp 33) (.tmp 32) 3, none⟩] 0)
 (.seq (.cond (.tmp 34) (.skip)
 (.exit 0))
 (.seq (.block 1 (.seq (.reg [2, 3, 7, 8, 31, 32, 33] [⟨(some 35), .indexAddr 45 (.tmp 31) (.tmp 33), none⟩,
 ⟨(some 36), .load 52 (.tmp 35), none⟩,
 ⟨(some 10), .alloc 52, none⟩,
 ⟨none, .store 52 (.tmp 10) (.tmp 36), none⟩] 0)
 (.seq (.reg [2, 3, 7, 8, 10, 31, 32, 33] [⟨(some 37), .fieldAddr 52 (.tmp 10) 0, none⟩,
 ⟨(some 38), .load 5 (.tmp 37), none⟩,
 ⟨(some 39), .convert 5 3 (.tmp 38), none⟩,
 ⟨(some 40), .fieldAddr 44 (.tmp 3) 1, none⟩,
 ⟨(some 41), .fieldAddr 31 (.tmp 40) 0, none⟩,
 ⟨(some 42), .load 3 (.tmp 41), none⟩,
 ⟨(some 43), .call ⟨.builtin .min, #[(.tmp 42), (.const (.int .i64 200))], #[3, 3]⟩, none⟩,
 ⟨(some 44), .binOp .rem 3 (.tmp 39) (.tmp 43) 3, none⟩,
 ⟨(some 45), .convert 3 5 (.tmp 44), none⟩,
 ⟨(some 46), .fieldAddr 52 (.tmp 10) 0, none⟩,
 ⟨none, .store 5 (.tmp 46) (.tmp 45), none⟩] 0)
 (.seq (.reg [2, 3, 7, 8, 10, 31, 32, 33] [⟨(some 47), .fieldAddr 52 (.tmp 10) 1, none⟩,
 ⟨(some 48), .fieldAddr 50 (.tmp 47) 1, none⟩,
 ⟨(some 49), .load 5 (.tmp 48), none⟩,
 ⟨(some 50), .binOp .rem 5 (.tmp 49) (.const (.int .u8 6)) 5, none⟩,
 ⟨(some 51), .fieldAddr 52 (.tmp 10) 1, none⟩,
 ⟨(some 52), .fieldAddr 50 (.tmp 51) 1, none⟩,
 ⟨none, .store 5 (.tmp 52) (.tmp 50), none⟩] 0)
 (.seq (.reg [2, 3, 7, 8, 10, 31, 32, 33] [⟨(some 53), .build 53 #[(0, (.const (.int .u8 1))), (1, (.const (.int .u8 2))), (2, (.const (.int .u8 4))), (3, (.const (.int .u8 5))), (4, (.const (.int .u8 6)))], none⟩,
 ⟨(some 54), .fieldAddr 52 (.tmp 10) 1, none⟩,
 ⟨(some 55), .fieldAddr 50 (.tmp 54) 0, none⟩,
 ⟨(some 56), .load 5 (.tmp 55), none⟩,
 ⟨(some 57), .binOp .rem 5 (.tmp 56) (.const (.int .u8 5)) 5, none⟩,
 ⟨(some 58), .index 53 (.tmp 53) (.tmp 57), none⟩,
 ⟨(some 59), .fieldAddr 52 (.tmp 10) 1, none⟩,
 ⟨(some 60), .fieldAddr 50 (.tmp 59) 0, none⟩,
 ⟨none, .store 5 (.tmp 60) (.tmp 58), none⟩] 0)
 (.seq (.reg [2, 3, 7, 8, 10, 31, 32, 33] [⟨(some 61), .fieldAddr 52 (.tmp 10) 1, none⟩,
 ⟨(some 62), .fieldAddr 50 (.tmp 61) 1, none⟩,
 ⟨(some 63), .load 5 (.tmp 62), none⟩,
 ⟨(some 64), .indexAddr 48 (.tmp 7) (.tmp 63), none⟩,
 ⟨(some 65), .load 5 (.tmp 64), none⟩,
 ⟨(some 66), .fieldAddr 52 (.tmp 10) 2, none⟩,
 ⟨none, .store 5 (.tmp 66) (.tmp 65), none⟩] 0)
 (.seq (.reg [2, 3, 7, 8, 10, 31, 32, 33] [⟨(some 67), .fieldAddr 52 (.tmp 10) 1, none⟩,
 ⟨(some 68), .load 50 (.tmp 67), none⟩,
 ⟨(some 69), .fieldAddr 52 (.tmp 10) 2, none⟩,
 ⟨(some 70), .load 5 (.tmp 69), none⟩,
 ⟨(some 71), .call ⟨.value (.func 9), #[(.tmp 68), (.tmp 70)], #[50, 5]⟩, none⟩,
 ⟨(some 72), .fieldAddr 52 (.tmp 10) 3, none⟩,
 ⟨none, .store 5 (.tmp 72) (.tmp 71), none⟩] 0)
 (.seq (.reg [2, 3, 7, 8, 10, 31, 32, 33] [⟨(some 73), .fieldAddr 52 (.tmp 10) 1, none⟩,
 ⟨(some 74), .fieldAddr 50 (.tmp 73) 1, none⟩,
 ⟨(some 75), .load 5 (.tmp 74), none⟩,
 ⟨(some 76), .fieldAddr 52 (.tmp 10) 3, none⟩,
 ⟨(some 77), .load 5 (.tmp 76), none⟩,
 ⟨(some 78), .indexAddr 48 (.tmp 7) (.tmp 75), none⟩,
 ⟨none, .store 5 (.tmp 78) (.tmp 77), none⟩] 0)
 (.reg [2, 3, 7, 8, 10, 31, 32, 33] [⟨(some 79), .move (.tmp 8), none⟩,
 ⟨(some 80), .load 52 (.tmp 10), none⟩,
 ⟨(some 81), .buildSlice 45 1 #[(0, (.tmp 80))], none⟩,
 ⟨(some 82), .call ⟨.builtin .append, #[(.tmp 79), (.tmp 81)], #[45, 45]⟩, none⟩,
 ⟨(some 8), .assign (.tmp 82), none⟩] 0)))))))))
 (.reg [2, 3, 7, 8, 31, 32, 33] [⟨(some 83), .binOp .add 3 (.tmp 33) (.const (.int .i64 1)) 3, none⟩,
 ⟨(some 33), .move (.tmp 83), none⟩] 0)))) :: k) st Q := Iff.rfl
theorem u4_l1 {C : Ctx} {k : List It} {st : St} {Q : Ex → St → Prop} : RunK C (.code m4_l1 :: k) st Q ↔ RunK C (.code (.seq (.reg [3, 8, 11, 100, 101] [⟨(some 102), .binOp .lss 3 (.tmp 101) (.const (.int .i64 6)) 3, none⟩] 0)
 (.seq (.cond (.tmp 102) (.skip)
 (.exit 2))
 (.seq (.block 3 (.seq (.reg [3, 8, 11, 100, 101] [⟨(some 103), .move (.tmp 101), none⟩,
 ⟨(some 104), .index 48 (.tmp 100) (.tmp 101), none⟩,
 ⟨(some 12), .assign (.tmp 103), none⟩,
 ⟨(some 13), .assign (.tmp 104), none⟩] 0)
 (.seq (.reg [3, 8, 11, 12, 13, 100, 101] [⟨(some 105), .move (.tmp 12), none⟩,
 ⟨(some 106), .convert 3 5 (.tmp 105), none⟩,
 ⟨(some 107), .build 50 #[(0, (.const (.int .u8 1))), (1, (.tmp 106))], none⟩,
 ⟨(some 108), .move (.tmp 13), none⟩,
 ⟨(some 109), .move (.tmp 13), none⟩,
 ⟨(some 110), .build 52 #[(1, (.tmp 107)), (2, (.tmp 108)), (3, (.tmp 109))], none⟩,
 ⟨(some 14), .alloc 52, none⟩,
 ⟨none, .store 52 (.tmp 14) (.tmp 110), none⟩] 0)
 (.seq (.reg [3, 8, 11, 14, 100, 101] [⟨(some 111), .load 52 (.tmp 14), none⟩,
 ⟨(some 15), .alloc 52, none⟩,
 ⟨none, .store 52 (.tmp 15) (.tmp 111), none⟩] 0)
 (.seq (.reg [3, 8, 11, 14, 15, 100, 101] [⟨(some 112), .fieldAddr 52 (.tmp 15) 2, none⟩,
 ⟨(some 113), .load 5 (.tmp 112), none⟩,
 ⟨(some 114), .binOp .add 5 (.tmp 113) (.const (.int .u8 1)) 5, none⟩,
 ⟨(some 115), .fieldAddr 52 (.tmp 15) 2, none⟩,
 ⟨none, .store 5 (.tmp 115) (.tmp 114), none⟩] 0)
 (.seq (.seq (.reg [3, 8, 11, 14, 15, 100, 101] [⟨(some 116), .load 44 (.tmp 3), none⟩,
 ⟨(some 117), .buildSlice 45 0 #[], none⟩,
 ⟨(some 118), .move (.tmp 8), none⟩,
 ⟨(some 119), .call ⟨.builtin .append, #[(.tmp 117), (.tmp 118)], #[45, 45]⟩, none⟩,
 ⟨(some 120), .load 52 (.tmp 14), none⟩,
 ⟨(some 121), .buildSlice 45 1 #[(0, (.tmp 120))], none⟩,
 ⟨(some 122), .call ⟨.builtin .append, #[(.tmp 119), (.tmp 121)], #[45, 45]⟩, none⟩,
 ⟨(some 123), .call ⟨.value (.func 6), #[(.tmp 116), (.tmp 122)], #[44, 45]⟩, none⟩,
 ⟨(some 124), .unOp .not 4 (.tmp 123), none⟩,
 ⟨(some 125), .move (.tmp 124), none⟩,
 ⟨(some 126), .load 44 (.tmp 3), (some (125, false))⟩,
 ⟨(some 127), .buildSlice 45 0 #[], (some (125, false))⟩,
 ⟨(some 128), .move (.tmp 8), (some (125, false))⟩,
 ⟨(some 129), .call ⟨.builtin .append, #[(.tmp 127), (.tmp 128)], #[45, 45]⟩, (some (125, false))⟩] 14)
 (.seq (.ops [⟨(some 130), .load 52 (.tmp 15), (some (125, false))⟩])
 (.seq (.again [⟨(some 126), .load 44 (.tmp 3), (some (125, false))⟩,
 ⟨(some 127), .buildSlice 45 0 #[], (some (125, false))⟩,
 ⟨(some 129), .call ⟨.builtin .append, #[(.tmp 127), (.tmp 128)], #[45, 45]⟩, (some (125, false))⟩])
 (.seq (.ops [⟨(some 131), .buildSlice 45 1 #[(0, (.tmp 130))], (some (125, false))⟩])
 (.seq (.again [⟨(some 126), .load 44 (.tmp 3), (some (125, false))⟩,
 ⟨(some 127), .buildSlice 45 0 #[], (some (125, false))⟩,
 ⟨(some 129), .call ⟨.builtin .append, #[(.tmp 127), (.tmp 128)], #[45, 45]⟩, (some (125, false))⟩])
 (.seq (.ops [⟨(some 132), .call ⟨.builtin .append, #[(.tmp 129), (.tmp 131)], #[45, 45]⟩, (some (125, false))⟩])
 (.seq (.again [⟨(some 126), .load 44 (.tmp 3), (some (125, false))⟩])
 (.seq (.ops [⟨(some 133), .call ⟨.value (.func 6), #[(.tmp 126), (.tmp 132)], #[44, 45]⟩, (some (125, false))⟩])
 (.seq (.again [])
 (.seq (.ops [⟨(some 134), .pick (.tmp 125) (.const (.bool true)) (.tmp 133), none⟩])
 (.seq (.again [])
 (.skip))))))))))))
 (.cond (.tmp 134) (.seq (.reg [] [⟨(some 6), .assign (.const (.bool false)), none⟩] 0)
 (.ret))
 (.skip))))))))
 (.reg [3, 8, 11, 100, 101] [⟨(some 135), .binOp .add 3 (.tmp 101) (.const (.int .i64 1)) 3, none⟩,
 ⟨(some 101), .move (.tmp 135), none⟩] 0)))) :: k) st Q := Iff.rfl
def m4 : M :=
 .seq (.reg [0, 1, 2] [⟨(some 3), .box 44 (.tmp 0), none⟩,
 ⟨(some 6), .assign (.const (.bool false)), none⟩] 0)
 (.seq (.seq (.reg [1, 2, 3] [⟨(some 17), .fieldAddr 44 (.tmp 3) 1, none⟩,
 ⟨(some 18), .fieldAddr 31 (.tmp 17) 0, none⟩,
 ⟨(some 19), .load 3 (.tmp 18), none⟩,
 ⟨(some 20), .binOp .lss 3 (.tmp 19) (.const (.int .i64 1)) 3, none⟩] 0)
 (.cond (.tmp 20) (.seq (.reg [] [⟨(some 21), .call ⟨.value (.func 8), #[], #[]⟩, none⟩,
 ⟨(some 6), .assign (.tmp 21), none⟩] 0)
 (.ret))
 (.skip)))
 (.seq (.reg [1, 2, 3] [⟨(some 7), .alloc 48, none⟩] 0)
 (.seq (.reg [1, 2, 3, 7] [⟨(some 22), .slice 48 (.tmp 7) none none none, none⟩,
 ⟨(some 23), .fieldAddr 44 (.tmp 3) 0, none⟩,
 ⟨(some 24), .fieldAddr 29 (.tmp 23) 2, none⟩,
 ⟨(some 25), .load 23 (.tmp 24), none⟩,
 ⟨(some 26), .call ⟨.builtin .copy, #[(.tmp 22), (.tmp 25)], #[23, 23]⟩, none⟩] 4)
 (.seq (.reg [1, 2, 3, 7] [⟨(some 8), .assign (.const (.slice none 0 0)), none⟩] 0)
 (.seq (.seq (.reg [1, 2, 3, 7, 8] [⟨(some 27), .move (.tmp 1), none⟩,
 ⟨(some 28), .move (.tmp 1), none⟩,
 ⟨(some 29), .call ⟨.builtin .len, #[(.tmp 28)], #[45]⟩, none⟩,
 ⟨(some 30), .call ⟨.builtin .min, #[(.tmp 29), (.const (.int .i64 60))], #[3, 3]⟩, none⟩,
 ⟨(some 31), .slice 45 (.tmp 27) none (some (.tmp 30)) none, none⟩,
 ⟨(some 32), .call ⟨.builtin .len, #[(.tmp 31)], #[45]⟩, none⟩,
 ⟨(some 33), .move (.const (.int .i64 0)), none⟩] 0)
 (.block 0 (.loop (m4_l0))))
 (.seq (.seq (.reg [2, 3, 7, 8] [⟨(some 84), .load 44 (.tmp 3), none⟩,
 ⟨(some 85), .move (.tmp 8), none⟩,
 ⟨(some 86), .call ⟨.value (.func 6), #[(.tmp 84), (.tmp 85)], #[44, 45]⟩, none⟩,
 ⟨(some 87), .unOp .not 4 (.tmp 86), none⟩] 0)
 (.cond (.tmp 87) (.seq (.reg [] [⟨(some 6), .assign (.const (.bool false)), none⟩] 0)
 (.ret))
 (.skip)))
 (.seq (.reg [2, 3, 7, 8] [⟨(some 88), .move (.tmp 2), none⟩,
 ⟨(some 89), .convert 5 3 (.tmp 88), none⟩,
 ⟨(some 90), .move (.tmp 8), none⟩,
 ⟨(some 91), .call ⟨.builtin .len, #[(.tmp 90)], #[45]⟩, none⟩,
 ⟨(some 92), .binOp .add 3 (.tmp 91) (.const (.int .i64 1)) 3, none⟩,
 ⟨(some 93), .binOp .rem 3 (.tmp 89) (.tmp 92) 3, none⟩,
 ⟨(some 11), .assign (.tmp 93), none⟩] 0)
 (.seq (.seq (.reg [3, 7, 8, 11] [⟨(some 94), .load 44 (.tmp 3), none⟩,
 ⟨(some 95), .move (.tmp 8), none⟩,
 ⟨(some 96), .move (.tmp 11), none⟩,
 ⟨(some 97), .slice 45 (.tmp 95) none (some (.tmp 96)) none, none⟩,
 ⟨(some 98), .call ⟨.value (.func 6), #[(.tmp 94), (.tmp 97)], #[44, 45]⟩, none⟩,
 ⟨(some 99), .unOp .not 4 (.tmp 98), none⟩] 4)
 (.cond (.tmp 99) (.seq (.reg [] [⟨(some 6), .assign (.const (.bool false)), none⟩] 0)
 (.ret))
 (.skip)))
 (.seq (.seq (.reg [3, 7, 8, 11] [⟨(some 100), .load 48 (.tmp 7), none⟩,
 ⟨(some 101), .move (.const (.int .i64 0)), none⟩] 0)
 (.block 2 (.loop (m4_l1))))
 (.seq (.seq (.reg [3, 8, 11] [⟨(some 136), .move (.tmp 11), none⟩,
 ⟨(some 137), .binOp .add 3 (.tmp 136) (.const (.int .i64 1)) 3, none⟩,
 ⟨(some 138), .move (.tmp 8), none⟩,
 ⟨(some 139), .call ⟨.builtin .len, #[(.tmp 138)], #[45]⟩, none⟩,
 ⟨(some 140), .binOp .lss 3 (.tmp 137) (.tmp 139) 3, none⟩,
 ⟨(some 141), .move (.tmp 140), none⟩,
 ⟨(some 142), .move (.tmp 8), (some (141, true))⟩,
 ⟨(some 143), .move (.tmp 11), (some (141, true))⟩,
 ⟨(some 144), .indexAddr 45 (.tmp 142) (.tmp 143), (some (141, true))⟩,
 ⟨(some 145), .fieldAddr 52 (.tmp 144) 1, (some (141, true))⟩,
 ⟨(some 146), .fieldAddr 50 (.tmp 145) 1, (some (141, true))⟩,
 ⟨(some 147), .load 5 (.tmp 146), (some (141, true))⟩,
 ⟨(some 148), .move (.tmp 8), (some (141, true))⟩,
 ⟨(some 149), .move (.tmp 11), (some (141, true))⟩,
 ⟨(some 150), .binOp .add 3 (.tmp 149) (.const (.int .i64 1)) 3, (some (141, true))⟩,
 ⟨(some 151), .indexAddr 45 (.tmp 148) (.tmp 150), (some (141, true))⟩,
 ⟨(some 152), .fieldAddr 52 (.tmp 151) 1, (some (141, true))⟩,
 ⟨(some 153), .fieldAddr 50 (.tmp 152) 1, (some (141, true))⟩,
 ⟨(some 154), .load 5 (.tmp 153), (some (141, true))⟩,
 ⟨(some 155), .binOp .neq 5 (.tmp 147) (.tmp 154) 5, (some (141, true))⟩,
 ⟨(some 156), .pick (.tmp 141) (.tmp 155) (.const (.bool false)), none⟩] 19)
 (.cond (.tmp 156) (.seq (.reg [3, 8, 11] [⟨(some 157), .buildSlice 45 0 #[], none⟩,
 ⟨(some 158), .move (.tmp 8), none⟩,
 ⟨(some 159), .call ⟨.builtin .append, #[(.tmp 157), (.tmp 158)], #[45, 45]⟩, none⟩,
 ⟨(some 16), .assign (.tmp 159), none⟩] 0)
 (.seq (.reg [3, 8, 11, 16] [⟨(some 160), .move (.tmp 16), none⟩,
 ⟨(some 161), .move (.tmp 11), none⟩,
 ⟨(some 162), .move (.tmp 16), none⟩,
 ⟨(some 163), .move (.tmp 11), none⟩,
 ⟨(some 164), .binOp .add 3 (.tmp 163) (.const (.int .i64 1)) 3, none⟩,
 ⟨(some 165), .move (.tmp 8), none⟩,
 ⟨(some 166), .move (.tmp 11), none⟩,
 ⟨(some 167), .binOp .add 3 (.tmp 166) (.const (.int .i64 1)) 3, none⟩,
 ⟨(some 168), .indexAddr 45 (.tmp 165) (.tmp 167), none⟩,
 ⟨(some 169), .load 52 (.tmp 168), none⟩,
 ⟨(some 170), .move (.tmp 8), none⟩,
 ⟨(some 171), .move (.tmp 11), none⟩,
 ⟨(some 172), .indexAddr 45 (.tmp 170) (.tmp 171), none⟩,
 ⟨(some 173), .load 52 (.tmp 172), none⟩,
 ⟨(some 174), .indexAddr 45 (.tmp 160) (.tmp 161), none⟩,
 ⟨none, .store 52 (.tmp 174) (.tmp 169), none⟩,
 ⟨(some 175), .indexAddr 45 (.tmp 162) (.tmp 164), none⟩,
 ⟨none, .store 52 (.tmp 175) (.tmp 173), none⟩] 15)
 (.seq (.reg [3, 16] [⟨(some 176), .load 44 (.tmp 3), none⟩,
 ⟨(some 177), .move (.tmp 16), none⟩,
 ⟨(some 178), .call ⟨.value (.func 6), #[(.tmp 176), (.tmp 177)], #[44, 45]⟩, none⟩,
 ⟨(some 179), .move (.tmp 178), none⟩,
 ⟨(some 180), .call ⟨.value (.func 8), #[], #[]⟩, (some (179, true))⟩,
 ⟨(some 181), .pick (.tmp 179) (.tmp 180) (.const (.bool false)), none⟩,
 ⟨(some 6), .assign (.tmp 181), none⟩] 0)
 (.ret))))
 (.skip)))
 (.seq (.reg [] [⟨(some 182), .call ⟨.value (.func 8), #[], #[]⟩, none⟩,
 ⟨(some 6), .assign (.tmp 182), none⟩] 0)
 (.ret))))))))))))
def fn4 : MFn := ⟨183, [.tmp 6], m4, .shut⟩
theorem fnOk4 : FnOk Tryz.prog 4 fn4 := ⟨Tryz.f4, _, kpL passing [] [[0, 1, 2], [1, 2, 3], [], [1, 2, 3], [1, 2, 3, 7], [1, 2, 3, 7], [1, 2, 3, 7, 8], [2, 3, 7, 8, 31, 32, 33], [2, 3, 7, 8, 31, 32, 33], [2, 3, 7, 8, 10, 31, 32, 33], [2, 3, 7, 8, 10, 31, 32, 33], [2, 3, 7, 8, 10, 31, 32, 33], [2, 3, 7, 8, 10, 31, 32, 33], [2, 3, 7, 8, 10, 31, 32, 33], [2, 3, 7, 8, 10, 31, 32, 33], [2, 3, 7, 8, 10, 31, 32, 33], [2, 3, 7, 8, 31, 32, 33], [2, 3, 7, 8], [], [2, 3, 7, 8], [3, 7, 8, 11], [], [3, 7, 8, 11], [3, 8, 11, 100, 101], [3, 8, 11, 100, 101], [3, 8, 11, 12, 13, 100, 101], [3, 8, 11, 14, 100, 101], [3, 8, 11, 14, 15, 100, 101], [3, 8, 11, 14, 15, 100, 101], [], [3, 8, 11, 100, 101], [3, 8, 11], [3, 8, 11], [3, 8, 11, 16], [3, 16], []], Tryz.func4, rfl, by kernel_rfl, by kernel_rfl, by kernel_rfl, by kernel_rfl⟩
end Go.Proofs.YtnhknhniemfnjaaGreatDoor.Ev
