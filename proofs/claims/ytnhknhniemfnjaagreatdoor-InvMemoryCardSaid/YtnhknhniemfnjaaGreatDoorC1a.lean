/- The evaluator's context: types and bodies, and that they are the program's. Printed by wip/ev/gen/ctx.py. -/
import Derived.Test.YtnhknhniemfnjaaGreatDoorX0
import Derived.Test.YtnhknhniemfnjaaGreatDoorChecked
set_option linter.unusedSimpArgs false
set_option linter.unusedVariables false
namespace Go.Proofs.YtnhknhniemfnjaaGreatDoor.Ev
open Go Go.RowKit
set_option maxRecDepth 100000

def ty3 : Ty := ⟨(.int .i64), 1, 8, [(.int .i64 0)], true⟩
theorem tyOk3 : tyOf Tryz.prog 3 = some ty3 := by kernel_rfl
def ty4 : Ty := ⟨.bool, 1, 1, [(.bool false)], true⟩
theorem tyOk4 : tyOf Tryz.prog 4 = some ty4 := by kernel_rfl
def ty5 : Ty := ⟨(.int .u8), 1, 1, [(.int .u8 0)], true⟩
theorem tyOk5 : tyOf Tryz.prog 5 = some ty5 := by kernel_rfl
def ty9 : Ty := ⟨.str, 1, 16, [(.string ⟨#[]⟩)], true⟩
theorem tyOk9 : tyOf Tryz.prog 9 = some ty9 := by kernel_rfl
def ty21 : Ty := ⟨(.int .i32), 1, 4, [(.int .i32 0)], true⟩
theorem tyOk21 : tyOf Tryz.prog 21 = some ty21 := by kernel_rfl
def ty22 : Ty := ⟨(.slice 9), 1, 24, [(.slice none 0 0)], true⟩
theorem tyOk22 : tyOf Tryz.prog 22 = some ty22 := by kernel_rfl
def ty23 : Ty := ⟨(.slice 5), 1, 24, [(.slice none 0 0)], true⟩
theorem tyOk23 : tyOf Tryz.prog 23 = some ty23 := by kernel_rfl
def ty24 : Ty := ⟨(.slice 103), 1, 24, [(.slice none 0 0)], true⟩
theorem tyOk24 : tyOf Tryz.prog 24 = some ty24 := by kernel_rfl
def ty25 : Ty := ⟨(.slice 27), 1, 24, [(.slice none 0 0)], true⟩
theorem tyOk25 : tyOf Tryz.prog 25 = some ty25 := by kernel_rfl
def ty27 : Ty := ⟨(.struct [(5, 0, true), (5, 1, true), (5, 2, true), (5, 3, true), (25, 4, true)]), 5, 32, [(.int .u8 0), (.int .u8 0), (.int .u8 0), (.int .u8 0), (.slice none 0 0)], true⟩
theorem tyOk27 : tyOf Tryz.prog 27 = some ty27 := by kernel_rfl
def ty29 : Ty := ⟨(.struct [(9, 0, true), (22, 1, true), (23, 2, true), (24, 3, true), (5, 4, true), (27, 5, true)]), 10, 128, [(.string ⟨#[]⟩), (.slice none 0 0), (.slice none 0 0), (.slice none 0 0), (.int .u8 0), (.int .u8 0), (.int .u8 0), (.int .u8 0), (.int .u8 0), (.slice none 0 0)], true⟩
theorem tyOk29 : tyOf Tryz.prog 29 = some ty29 := by kernel_rfl
def ty31 : Ty := ⟨(.struct [(3, 0, true), (3, 1, true), (3, 2, true), (3, 3, true), (3, 4, true)]), 5, 40, [(.int .i64 0), (.int .i64 0), (.int .i64 0), (.int .i64 0), (.int .i64 0)], true⟩
theorem tyOk31 : tyOf Tryz.prog 31 = some ty31 := by kernel_rfl
def ty33 : Ty := ⟨(.struct [(5, 0, true), (5, 1, true), (5, 2, true), (3, 3, true), (4, 4, true)]), 5, 24, [(.int .u8 0), (.int .u8 0), (.int .u8 0), (.int .i64 0), (.bool false)], true⟩
theorem tyOk33 : tyOf Tryz.prog 33 = some ty33 := by kernel_rfl
def ty34 : Ty := ⟨(.int .u16), 1, 2, [(.int .u16 0)], true⟩
theorem tyOk34 : tyOf Tryz.prog 34 = some ty34 := by kernel_rfl
def ty36 : Ty := ⟨(.struct [(5, 0, true), (5, 1, true), (34, 2, true)]), 3, 4, [(.int .u8 0), (.int .u8 0), (.int .u16 0)], true⟩
theorem tyOk36 : tyOf Tryz.prog 36 = some ty36 := by kernel_rfl
def ty37 : Ty := ⟨(.array 14 36), 42, 56, (List.replicate 14 ([(.int .u8 0), (.int .u8 0), (.int .u16 0)] : List Value)).flatten, true⟩
theorem tyOk37 : tyOf Tryz.prog 37 = some ty37 := by kernel_rfl
def ty38 : Ty := ⟨(.array 12 37), 504, 672, (List.replicate 168 ([(.int .u8 0), (.int .u8 0), (.int .u16 0)] : List Value)).flatten, true⟩
theorem tyOk38 : tyOf Tryz.prog 38 = some ty38 := by kernel_rfl
def ty39 : Ty := ⟨(.array 5 36), 15, 20, [(.int .u8 0), (.int .u8 0), (.int .u16 0), (.int .u8 0), (.int .u8 0), (.int .u16 0), (.int .u8 0), (.int .u8 0), (.int .u16 0), (.int .u8 0), (.int .u8 0), (.int .u16 0), (.int .u8 0), (.int .u8 0), (.int .u16 0)], true⟩
theorem tyOk39 : tyOf Tryz.prog 39 = some ty39 := by kernel_rfl
def ty40 : Ty := ⟨(.array 4 39), 60, 80, (List.replicate 20 ([(.int .u8 0), (.int .u8 0), (.int .u16 0)] : List Value)).flatten, true⟩
theorem tyOk40 : tyOf Tryz.prog 40 = some ty40 := by kernel_rfl
def ty42 : Ty := ⟨(.struct [(9, 0, true), (38, 1, true), (40, 505, true)]), 565, 768, [(.string ⟨#[]⟩)] ++ (List.replicate 188 ([(.int .u8 0), (.int .u8 0), (.int .u16 0)] : List Value)).flatten, true⟩
theorem tyOk42 : tyOf Tryz.prog 42 = some ty42 := by kernel_rfl
def ty44 : Ty := ⟨(.struct [(29, 0, true), (31, 10, true), (33, 15, true), (42, 20, true)]), 585, 960, [(.string ⟨#[]⟩), (.slice none 0 0), (.slice none 0 0), (.slice none 0 0), (.int .u8 0), (.int .u8 0), (.int .u8 0), (.int .u8 0), (.int .u8 0), (.slice none 0 0), (.int .i64 0), (.int .i64 0), (.int .i64 0), (.int .i64 0), (.int .i64 0), (.int .u8 0), (.int .u8 0), (.int .u8 0), (.int .i64 0), (.bool false), (.string ⟨#[]⟩)] ++ (List.replicate 188 ([(.int .u8 0), (.int .u8 0), (.int .u16 0)] : List Value)).flatten, true⟩
theorem tyOk44 : tyOf Tryz.prog 44 = some ty44 := by kernel_rfl
def ty45 : Ty := ⟨(.slice 52), 1, 24, [(.slice none 0 0)], true⟩
theorem tyOk45 : tyOf Tryz.prog 45 = some ty45 := by kernel_rfl
def ty47 : Ty := ⟨.func, 1, 8, [.nilFunc], true⟩
theorem tyOk47 : tyOf Tryz.prog 47 = some ty47 := by kernel_rfl
def ty48 : Ty := ⟨(.array 6 5), 6, 6, [(.int .u8 0), (.int .u8 0), (.int .u8 0), (.int .u8 0), (.int .u8 0), (.int .u8 0)], true⟩
theorem tyOk48 : tyOf Tryz.prog 48 = some ty48 := by kernel_rfl
def ty50 : Ty := ⟨(.struct [(5, 0, true), (5, 1, true), (5, 2, true), (5, 3, true)]), 4, 4, [(.int .u8 0), (.int .u8 0), (.int .u8 0), (.int .u8 0)], true⟩
theorem tyOk50 : tyOf Tryz.prog 50 = some ty50 := by kernel_rfl
def ty52 : Ty := ⟨(.struct [(5, 0, true), (50, 1, true), (5, 5, true), (5, 6, true)]), 7, 7, [(.int .u8 0), (.int .u8 0), (.int .u8 0), (.int .u8 0), (.int .u8 0), (.int .u8 0), (.int .u8 0)], true⟩
theorem tyOk52 : tyOf Tryz.prog 52 = some ty52 := by kernel_rfl
def ty53 : Ty := ⟨(.array 5 5), 5, 5, [(.int .u8 0), (.int .u8 0), (.int .u8 0), (.int .u8 0), (.int .u8 0)], true⟩
theorem tyOk53 : tyOf Tryz.prog 53 = some ty53 := by kernel_rfl
def ty56 : Ty := ⟨(.slice 155), 1, 24, [(.slice none 0 0)], true⟩
theorem tyOk56 : tyOf Tryz.prog 56 = some ty56 := by kernel_rfl
def ty57 : Ty := ⟨(.slice 90), 1, 24, [(.slice none 0 0)], true⟩
theorem tyOk57 : tyOf Tryz.prog 57 = some ty57 := by kernel_rfl
def ty58 : Ty := ⟨(.int .u64), 1, 8, [(.int .u64 0)], true⟩
theorem tyOk58 : tyOf Tryz.prog 58 = some ty58 := by kernel_rfl
def ty59 : Ty := ⟨(.int .u64), 1, 8, [(.int .u64 0)], true⟩
theorem tyOk59 : tyOf Tryz.prog 59 = some ty59 := by kernel_rfl
def ty61 : Ty := ⟨(.struct [(5, 0, true), (59, 1, true), (4, 2, true)]), 3, 24, [(.int .u8 0), (.int .u64 0), (.bool false)], true⟩
theorem tyOk61 : tyOf Tryz.prog 61 = some ty61 := by kernel_rfl
def ty62 : Ty := ⟨(.array 4 5), 4, 4, [(.int .u8 0), (.int .u8 0), (.int .u8 0), (.int .u8 0)], true⟩
theorem tyOk62 : tyOf Tryz.prog 62 = some ty62 := by kernel_rfl
def ty63 : Ty := ⟨(.array 4 5), 4, 4, [(.int .u8 0), (.int .u8 0), (.int .u8 0), (.int .u8 0)], true⟩
theorem tyOk63 : tyOf Tryz.prog 63 = some ty63 := by kernel_rfl
def ty65 : Ty := ⟨(.struct [(5, 0, true), (5, 1, true), (61, 2, true), (5, 5, true), (5, 6, true), (63, 7, true)]), 11, 40, [(.int .u8 0), (.int .u8 0), (.int .u8 0), (.int .u64 0), (.bool false), (.int .u8 0), (.int .u8 0), (.int .u8 0), (.int .u8 0), (.int .u8 0), (.int .u8 0)], true⟩
theorem tyOk65 : tyOf Tryz.prog 65 = some ty65 := by kernel_rfl
def ty66 : Ty := ⟨(.array 6 65), 66, 240, [(.int .u8 0), (.int .u8 0), (.int .u8 0), (.int .u64 0), (.bool false), (.int .u8 0), (.int .u8 0), (.int .u8 0), (.int .u8 0), (.int .u8 0), (.int .u8 0), (.int .u8 0), (.int .u8 0), (.int .u8 0), (.int .u64 0), (.bool false), (.int .u8 0), (.int .u8 0), (.int .u8 0), (.int .u8 0), (.int .u8 0), (.int .u8 0), (.int .u8 0), (.int .u8 0), (.int .u8 0), (.int .u64 0), (.bool false), (.int .u8 0), (.int .u8 0), (.int .u8 0), (.int .u8 0), (.int .u8 0), (.int .u8 0), (.int .u8 0), (.int .u8 0), (.int .u8 0), (.int .u64 0), (.bool false), (.int .u8 0), (.int .u8 0), (.int .u8 0), (.int .u8 0), (.int .u8 0), (.int .u8 0), (.int .u8 0), (.int .u8 0), (.int .u8 0), (.int .u64 0), (.bool false), (.int .u8 0), (.int .u8 0), (.int .u8 0), (.int .u8 0), (.int .u8 0), (.int .u8 0), (.int .u8 0), (.int .u8 0), (.int .u8 0), (.int .u64 0), (.bool false)] ++ (List.replicate 6 ([(.int .u8 0)] : List Value)).flatten, true⟩
theorem tyOk66 : tyOf Tryz.prog 66 = some ty66 := by kernel_rfl
def ty67 : Ty := ⟨(.slice 77), 1, 24, [(.slice none 0 0)], true⟩
theorem tyOk67 : tyOf Tryz.prog 67 = some ty67 := by kernel_rfl
def ty69 : Ty := ⟨(.struct [(56, 0, true), (57, 1, true), (66, 2, true), (67, 68, true)]), 69, 312, [(.slice none 0 0), (.slice none 0 0), (.int .u8 0), (.int .u8 0), (.int .u8 0), (.int .u64 0), (.bool false), (.int .u8 0), (.int .u8 0), (.int .u8 0), (.int .u8 0), (.int .u8 0), (.int .u8 0), (.int .u8 0), (.int .u8 0), (.int .u8 0), (.int .u64 0), (.bool false), (.int .u8 0), (.int .u8 0), (.int .u8 0), (.int .u8 0), (.int .u8 0), (.int .u8 0), (.int .u8 0), (.int .u8 0), (.int .u8 0), (.int .u64 0), (.bool false), (.int .u8 0), (.int .u8 0), (.int .u8 0), (.int .u8 0), (.int .u8 0), (.int .u8 0), (.int .u8 0), (.int .u8 0), (.int .u8 0), (.int .u64 0), (.bool false), (.int .u8 0), (.int .u8 0), (.int .u8 0), (.int .u8 0), (.int .u8 0), (.int .u8 0), (.int .u8 0), (.int .u8 0), (.int .u8 0), (.int .u64 0), (.bool false), (.int .u8 0), (.int .u8 0), (.int .u8 0), (.int .u8 0), (.int .u8 0), (.int .u8 0), (.int .u8 0), (.int .u8 0), (.int .u8 0), (.int .u64 0), (.bool false), (.int .u8 0), (.int .u8 0), (.int .u8 0), (.int .u8 0), (.int .u8 0), (.int .u8 0), (.slice none 0 0)], true⟩
theorem tyOk69 : tyOf Tryz.prog 69 = some ty69 := by kernel_rfl
def ty77 : Ty := ⟨(.struct [(5, 0, true), (5, 1, true), (5, 2, true), (5, 3, true), (5, 4, true), (5, 5, true), (4, 6, true), (63, 7, true)]), 11, 11, [(.int .u8 0), (.int .u8 0), (.int .u8 0), (.int .u8 0), (.int .u8 0), (.int .u8 0), (.bool false), (.int .u8 0), (.int .u8 0), (.int .u8 0), (.int .u8 0)], true⟩
theorem tyOk77 : tyOf Tryz.prog 77 = some ty77 := by kernel_rfl
def ty81 : Ty := ⟨(.int .i8), 1, 1, [(.int .i8 0)], true⟩
theorem tyOk81 : tyOf Tryz.prog 81 = some ty81 := by kernel_rfl
def ty83 : Ty := ⟨(.struct [(5, 0, true), (5, 1, true), (81, 2, true), (4, 3, true), (63, 4, true)]), 8, 8, [(.int .u8 0), (.int .u8 0), (.int .i8 0), (.bool false), (.int .u8 0), (.int .u8 0), (.int .u8 0), (.int .u8 0)], true⟩
theorem tyOk83 : tyOf Tryz.prog 83 = some ty83 := by kernel_rfl
def ty84 : Ty := ⟨(.array 4 83), 32, 32, [(.int .u8 0), (.int .u8 0), (.int .i8 0), (.bool false), (.int .u8 0), (.int .u8 0), (.int .u8 0), (.int .u8 0), (.int .u8 0), (.int .u8 0), (.int .i8 0), (.bool false), (.int .u8 0), (.int .u8 0), (.int .u8 0), (.int .u8 0), (.int .u8 0), (.int .u8 0), (.int .i8 0), (.bool false), (.int .u8 0), (.int .u8 0), (.int .u8 0), (.int .u8 0), (.int .u8 0), (.int .u8 0), (.int .i8 0), (.bool false)] ++ (List.replicate 4 ([(.int .u8 0)] : List Value)).flatten, true⟩
theorem tyOk84 : tyOf Tryz.prog 84 = some ty84 := by kernel_rfl
def ty85 : Ty := ⟨(.array 4 84), 128, 128, [(.int .u8 0), (.int .u8 0), (.int .i8 0), (.bool false), (.int .u8 0), (.int .u8 0), (.int .u8 0), (.int .u8 0), (.int .u8 0), (.int .u8 0), (.int .i8 0), (.bool false), (.int .u8 0), (.int .u8 0), (.int .u8 0), (.int .u8 0), (.int .u8 0), (.int .u8 0), (.int .i8 0), (.bool false), (.int .u8 0), (.int .u8 0), (.int .u8 0), (.int .u8 0), (.int .u8 0), (.int .u8 0), (.int .i8 0), (.bool false), (.int .u8 0), (.int .u8 0), (.int .u8 0), (.int .u8 0), (.int .u8 0), (.int .u8 0), (.int .i8 0), (.bool false), (.int .u8 0), (.int .u8 0), (.int .u8 0), (.int .u8 0), (.int .u8 0), (.int .u8 0), (.int .i8 0), (.bool false), (.int .u8 0), (.int .u8 0), (.int .u8 0), (.int .u8 0), (.int .u8 0), (.int .u8 0), (.int .i8 0), (.bool false), (.int .u8 0), (.int .u8 0), (.int .u8 0), (.int .u8 0), (.int .u8 0), (.int .u8 0), (.int .i8 0), (.bool false), (.int .u8 0), (.int .u8 0), (.int .u8 0), (.int .u8 0), (.int .u8 0), (.int .u8 0), (.int .i8 0), (.bool false), (.int .u8 0), (.int .u8 0), (.int .u8 0), (.int .u8 0), (.int .u8 0), (.int .u8 0), (.int .i8 0), (.bool false), (.int .u8 0), (.int .u8 0), (.int .u8 0), (.int .u8 0), (.int .u8 0), (.int .u8 0), (.int .i8 0), (.bool false), (.int .u8 0), (.int .u8 0), (.int .u8 0), (.int .u8 0), (.int .u8 0), (.int .u8 0), (.int .i8 0), (.bool false), (.int .u8 0), (.int .u8 0), (.int .u8 0), (.int .u8 0), (.int .u8 0), (.int .u8 0), (.int .i8 0), (.bool false), (.int .u8 0), (.int .u8 0), (.int .u8 0), (.int .u8 0), (.int .u8 0), (.int .u8 0), (.int .i8 0), (.bool false), (.int .u8 0), (.int .u8 0), (.int .u8 0), (.int .u8 0), (.int .u8 0), (.int .u8 0), (.int .i8 0), (.bool false), (.int .u8 0), (.int .u8 0), (.int .u8 0), (.int .u8 0), (.int .u8 0), (.int .u8 0), (.int .i8 0), (.bool false)] ++ (List.replicate 4 ([(.int .u8 0)] : List Value)).flatten, true⟩
theorem tyOk85 : tyOf Tryz.prog 85 = some ty85 := by kernel_rfl
def ty87 : Ty := ⟨(.struct [(5, 0, true), (3, 1, true), (62, 2, true), (5, 6, true)]), 7, 24, [(.int .u8 0), (.int .i64 0), (.int .u8 0), (.int .u8 0), (.int .u8 0), (.int .u8 0), (.int .u8 0)], true⟩
theorem tyOk87 : tyOf Tryz.prog 87 = some ty87 := by kernel_rfl
def ty88 : Ty := ⟨(.array 4 87), 28, 96, [(.int .u8 0), (.int .i64 0), (.int .u8 0), (.int .u8 0), (.int .u8 0), (.int .u8 0), (.int .u8 0), (.int .u8 0), (.int .i64 0), (.int .u8 0), (.int .u8 0), (.int .u8 0), (.int .u8 0), (.int .u8 0), (.int .u8 0), (.int .i64 0), (.int .u8 0), (.int .u8 0), (.int .u8 0), (.int .u8 0), (.int .u8 0), (.int .u8 0), (.int .i64 0), (.int .u8 0), (.int .u8 0), (.int .u8 0), (.int .u8 0), (.int .u8 0)], true⟩
theorem tyOk88 : tyOf Tryz.prog 88 = some ty88 := by kernel_rfl
def ty90 : Ty := ⟨(.struct [(85, 0, true), (88, 128, true), (50, 156, true)]), 160, 232, [(.int .u8 0), (.int .u8 0), (.int .i8 0), (.bool false), (.int .u8 0), (.int .u8 0), (.int .u8 0), (.int .u8 0), (.int .u8 0), (.int .u8 0), (.int .i8 0), (.bool false), (.int .u8 0), (.int .u8 0), (.int .u8 0), (.int .u8 0), (.int .u8 0), (.int .u8 0), (.int .i8 0), (.bool false), (.int .u8 0), (.int .u8 0), (.int .u8 0), (.int .u8 0), (.int .u8 0), (.int .u8 0), (.int .i8 0), (.bool false), (.int .u8 0), (.int .u8 0), (.int .u8 0), (.int .u8 0), (.int .u8 0), (.int .u8 0), (.int .i8 0), (.bool false), (.int .u8 0), (.int .u8 0), (.int .u8 0), (.int .u8 0), (.int .u8 0), (.int .u8 0), (.int .i8 0), (.bool false), (.int .u8 0), (.int .u8 0), (.int .u8 0), (.int .u8 0), (.int .u8 0), (.int .u8 0), (.int .i8 0), (.bool false), (.int .u8 0), (.int .u8 0), (.int .u8 0), (.int .u8 0), (.int .u8 0), (.int .u8 0), (.int .i8 0), (.bool false), (.int .u8 0), (.int .u8 0), (.int .u8 0), (.int .u8 0), (.int .u8 0), (.int .u8 0), (.int .i8 0), (.bool false), (.int .u8 0), (.int .u8 0), (.int .u8 0), (.int .u8 0), (.int .u8 0), (.int .u8 0), (.int .i8 0), (.bool false), (.int .u8 0), (.int .u8 0), (.int .u8 0), (.int .u8 0), (.int .u8 0), (.int .u8 0), (.int .i8 0), (.bool false), (.int .u8 0), (.int .u8 0), (.int .u8 0), (.int .u8 0), (.int .u8 0), (.int .u8 0), (.int .i8 0), (.bool false), (.int .u8 0), (.int .u8 0), (.int .u8 0), (.int .u8 0), (.int .u8 0), (.int .u8 0), (.int .i8 0), (.bool false), (.int .u8 0), (.int .u8 0), (.int .u8 0), (.int .u8 0), (.int .u8 0), (.int .u8 0), (.int .i8 0), (.bool false), (.int .u8 0), (.int .u8 0), (.int .u8 0), (.int .u8 0), (.int .u8 0), (.int .u8 0), (.int .i8 0), (.bool false), (.int .u8 0), (.int .u8 0), (.int .u8 0), (.int .u8 0), (.int .u8 0), (.int .u8 0), (.int .i8 0), (.bool false), (.int .u8 0), (.int .u8 0), (.int .u8 0), (.int .u8 0), (.int .u8 0), (.int .i64 0), (.int .u8 0), (.int .u8 0), (.int .u8 0), (.int .u8 0), (.int .u8 0), (.int .u8 0), (.int .i64 0), (.int .u8 0), (.int .u8 0), (.int .u8 0), (.int .u8 0), (.int .u8 0), (.int .u8 0), (.int .i64 0), (.int .u8 0), (.int .u8 0), (.int .u8 0), (.int .u8 0), (.int .u8 0), (.int .u8 0), (.int .i64 0)] ++ (List.replicate 9 ([(.int .u8 0)] : List Value)).flatten, true⟩
theorem tyOk90 : tyOf Tryz.prog 90 = some ty90 := by kernel_rfl
def ty95 : Ty := ⟨.func, 1, 8, [.nilFunc], true⟩
theorem tyOk95 : tyOf Tryz.prog 95 = some ty95 := by kernel_rfl
def ty97 : Ty := ⟨(.struct [(95, 0, true)]), 1, 8, [.nilFunc], true⟩
theorem tyOk97 : tyOf Tryz.prog 97 = some ty97 := by kernel_rfl
def ty98 : Ty := ⟨(.array 4 97), 4, 32, [.nilFunc, .nilFunc, .nilFunc, .nilFunc], true⟩
theorem tyOk98 : tyOf Tryz.prog 98 = some ty98 := by kernel_rfl
def ty100 : Ty := ⟨(.int .i64), 1, 8, [(.int .i64 0)], true⟩
theorem tyOk100 : tyOf Tryz.prog 100 = some ty100 := by kernel_rfl
def ty103 : Ty := ⟨(.slice 280), 1, 24, [(.slice none 0 0)], true⟩
theorem tyOk103 : tyOf Tryz.prog 103 = some ty103 := by kernel_rfl
def ty106 : Ty := ⟨(.slice 83), 1, 24, [(.slice none 0 0)], true⟩
theorem tyOk106 : tyOf Tryz.prog 106 = some ty106 := by kernel_rfl
def ty108 : Ty := ⟨(.struct [(31, 0, true), (5, 5, true), (65, 6, true), (106, 17, true), (67, 18, true)]), 19, 136, [(.int .i64 0), (.int .i64 0), (.int .i64 0), (.int .i64 0), (.int .i64 0), (.int .u8 0), (.int .u8 0), (.int .u8 0), (.int .u8 0), (.int .u64 0), (.bool false), (.int .u8 0), (.int .u8 0), (.int .u8 0), (.int .u8 0), (.int .u8 0), (.int .u8 0), (.slice none 0 0), (.slice none 0 0)], true⟩
theorem tyOk108 : tyOf Tryz.prog 108 = some ty108 := by kernel_rfl
def ty111 : Ty := ⟨(.ptr 108), 1, 8, [(.pointer none)], true⟩
theorem tyOk111 : tyOf Tryz.prog 111 = some ty111 := by kernel_rfl
def ty120 : Ty := ⟨(.array 5 3), 5, 40, [(.int .i64 0), (.int .i64 0), (.int .i64 0), (.int .i64 0), (.int .i64 0)], true⟩
theorem tyOk120 : tyOf Tryz.prog 120 = some ty120 := by kernel_rfl
def ty122 : Ty := ⟨(.struct [(31, 0, true)]), 5, 40, [(.int .i64 0), (.int .i64 0), (.int .i64 0), (.int .i64 0), (.int .i64 0)], true⟩
theorem tyOk122 : tyOf Tryz.prog 122 = some ty122 := by kernel_rfl
def ty124 : Ty := ⟨(.array 13 5), 13, 13, [(.int .u8 0), (.int .u8 0), (.int .u8 0), (.int .u8 0), (.int .u8 0), (.int .u8 0), (.int .u8 0), (.int .u8 0), (.int .u8 0), (.int .u8 0), (.int .u8 0), (.int .u8 0), (.int .u8 0)], true⟩
theorem tyOk124 : tyOf Tryz.prog 124 = some ty124 := by kernel_rfl
def ty126 : Ty := ⟨(.struct [(77, 0, true), (31, 11, true), (5, 16, true)]), 17, 64, [(.int .u8 0), (.int .u8 0), (.int .u8 0), (.int .u8 0), (.int .u8 0), (.int .u8 0), (.bool false), (.int .u8 0), (.int .u8 0), (.int .u8 0), (.int .u8 0), (.int .i64 0), (.int .i64 0), (.int .i64 0), (.int .i64 0), (.int .i64 0), (.int .u8 0)], true⟩
theorem tyOk126 : tyOf Tryz.prog 126 = some ty126 := by kernel_rfl
def ty127 : Ty := ⟨(.struct [(31, 0, true)]), 5, 40, [(.int .i64 0), (.int .i64 0), (.int .i64 0), (.int .i64 0), (.int .i64 0)], true⟩
theorem tyOk127 : tyOf Tryz.prog 127 = some ty127 := by kernel_rfl
def ty140 : Ty := ⟨(.int .u8), 1, 1, [(.int .u8 0)], true⟩
theorem tyOk140 : tyOf Tryz.prog 140 = some ty140 := by kernel_rfl
def ty142 : Ty := ⟨(.struct [(140, 0, true), (42, 1, true)]), 566, 776, [(.int .u8 0), (.string ⟨#[]⟩)] ++ (List.replicate 188 ([(.int .u8 0), (.int .u8 0), (.int .u16 0)] : List Value)).flatten, true⟩
theorem tyOk142 : tyOf Tryz.prog 142 = some ty142 := by kernel_rfl
def ty148 : Ty := ⟨(.struct [(4, 0, true), (5, 1, true), (5, 2, true)]), 3, 3, [(.bool false), (.int .u8 0), (.int .u8 0)], true⟩
theorem tyOk148 : tyOf Tryz.prog 148 = some ty148 := by kernel_rfl
def ty150 : Ty := ⟨.func, 1, 8, [.nilFunc], true⟩
theorem tyOk150 : tyOf Tryz.prog 150 = some ty150 := by kernel_rfl
def ty152 : Ty := ⟨(.array 8 5), 8, 8, [(.int .u8 0), (.int .u8 0), (.int .u8 0), (.int .u8 0), (.int .u8 0), (.int .u8 0), (.int .u8 0), (.int .u8 0)], true⟩
theorem tyOk152 : tyOf Tryz.prog 152 = some ty152 := by kernel_rfl
def ty153 : Ty := ⟨(.slice 345), 1, 24, [(.slice none 0 0)], true⟩
theorem tyOk153 : tyOf Tryz.prog 153 = some ty153 := by kernel_rfl
def ty155 : Ty := ⟨(.struct [(5, 0, true), (152, 1, true), (153, 9, true), (4, 10, true), (4, 11, true)]), 12, 48, [(.int .u8 0), (.int .u8 0), (.int .u8 0), (.int .u8 0), (.int .u8 0), (.int .u8 0), (.int .u8 0), (.int .u8 0), (.int .u8 0), (.slice none 0 0), (.bool false), (.bool false)], true⟩
theorem tyOk155 : tyOf Tryz.prog 155 = some ty155 := by kernel_rfl
def ty164 : Ty := ⟨.func, 1, 8, [.nilFunc], true⟩
theorem tyOk164 : tyOf Tryz.prog 164 = some ty164 := by kernel_rfl
def ty168 : Ty := ⟨(.slice 63), 1, 24, [(.slice none 0 0)], true⟩
theorem tyOk168 : tyOf Tryz.prog 168 = some ty168 := by kernel_rfl
def ty170 : Ty := ⟨(.map 9 203), 1, 8, [(.map none)], true⟩
theorem tyOk170 : tyOf Tryz.prog 170 = some ty170 := by kernel_rfl
def ty177 : Ty := ⟨(.ptr 42), 1, 8, [(.pointer none)], true⟩
theorem tyOk177 : tyOf Tryz.prog 177 = some ty177 := by kernel_rfl
def ty178 : Ty := ⟨(.map 5 9), 1, 8, [(.map none)], true⟩
theorem tyOk178 : tyOf Tryz.prog 178 = some ty178 := by kernel_rfl
def ty181 : Ty := ⟨(.slice 148), 1, 24, [(.slice none 0 0)], true⟩
theorem tyOk181 : tyOf Tryz.prog 181 = some ty181 := by kernel_rfl
def ty194 : Ty := ⟨(.ptr 90), 1, 8, [(.pointer none)], true⟩
theorem tyOk194 : tyOf Tryz.prog 194 = some ty194 := by kernel_rfl
def ty200 : Ty := ⟨.func, 1, 8, [.nilFunc], true⟩
theorem tyOk200 : tyOf Tryz.prog 200 = some ty200 := by kernel_rfl
def ty203 : Ty := ⟨.func, 1, 8, [.nilFunc], true⟩
theorem tyOk203 : tyOf Tryz.prog 203 = some ty203 := by kernel_rfl
def ty204 : Ty := ⟨(.int .i64), 1, 8, [(.int .i64 0)], true⟩
theorem tyOk204 : tyOf Tryz.prog 204 = some ty204 := by kernel_rfl
def ty206 : Ty := ⟨(.struct [(9, 0, true), (204, 1, true), (204, 2, true), (204, 3, true)]), 4, 40, [(.string ⟨#[]⟩), (.int .i64 0), (.int .i64 0), (.int .i64 0)], true⟩
theorem tyOk206 : tyOf Tryz.prog 206 = some ty206 := by kernel_rfl
def ty207 : Ty := ⟨(.ptr 211), 1, 8, [(.pointer none)], true⟩
theorem tyOk207 : tyOf Tryz.prog 207 = some ty207 := by kernel_rfl
def ty209 : Ty := ⟨(.struct [(22, 0, true)]), 1, 24, [(.slice none 0 0)], true⟩
theorem tyOk209 : tyOf Tryz.prog 209 = some ty209 := by kernel_rfl
def ty211 : Ty := ⟨(.struct [(209, 0, true)]), 1, 24, [(.slice none 0 0)], true⟩
theorem tyOk211 : tyOf Tryz.prog 211 = some ty211 := by kernel_rfl
def ty216 : Ty := ⟨.func, 1, 8, [.nilFunc], true⟩
theorem tyOk216 : tyOf Tryz.prog 216 = some ty216 := by kernel_rfl
def ty217 : Ty := ⟨.func, 1, 8, [.nilFunc], true⟩
theorem tyOk217 : tyOf Tryz.prog 217 = some ty217 := by kernel_rfl
def ty225 : Ty := ⟨(.struct [(206, 0, true), (3, 4, true), (3, 5, true)]), 6, 56, [(.string ⟨#[]⟩), (.int .i64 0), (.int .i64 0), (.int .i64 0), (.int .i64 0), (.int .i64 0)], true⟩
theorem tyOk225 : tyOf Tryz.prog 225 = some ty225 := by kernel_rfl
def ty230 : Ty := ⟨(.ptr 36), 1, 8, [(.pointer none)], true⟩
theorem tyOk230 : tyOf Tryz.prog 230 = some ty230 := by kernel_rfl
def ty235 : Ty := ⟨(.slice 239), 1, 24, [(.slice none 0 0)], true⟩
theorem tyOk235 : tyOf Tryz.prog 235 = some ty235 := by kernel_rfl
def ty237 : Ty := ⟨(.ptr 29), 1, 8, [(.pointer none)], true⟩
theorem tyOk237 : tyOf Tryz.prog 237 = some ty237 := by kernel_rfl
def ty239 : Ty := ⟨(.struct [(100, 0, true), (47, 1, true)]), 2, 16, [(.int .i64 0), .nilFunc], true⟩
theorem tyOk239 : tyOf Tryz.prog 239 = some ty239 := by kernel_rfl
def ty249 : Ty := ⟨(.ptr 209), 1, 8, [(.pointer none)], true⟩
theorem tyOk249 : tyOf Tryz.prog 249 = some ty249 := by kernel_rfl
def ty252 : Ty := ⟨(.slice 254), 1, 24, [(.slice none 0 0)], true⟩
theorem tyOk252 : tyOf Tryz.prog 252 = some ty252 := by kernel_rfl
def ty254 : Ty := ⟨(.struct [(3, 0, true), (3, 1, true)]), 2, 16, [(.int .i64 0), (.int .i64 0)], true⟩
theorem tyOk254 : tyOf Tryz.prog 254 = some ty254 := by kernel_rfl
def ty257 : Ty := ⟨.func, 1, 8, [.nilFunc], true⟩
theorem tyOk257 : tyOf Tryz.prog 257 = some ty257 := by kernel_rfl
def ty258 : Ty := ⟨.func, 1, 8, [.nilFunc], true⟩
theorem tyOk258 : tyOf Tryz.prog 258 = some ty258 := by kernel_rfl
def ty265 : Ty := ⟨(.array 15 9), 15, 240, [(.string ⟨#[]⟩), (.string ⟨#[]⟩), (.string ⟨#[]⟩), (.string ⟨#[]⟩), (.string ⟨#[]⟩), (.string ⟨#[]⟩), (.string ⟨#[]⟩), (.string ⟨#[]⟩), (.string ⟨#[]⟩), (.string ⟨#[]⟩), (.string ⟨#[]⟩), (.string ⟨#[]⟩), (.string ⟨#[]⟩), (.string ⟨#[]⟩), (.string ⟨#[]⟩)], true⟩
theorem tyOk265 : tyOf Tryz.prog 265 = some ty265 := by kernel_rfl
def ty266 : Ty := ⟨(.array 7 265), 105, 1680, (List.replicate 105 ([(.string ⟨#[]⟩)] : List Value)).flatten, true⟩
theorem tyOk266 : tyOf Tryz.prog 266 = some ty266 := by kernel_rfl
def ty270 : Ty := ⟨(.slice 275), 1, 24, [(.slice none 0 0)], true⟩
theorem tyOk270 : tyOf Tryz.prog 270 = some ty270 := by kernel_rfl
def ty273 : Ty := ⟨(.int .u8), 1, 1, [(.int .u8 0)], true⟩
theorem tyOk273 : tyOf Tryz.prog 273 = some ty273 := by kernel_rfl
def ty275 : Ty := ⟨(.struct [(273, 0, true), (9, 1, true), (3, 2, true)]), 3, 32, [(.int .u8 0), (.string ⟨#[]⟩), (.int .i64 0)], true⟩
theorem tyOk275 : tyOf Tryz.prog 275 = some ty275 := by kernel_rfl
def ty278 : Ty := ⟨(.struct [(4, 0, true), (5, 1, true)]), 2, 2, [(.bool false), (.int .u8 0)], true⟩
theorem tyOk278 : tyOf Tryz.prog 278 = some ty278 := by kernel_rfl
def ty280 : Ty := ⟨(.struct [(5, 0, true), (5, 1, true), (5, 2, true), (278, 3, true), (278, 5, true), (5, 7, true), (5, 8, true), (5, 9, true)]), 10, 10, [(.int .u8 0), (.int .u8 0), (.int .u8 0), (.bool false), (.int .u8 0), (.bool false), (.int .u8 0), (.int .u8 0), (.int .u8 0), (.int .u8 0)], true⟩
theorem tyOk280 : tyOf Tryz.prog 280 = some ty280 := by kernel_rfl
def ty282 : Ty := ⟨(.struct [(280, 0, true), (3, 10, true), (3, 11, true)]), 12, 32, [(.int .u8 0), (.int .u8 0), (.int .u8 0), (.bool false), (.int .u8 0), (.bool false), (.int .u8 0), (.int .u8 0), (.int .u8 0), (.int .u8 0), (.int .i64 0), (.int .i64 0)], true⟩
theorem tyOk282 : tyOf Tryz.prog 282 = some ty282 := by kernel_rfl
def ty283 : Ty := ⟨(.slice 47), 1, 24, [(.slice none 0 0)], true⟩
theorem tyOk283 : tyOf Tryz.prog 283 = some ty283 := by kernel_rfl
def ty286 : Ty := ⟨(.ptr 27), 1, 8, [(.pointer none)], true⟩
theorem tyOk286 : tyOf Tryz.prog 286 = some ty286 := by kernel_rfl
def ty287 : Ty := ⟨.func, 1, 8, [.nilFunc], true⟩
theorem tyOk287 : tyOf Tryz.prog 287 = some ty287 := by kernel_rfl
def ty288 : Ty := ⟨.func, 1, 8, [.nilFunc], true⟩
theorem tyOk288 : tyOf Tryz.prog 288 = some ty288 := by kernel_rfl
def ty290 : Ty := ⟨(.struct [(287, 0, true), (287, 1, true), (288, 2, true)]), 3, 24, [.nilFunc, .nilFunc, .nilFunc], true⟩
theorem tyOk290 : tyOf Tryz.prog 290 = some ty290 := by kernel_rfl
def ty292 : Ty := ⟨(.map 5 290), 1, 8, [(.map none)], true⟩
theorem tyOk292 : tyOf Tryz.prog 292 = some ty292 := by kernel_rfl
def ty297 : Ty := ⟨(.struct [(9, 0, true), (3, 1, true)]), 2, 24, [(.string ⟨#[]⟩), (.int .i64 0)], true⟩
theorem tyOk297 : tyOf Tryz.prog 297 = some ty297 := by kernel_rfl
def ty299 : Ty := ⟨(.struct [(297, 0, true), (4, 2, true)]), 3, 32, [(.string ⟨#[]⟩), (.int .i64 0), (.bool false)], true⟩
theorem tyOk299 : tyOf Tryz.prog 299 = some ty299 := by kernel_rfl
def ty304 : Ty := ⟨(.ptr 282), 1, 8, [(.pointer none)], true⟩
theorem tyOk304 : tyOf Tryz.prog 304 = some ty304 := by kernel_rfl
def ty318 : Ty := ⟨(.ptr 299), 1, 8, [(.pointer none)], true⟩
theorem tyOk318 : tyOf Tryz.prog 318 = some ty318 := by kernel_rfl
def ty328 : Ty := ⟨(.ptr 297), 1, 8, [(.pointer none)], true⟩
theorem tyOk328 : tyOf Tryz.prog 328 = some ty328 := by kernel_rfl
def ty345 : Ty := ⟨(.struct [(5, 0, true), (5, 1, true)]), 2, 2, [(.int .u8 0), (.int .u8 0)], true⟩
theorem tyOk345 : tyOf Tryz.prog 345 = some ty345 := by kernel_rfl
def passing : List Nat := [20, 21, 39, 66, 67, 68, 69, 73, 74, 77, 78, 81, 99, 100, 101, 102, 107, 111, 114, 117, 120, 126, 127, 128, 129, 130, 131, 133, 134, 135, 136, 137, 138, 139, 140, 144, 145, 146, 147, 151, 152, 154, 155, 156, 164, 165, 166, 168, 170, 171, 172, 173, 175, 176, 178, 179, 180, 181, 188, 196, 201, 202, 203, 204, 205, 206, 207, 209, 210, 211, 220, 221, 223, 224, 225, 226, 227, 229, 230, 231, 141, 160, 105, 148]
def kpL (a b : List Nat) (l : List (List Nat)) (i : Nat) : List Nat := bif Nat.beq i 1000000 then a else bif Nat.beq i 2000000 then b else l.getD i []
/- seisin/seisinlaw32.InvMemory -/
def m3 : M :=
 .seq (.reg [0, 1] [⟨(some 2), .box 44 (.tmp 0), none⟩,
 ⟨(some 4), .assign (.const (.bool false)), none⟩] 0)
 (.seq (.reg [1, 2] [⟨(some 5), .move (.tmp 1), none⟩,
 ⟨(some 6), .call ⟨.builtin .len, #[(.tmp 5)], #[45]⟩, none⟩,
 ⟨(some 7), .binOp .gtr 3 (.tmp 6) (.const (.int .i64 60)) 3, none⟩,
 ⟨(some 8), .move (.tmp 7), none⟩,
 ⟨(some 9), .load 44 (.tmp 2), (some (8, false))⟩,
 ⟨(some 10), .move (.tmp 1), (some (8, false))⟩,
 ⟨(some 11), .call ⟨.value (.func 6), #[(.tmp 9), (.tmp 10)], #[44, 45]⟩, (some (8, false))⟩,
 ⟨(some 12), .load 44 (.tmp 2), (some (8, false))⟩,
 ⟨(some 13), .move (.tmp 1), (some (8, false))⟩,
 ⟨(some 14), .call ⟨.value (.func 7), #[(.tmp 12), (.tmp 13)], #[44, 45]⟩, (some (8, false))⟩,
 ⟨(some 15), .binOp .eql 4 (.tmp 11) (.tmp 14) 4, (some (8, false))⟩,
 ⟨(some 16), .pick (.tmp 8) (.const (.bool true)) (.tmp 15), none⟩,
 ⟨(some 17), .move (.tmp 16), none⟩,
 ⟨(some 18), .call ⟨.value (.func 8), #[], #[]⟩, (some (17, true))⟩,
 ⟨(some 19), .pick (.tmp 17) (.tmp 18) (.const (.bool false)), none⟩,
 ⟨(some 4), .assign (.tmp 19), none⟩] 9)
 (.ret))
def fn3 : MFn := ⟨20, [.tmp 4], m3, .shut⟩
theorem fnOk3 : FnOk Tryz.prog 3 fn3 := ⟨Tryz.f3, _, kpL passing [] [[0, 1], [1, 2]], Tryz.func3, rfl, by kernel_rfl, by kernel_rfl, by kernel_rfl, by kernel_rfl⟩
/- seisin/inv.Atomic -/
def m6_l0 : M :=
 .seq (.reg [2, 5, 13, 14, 15] [⟨(some 16), .binOp .lss 3 (.tmp 15) (.tmp 14) 3, none⟩] 0)
 (.seq (.cond (.tmp 16) (.skip)
 (.exit 0))
 (.seq (.block 1 (.seq (.reg [2, 5, 13, 14, 15] [⟨(some 17), .indexAddr 45 (.tmp 13) (.tmp 15), none⟩,
 ⟨(some 18), .load 52 (.tmp 17), none⟩,
 ⟨(some 7), .alloc 52, none⟩,
 ⟨none, .store 52 (.tmp 7) (.tmp 18), none⟩] 0)
 (.seq (.seq (.reg [2, 5, 7, 13, 14, 15] [⟨(some 19), .fieldAddr 52 (.tmp 7) 1, none⟩,
 ⟨(some 20), .fieldAddr 50 (.tmp 19) 0, none⟩,
 ⟨(some 21), .load 5 (.tmp 20), none⟩] 0)
 (.block 2 (.seq (.seq (.reg [2, 5, 7, 13, 14, 15, 21] [⟨(some 23), .binOp .eql 5 (.tmp 21) (.const (.int .u8 1)) 5, none⟩,
 ⟨(some 22), .assign (.tmp 23), none⟩] 0)
 (.cond (.tmp 22) (.skip)
 (.seq (.reg [2, 5, 7, 13, 14, 15, 21] [⟨(some 24), .binOp .eql 5 (.tmp 21) (.const (.int .u8 2)) 5, none⟩,
 ⟨(some 22), .assign (.tmp 24), none⟩] 0)
 (.cond (.tmp 22) (.skip)
 (.seq (.reg [2, 5, 7, 13, 14, 15, 21] [⟨(some 25), .binOp .eql 5 (.tmp 21) (.const (.int .u8 4)) 5, none⟩,
 ⟨(some 22), .assign (.tmp 25), none⟩] 0)
 (.cond (.tmp 22) (.skip)
 (.seq (.reg [2, 5, 7, 13, 14, 15, 21] [⟨(some 26), .binOp .eql 5 (.tmp 21) (.const (.int .u8 5)) 5, none⟩,
 ⟨(some 22), .assign (.tmp 26), none⟩] 0)
 (.cond (.tmp 22) (.skip)
 (.reg [2, 5, 7, 13, 14, 15, 21] [⟨(some 27), .binOp .eql 5 (.tmp 21) (.const (.int .u8 6)) 5, none⟩,
 ⟨(some 22), .assign (.tmp 27), none⟩] 0)))))))))
 (.cond (.tmp 22) (.skip)
 (.seq (.reg [] [⟨(some 4), .assign (.const (.bool false)), none⟩] 0)
 (.ret))))))
 (.seq (.seq (.reg [2, 5, 7, 13, 14, 15] [⟨(some 28), .fieldAddr 52 (.tmp 7) 0, none⟩,
 ⟨(some 29), .load 5 (.tmp 28), none⟩,
 ⟨(some 30), .convert 5 3 (.tmp 29), none⟩,
 ⟨(some 31), .fieldAddr 44 (.tmp 2) 1, none⟩,
 ⟨(some 32), .fieldAddr 31 (.tmp 31) 0, none⟩,
 ⟨(some 33), .load 3 (.tmp 32), none⟩,
 ⟨(some 34), .binOp .geq 3 (.tmp 30) (.tmp 33) 3, none⟩,
 ⟨(some 35), .move (.tmp 34), none⟩,
 ⟨(some 36), .fieldAddr 52 (.tmp 7) 1, (some (35, false))⟩,
 ⟨(some 37), .fieldAddr 50 (.tmp 36) 1, (some (35, false))⟩,
 ⟨(some 38), .load 5 (.tmp 37), (some (35, false))⟩,
 ⟨(some 39), .binOp .geq 5 (.tmp 38) (.const (.int .u8 6)) 5, (some (35, false))⟩,
 ⟨(some 40), .pick (.tmp 35) (.const (.bool true)) (.tmp 39), none⟩] 0)
 (.cond (.tmp 40) (.seq (.reg [] [⟨(some 4), .assign (.const (.bool false)), none⟩] 0)
 (.ret))
 (.skip)))
 (.seq (.seq (.reg [2, 5, 7, 13, 14, 15] [⟨(some 41), .fieldAddr 52 (.tmp 7) 2, none⟩,
 ⟨(some 42), .load 5 (.tmp 41), none⟩,
 ⟨(some 43), .fieldAddr 52 (.tmp 7) 1, none⟩,
 ⟨(some 44), .fieldAddr 50 (.tmp 43) 1, none⟩,
 ⟨(some 45), .load 5 (.tmp 44), none⟩,
 ⟨(some 46), .indexAddr 48 (.tmp 5) (.tmp 45), none⟩,
 ⟨(some 47), .load 5 (.tmp 46), none⟩,
 ⟨(some 48), .binOp .neq 5 (.tmp 42) (.tmp 47) 5, none⟩,
 ⟨(some 49), .move (.tmp 48), none⟩,
 ⟨(some 50), .fieldAddr 52 (.tmp 7) 3, (some (49, false))⟩,
 ⟨(some 51), .load 5 (.tmp 50), (some (49, false))⟩,
 ⟨(some 52), .fieldAddr 52 (.tmp 7) 1, (some (49, false))⟩,
 ⟨(some 53), .load 50 (.tmp 52), (some (49, false))⟩,
 ⟨(some 54), .fieldAddr 52 (.tmp 7) 2, (some (49, false))⟩,
 ⟨(some 55), .load 5 (.tmp 54), (some (49, false))⟩,
 ⟨(some 56), .call ⟨.value (.func 9), #[(.tmp 53), (.tmp 55)], #[50, 5]⟩, (some (49, false))⟩,
 ⟨(some 57), .binOp .neq 5 (.tmp 51) (.tmp 56) 5, (some (49, false))⟩,
 ⟨(some 58), .pick (.tmp 49) (.const (.bool true)) (.tmp 57), none⟩] 16)
 (.cond (.tmp 58) (.seq (.reg [] [⟨(some 4), .assign (.const (.bool false)), none⟩] 0)
 (.ret))
 (.skip)))
 (.reg [2, 5, 7, 13, 14, 15] [⟨(some 59), .fieldAddr 52 (.tmp 7) 1, none⟩,
 ⟨(some 60), .fieldAddr 50 (.tmp 59) 1, none⟩,
 ⟨(some 61), .load 5 (.tmp 60), none⟩,
 ⟨(some 62), .fieldAddr 52 (.tmp 7) 3, none⟩,
 ⟨(some 63), .load 5 (.tmp 62), none⟩,
 ⟨(some 64), .indexAddr 48 (.tmp 5) (.tmp 61), none⟩,
 ⟨none, .store 5 (.tmp 64) (.tmp 63), none⟩] 0))))))
 (.reg [2, 5, 13, 14, 15] [⟨(some 65), .binOp .add 3 (.tmp 15) (.const (.int .i64 1)) 3, none⟩,
 ⟨(some 15), .move (.tmp 65), none⟩] 0)))
theorem u6_l0 {C : Ctx} {k : List It} {st : St} {Q : Ex → St → Prop} : RunK C (.code m6_l0 :: k) st Q ↔ RunK C (.code (.seq (.reg [2, 5, 13, 14, 15] [⟨(some 16), .binOp .lss 3 (.tmp 15) (.tmp 14) 3, none⟩] 0)
 (.seq (.cond (.tmp 16) (.skip)
 (.exit 0))
 (.seq (.block 1 (.seq (.reg [2, 5, 13, 14, 15] [⟨(some 17), .indexAddr 45 (.tmp 13) (.tmp 15), none⟩,
 ⟨(some 18), .load 52 (.tmp 17), none⟩,
 ⟨(some 7), .alloc 52, none⟩,
 ⟨none, .store 52 (.tmp 7) (.tmp 18), none⟩] 0)
 (.seq (.seq (.reg [2, 5, 7, 13, 14, 15] [⟨(some 19), .fieldAddr 52 (.tmp 7) 1, none⟩,
 ⟨(some 20), .fieldAddr 50 (.tmp 19) 0, none⟩,
 ⟨(some 21), .load 5 (.tmp 20), none⟩] 0)
 (.block 2 (.seq (.seq (.reg [2, 5, 7, 13, 14, 15, 21] [⟨(some 23), .binOp .eql 5 (.tmp 21) (.const (.int .u8 1)) 5, none⟩,
 ⟨(some 22), .assign (.tmp 23), none⟩] 0)
 (.cond (.tmp 22) (.skip)
 (.seq (.reg [2, 5, 7, 13, 14, 15, 21] [⟨(some 24), .binOp .eql 5 (.tmp 21) (.const (.int .u8 2)) 5, none⟩,
 ⟨(some 22), .assign (.tmp 24), none⟩] 0)
 (.cond (.tmp 22) (.skip)
 (.seq (.reg [2, 5, 7, 13, 14, 15, 21] [⟨(some 25), .binOp .eql 5 (.tmp 21) (.const (.int .u8 4)) 5, none⟩,
 ⟨(some 22), .assign (.tmp 25), none⟩] 0)
 (.cond (.tmp 22) (.skip)
 (.seq (.reg [2, 5, 7, 13, 14, 15, 21] [⟨(some 26), .binOp .eql 5 (.tmp 21) (.const (.int .u8 5)) 5, none⟩,
 ⟨(some 22), .assign (.tmp 26), none⟩] 0)
 (.cond (.tmp 22) (.skip)
 (.reg [2, 5, 7, 13, 14, 15, 21] [⟨(some 27), .binOp .eql 5 (.tmp 21) (.const (.int .u8 6)) 5, none⟩,
 ⟨(some 22), .assign (.tmp 27), none⟩] 0)))))))))
 (.cond (.tmp 22) (.skip)
 (.seq (.reg [] [⟨(some 4), .assign (.const (.bool false)), none⟩] 0)
 (.ret))))))
 (.seq (.seq (.reg [2, 5, 7, 13, 14, 15] [⟨(some 28), .fieldAddr 52 (.tmp 7) 0, none⟩,
 ⟨(some 29), .load 5 (.tmp 28), none⟩,
 ⟨(some 30), .convert 5 3 (.tmp 29), none⟩,
 ⟨(some 31), .fieldAddr 44 (.tmp 2) 1, none⟩,
 ⟨(some 32), .fieldAddr 31 (.tmp 31) 0, none⟩,
 ⟨(some 33), .load 3 (.tmp 32), none⟩,
 ⟨(some 34), .binOp .geq 3 (.tmp 30) (.tmp 33) 3, none⟩,
 ⟨(some 35), .move (.tmp 34), none⟩,
 ⟨(some 36), .fieldAddr 52 (.tmp 7) 1, (some (35, false))⟩,
 ⟨(some 37), .fieldAddr 50 (.tmp 36) 1, (some (35, false))⟩,
 ⟨(some 38), .load 5 (.tmp 37), (some (35, false))⟩,
 ⟨(some 39), .binOp .geq 5 (.tmp 38) (.const (.int .u8 6)) 5, (some (35, false))⟩,
 ⟨(some 40), .pick (.tmp 35) (.const (.bool true)) (.tmp 39), none⟩] 0)
 (.cond (.tmp 40) (.seq (.reg [] [⟨(some 4), .assign (.const (.bool false)), none⟩] 0)
 (.ret))
 (.skip)))
 (.seq (.seq (.reg [2, 5, 7, 13, 14, 15] [⟨(some 41), .fieldAddr 52 (.tmp 7) 2, none⟩,
 ⟨(some 42), .load 5 (.tmp 41), none⟩,
 ⟨(some 43), .fieldAddr 52 (.tmp 7) 1, none⟩,
 ⟨(some 44), .fieldAddr 50 (.tmp 43) 1, none⟩,
 ⟨(some 45), .load 5 (.tmp 44), none⟩,
 ⟨(some 46), .indexAddr 48 (.tmp 5) (.tmp 45), none⟩,
 ⟨(some 47), .load 5 (.tmp 46), none⟩,
 ⟨(some 48), .binOp .neq 5 (.tmp 42) (.tmp 47) 5, none⟩,
 ⟨(some 49), .move (.tmp 48), none⟩,
 ⟨(some 50), .fieldAddr 52 (.tmp 7) 3, (some (49, false))⟩,
 ⟨(some 51), .load 5 (.tmp 50), (some (49, false))⟩,
 ⟨(some 52), .fieldAddr 52 (.tmp 7) 1, (some (49, false))⟩,
 ⟨(some 53), .load 50 (.tmp 52), (some (49, false))⟩,
 ⟨(some 54), .fieldAddr 52 (.tmp 7) 2, (some (49, false))⟩,
 ⟨(some 55), .load 5 (.tmp 54), (some (49, false))⟩,
 ⟨(some 56), .call ⟨.value (.func 9), #[(.tmp 53), (.tmp 55)], #[50, 5]⟩, (some (49, false))⟩,
 ⟨(some 57), .binOp .neq 5 (.tmp 51) (.tmp 56) 5, (some (49, false))⟩,
 ⟨(some 58), .pick (.tmp 49) (.const (.bool true)) (.tmp 57), none⟩] 16)
 (.cond (.tmp 58) (.seq (.reg [] [⟨(some 4), .assign (.const (.bool false)), none⟩] 0)
 (.ret))
 (.skip)))
 (.reg [2, 5, 7, 13, 14, 15] [⟨(some 59), .fieldAddr 52 (.tmp 7) 1, none⟩,
 ⟨(some 60), .fieldAddr 50 (.tmp 59) 1, none⟩,
 ⟨(some 61), .load 5 (.tmp 60), none⟩,
 ⟨(some 62), .fieldAddr 52 (.tmp 7) 3, none⟩,
 ⟨(some 63), .load 5 (.tmp 62), none⟩,
 ⟨(some 64), .indexAddr 48 (.tmp 5) (.tmp 61), none⟩,
 ⟨none, .store 5 (.tmp 64) (.tmp 63), none⟩] 0))))))
 (.reg [2, 5, 13, 14, 15] [⟨(some 65), .binOp .add 3 (.tmp 15) (.const (.int .i64 1)) 3, none⟩,
 ⟨(some 15), .move (.tmp 65), none⟩] 0)))) :: k) st Q := Iff.rfl
def m6 : M :=
 .seq (.reg [0, 1] [⟨(some 2), .box 44 (.tmp 0), none⟩,
 ⟨(some 4), .assign (.const (.bool false)), none⟩] 0)
 (.seq (.reg [1, 2] [⟨(some 5), .alloc 48, none⟩] 0)
 (.seq (.reg [1, 2, 5] [⟨(some 8), .slice 48 (.tmp 5) none none none, none⟩,
 ⟨(some 9), .fieldAddr 44 (.tmp 2) 0, none⟩,
 ⟨(some 10), .fieldAddr 29 (.tmp 9) 2, none⟩,
 ⟨(some 11), .load 23 (.tmp 10), none⟩,
 ⟨(some 12), .call ⟨.builtin .copy, #[(.tmp 8), (.tmp 11)], #[23, 23]⟩, none⟩] 4)
 (.seq (.seq (.reg [1, 2, 5] [⟨(some 13), .move (.tmp 1), none⟩,
 ⟨(some 14), .call ⟨.builtin .len, #[(.tmp 13)], #[45]⟩, none⟩,
 ⟨(some 15), .move (.const (.int .i64 0)), none⟩] 0)
 (.block 0 (.loop (m6_l0))))
 (.seq (.reg [] [⟨(some 4), .assign (.const (.bool true)), none⟩] 0)
 (.ret)))))
def fn6 : MFn := ⟨66, [.tmp 4], m6, .shut⟩
theorem fnOk6 : FnOk Tryz.prog 6 fn6 := ⟨Tryz.f6, _, kpL passing [] [[0, 1], [1, 2], [1, 2, 5], [1, 2, 5], [2, 5, 13, 14, 15], [2, 5, 13, 14, 15], [2, 5, 7, 13, 14, 15], [], [2, 5, 7, 13, 14, 15, 21], [2, 5, 7, 13, 14, 15, 21], [2, 5, 7, 13, 14, 15, 21], [2, 5, 7, 13, 14, 15, 21], [2, 5, 7, 13, 14, 15, 21], [2, 5, 7, 13, 14, 15], [], [2, 5, 7, 13, 14, 15], [], [2, 5, 7, 13, 14, 15], [2, 5, 13, 14, 15], []], Tryz.func6, rfl, by kernel_rfl, by kernel_rfl, by kernel_rfl, by kernel_rfl⟩
/- seisin/seisinref32.Atomic -/
def m7_l1 : M :=
 .seq (.seq (.reg [1, 2, 5, 6, 7, 8] [⟨(some 37), .move (.tmp 8), none⟩,
 ⟨(some 38), .move (.tmp 5), none⟩,
 ⟨(some 39), .binOp .lss 3 (.tmp 37) (.tmp 38) 3, none⟩] 0)
 (.cond (.tmp 39) (.skip)
 (.exit 2)))
 (.seq (.block 3 (.seq (.reg [1, 2, 5, 6, 7, 8] [⟨(some 42), .move (.tmp 1), none⟩,
 ⟨(some 43), .move (.tmp 8), none⟩,
 ⟨(some 44), .indexAddr 45 (.tmp 42) (.tmp 43), none⟩,
 ⟨(some 45), .fieldAddr 52 (.tmp 44) 1, none⟩,
 ⟨(some 46), .fieldAddr 50 (.tmp 45) 1, none⟩,
 ⟨(some 47), .load 5 (.tmp 46), none⟩,
 ⟨(some 48), .fieldAddr 52 (.tmp 6) 1, none⟩,
 ⟨(some 49), .fieldAddr 50 (.tmp 48) 1, none⟩,
 ⟨(some 50), .load 5 (.tmp 49), none⟩,
 ⟨(some 51), .binOp .eql 5 (.tmp 47) (.tmp 50) 5, none⟩] 9)
 (.cond (.tmp 51) (.reg [1, 2, 5, 6, 8] [⟨(some 52), .move (.tmp 1), none⟩,
 ⟨(some 53), .move (.tmp 8), none⟩,
 ⟨(some 54), .indexAddr 45 (.tmp 52) (.tmp 53), none⟩,
 ⟨(some 55), .fieldAddr 52 (.tmp 54) 3, none⟩,
 ⟨(some 56), .load 5 (.tmp 55), none⟩,
 ⟨(some 7), .assign (.tmp 56), none⟩] 0)
 (.skip))))
 (.reg [1, 2, 5, 6, 7, 8] [⟨(some 40), .move (.tmp 8), none⟩,
 ⟨(some 41), .binOp .add 3 (.tmp 40) (.const (.int .i64 1)) 3, none⟩,
 ⟨(some 8), .assign (.tmp 41), none⟩] 0))
def m7_l0 : M :=
 .seq (.seq (.reg [1, 2, 5] [⟨(some 10), .move (.tmp 5), none⟩,
 ⟨(some 11), .move (.tmp 1), none⟩,
 ⟨(some 12), .call ⟨.builtin .len, #[(.tmp 11)], #[45]⟩, none⟩,
 ⟨(some 13), .binOp .lss 3 (.tmp 10) (.tmp 12) 3, none⟩] 0)
 (.cond (.tmp 13) (.skip)
 (.exit 0)))
 (.seq (.block 1 (.seq (.reg [1, 2, 5] [⟨(some 16), .move (.tmp 1), none⟩,
 ⟨(some 17), .move (.tmp 5), none⟩,
 ⟨(some 18), .indexAddr 45 (.tmp 16) (.tmp 17), none⟩,
 ⟨(some 19), .load 52 (.tmp 18), none⟩,
 ⟨(some 6), .alloc 52, none⟩,
 ⟨none, .store 52 (.tmp 6) (.tmp 19), none⟩] 0)
 (.seq (.reg [1, 2, 5, 6] [⟨(some 7), .assign (.const (.int .u8 0)), none⟩] 0)
 (.seq (.seq (.reg [1, 2, 5, 6, 7] [⟨(some 20), .fieldAddr 52 (.tmp 6) 1, none⟩,
 ⟨(some 21), .fieldAddr 50 (.tmp 20) 1, none⟩,
 ⟨(some 22), .load 5 (.tmp 21), none⟩,
 ⟨(some 23), .convert 5 3 (.tmp 22), none⟩,
 ⟨(some 24), .fieldAddr 44 (.tmp 2) 0, none⟩,
 ⟨(some 25), .fieldAddr 29 (.tmp 24) 2, none⟩,
 ⟨(some 26), .load 23 (.tmp 25), none⟩,
 ⟨(some 27), .call ⟨.builtin .len, #[(.tmp 26)], #[23]⟩, none⟩,
 ⟨(some 28), .binOp .lss 3 (.tmp 23) (.tmp 27) 3, none⟩] 0)
 (.cond (.tmp 28) (.reg [1, 2, 5, 6] [⟨(some 29), .fieldAddr 44 (.tmp 2) 0, none⟩,
 ⟨(some 30), .fieldAddr 29 (.tmp 29) 2, none⟩,
 ⟨(some 31), .load 23 (.tmp 30), none⟩,
 ⟨(some 32), .fieldAddr 52 (.tmp 6) 1, none⟩,
 ⟨(some 33), .fieldAddr 50 (.tmp 32) 1, none⟩,
 ⟨(some 34), .load 5 (.tmp 33), none⟩,
 ⟨(some 35), .indexAddr 23 (.tmp 31) (.tmp 34), none⟩,
 ⟨(some 36), .load 5 (.tmp 35), none⟩,
 ⟨(some 7), .assign (.tmp 36), none⟩] 0)
 (.skip)))
 (.seq (.seq (.reg [1, 2, 5, 6, 7] [⟨(some 8), .assign (.const (.int .i64 0)), none⟩] 0)
 (.block 2 (.loop (m7_l1))))
 (.seq (.reg [1, 2, 5, 6, 7] [⟨(some 57), .fieldAddr 52 (.tmp 6) 1, none⟩,
 ⟨(some 58), .fieldAddr 50 (.tmp 57) 0, none⟩,
 ⟨(some 59), .load 5 (.tmp 58), none⟩,
 ⟨(some 9), .assign (.tmp 59), none⟩] 0)
 (.seq (.reg [1, 2, 5, 6, 7, 9] [⟨(some 60), .fieldAddr 52 (.tmp 6) 0, none⟩,
 ⟨(some 61), .load 5 (.tmp 60), none⟩,
 ⟨(some 62), .convert 5 3 (.tmp 61), none⟩,
 ⟨(some 63), .fieldAddr 44 (.tmp 2) 1, none⟩,
 ⟨(some 64), .fieldAddr 31 (.tmp 63) 0, none⟩,
 ⟨(some 65), .load 3 (.tmp 64), none⟩,
 ⟨(some 66), .binOp .geq 3 (.tmp 62) (.tmp 65) 3, none⟩,
 ⟨(some 67), .move (.tmp 66), none⟩,
 ⟨(some 68), .move (.tmp 9), (some (67, false))⟩,
 ⟨(some 69), .binOp .eql 5 (.tmp 68) (.const (.int .u8 1)) 5, (some (67, false))⟩,
 ⟨(some 70), .move (.tmp 69), (some (67, false))⟩,
 ⟨(some 71), .move (.tmp 9), (some (70, false))⟩,
 ⟨(some 72), .binOp .eql 5 (.tmp 71) (.const (.int .u8 2)) 5, (some (70, false))⟩,
 ⟨(some 73), .pick (.tmp 70) (.const (.bool true)) (.tmp 72), (some (67, false))⟩,
 ⟨(some 74), .move (.tmp 73), (some (67, false))⟩,
 ⟨(some 75), .move (.tmp 9), (some (74, false))⟩,
 ⟨(some 76), .binOp .eql 5 (.tmp 75) (.const (.int .u8 4)) 5, (some (74, false))⟩,
 ⟨(some 77), .pick (.tmp 74) (.const (.bool true)) (.tmp 76), (some (67, false))⟩,
 ⟨(some 78), .move (.tmp 77), (some (67, false))⟩,
 ⟨(some 79), .move (.tmp 9), (some (78, false))⟩,
 ⟨(some 80), .binOp .eql 5 (.tmp 79) (.const (.int .u8 5)) 5, (some (78, false))⟩,
 ⟨(some 81), .pick (.tmp 78) (.const (.bool true)) (.tmp 80), (some (67, false))⟩,
 ⟨(some 82), .move (.tmp 81), (some (67, false))⟩,
 ⟨(some 83), .move (.tmp 9), (some (82, false))⟩,
 ⟨(some 84), .binOp .eql 5 (.tmp 83) (.const (.int .u8 6)) 5, (some (82, false))⟩,
 ⟨(some 85), .pick (.tmp 82) (.const (.bool true)) (.tmp 84), (some (67, false))⟩,
 ⟨(some 86), .unOp .not 4 (.tmp 85), (some (67, false))⟩,
 ⟨(some 87), .pick (.tmp 67) (.const (.bool true)) (.tmp 86), none⟩,
 ⟨(some 88), .move (.tmp 87), none⟩,
 ⟨(some 89), .fieldAddr 52 (.tmp 6) 1, (some (88, false))⟩,
 ⟨(some 90), .fieldAddr 50 (.tmp 89) 1, (some (88, false))⟩,
 ⟨(some 91), .load 5 (.tmp 90), (some (88, false))⟩,
 ⟨(some 92), .binOp .gtr 5 (.tmp 91) (.const (.int .u8 5)) 5, (some (88, false))⟩,
 ⟨(some 93), .pick (.tmp 88) (.const (.bool true)) (.tmp 92), none⟩,
 ⟨(some 94), .move (.tmp 93), none⟩,
 ⟨(some 95), .fieldAddr 52 (.tmp 6) 2, (some (94, false))⟩,
 ⟨(some 96), .load 5 (.tmp 95), (some (94, false))⟩,
 ⟨(some 97), .move (.tmp 7), (some (94, false))⟩,
 ⟨(some 98), .binOp .neq 5 (.tmp 96) (.tmp 97) 5, (some (94, false))⟩,
 ⟨(some 99), .pick (.tmp 94) (.const (.bool true)) (.tmp 98), none⟩,
 ⟨(some 100), .move (.tmp 99), none⟩,
 ⟨(some 101), .fieldAddr 52 (.tmp 6) 3, (some (100, false))⟩,
 ⟨(some 102), .load 5 (.tmp 101), (some (100, false))⟩,
 ⟨(some 103), .fieldAddr 52 (.tmp 6) 1, (some (100, false))⟩,
 ⟨(some 104), .load 50 (.tmp 103), (some (100, false))⟩,
 ⟨(some 105), .move (.tmp 7), (some (100, false))⟩,
 ⟨(some 106), .call ⟨.value (.func 19), #[(.tmp 104), (.tmp 105)], #[50, 5]⟩, (some (100, false))⟩,
 ⟨(some 107), .binOp .neq 5 (.tmp 102) (.tmp 106) 5, (some (100, false))⟩,
 ⟨(some 108), .pick (.tmp 100) (.const (.bool true)) (.tmp 107), none⟩] 47)
 (.cond (.tmp 108) (.seq (.reg [] [⟨(some 4), .assign (.const (.bool false)), none⟩] 0)
 (.ret))
 (.skip)))))))))
 (.reg [1, 2, 5] [⟨(some 14), .move (.tmp 5), none⟩,
 ⟨(some 15), .binOp .add 3 (.tmp 14) (.const (.int .i64 1)) 3, none⟩,
 ⟨(some 5), .assign (.tmp 15), none⟩] 0))
theorem u7_l1 {C : Ctx} {k : List It} {st : St} {Q : Ex → St → Prop} : RunK C (.code m7_l1 :: k) st Q ↔ RunK C (.code (.seq (.seq (.reg [1, 2, 5, 6, 7, 8] [⟨(some 37), .move (.tmp 8), none⟩,
 ⟨(some 38), .move (.tmp 5), none⟩,
 ⟨(some 39), .binOp .lss 3 (.tmp 37) (.tmp 38) 3, none⟩] 0)
 (.cond (.tmp 39) (.skip)
 (.exit 2)))
 (.seq (.block 3 (.seq (.reg [1, 2, 5, 6, 7, 8] [⟨(some 42), .move (.tmp 1), none⟩,
 ⟨(some 43), .move (.tmp 8), none⟩,
 ⟨(some 44), .indexAddr 45 (.tmp 42) (.tmp 43), none⟩,
 ⟨(some 45), .fieldAddr 52 (.tmp 44) 1, none⟩,
 ⟨(some 46), .fieldAddr 50 (.tmp 45) 1, none⟩,
 ⟨(some 47), .load 5 (.tmp 46), none⟩,
 ⟨(some 48), .fieldAddr 52 (.tmp 6) 1, none⟩,
 ⟨(some 49), .fieldAddr 50 (.tmp 48) 1, none⟩,
 ⟨(some 50), .load 5 (.tmp 49), none⟩,
 ⟨(some 51), .binOp .eql 5 (.tmp 47) (.tmp 50) 5, none⟩] 9)
 (.cond (.tmp 51) (.reg [1, 2, 5, 6, 8] [⟨(some 52), .move (.tmp 1), none⟩,
 ⟨(some 53), .move (.tmp 8), none⟩,
 ⟨(some 54), .indexAddr 45 (.tmp 52) (.tmp 53), none⟩,
 ⟨(some 55), .fieldAddr 52 (.tmp 54) 3, none⟩,
 ⟨(some 56), .load 5 (.tmp 55), none⟩,
 ⟨(some 7), .assign (.tmp 56), none⟩] 0)
 (.skip))))
 (.reg [1, 2, 5, 6, 7, 8] [⟨(some 40), .move (.tmp 8), none⟩,
 ⟨(some 41), .binOp .add 3 (.tmp 40) (.const (.int .i64 1)) 3, none⟩,
 ⟨(some 8), .assign (.tmp 41), none⟩] 0))) :: k) st Q := Iff.rfl
theorem u7_l0 {C : Ctx} {k : List It} {st : St} {Q : Ex → St → Prop} : RunK C (.code m7_l0 :: k) st Q ↔ RunK C (.code (.seq (.seq (.reg [1, 2, 5] [⟨(some 10), .move (.tmp 5), none⟩,
 ⟨(some 11), .move (.tmp 1), none⟩,
 ⟨(some 12), .call ⟨.builtin .len, #[(.tmp 11)], #[45]⟩, none⟩,
 ⟨(some 13), .binOp .lss 3 (.tmp 10) (.tmp 12) 3, none⟩] 0)
 (.cond (.tmp 13) (.skip)
 (.exit 0)))
 (.seq (.block 1 (.seq (.reg [1, 2, 5] [⟨(some 16), .move (.tmp 1), none⟩,
 ⟨(some 17), .move (.tmp 5), none⟩,
 ⟨(some 18), .indexAddr 45 (.tmp 16) (.tmp 17), none⟩,
 ⟨(some 19), .load 52 (.tmp 18), none⟩,
 ⟨(some 6), .alloc 52, none⟩,
 ⟨none, .store 52 (.tmp 6) (.tmp 19), none⟩] 0)
 (.seq (.reg [1, 2, 5, 6] [⟨(some 7), .assign (.const (.int .u8 0)), none⟩] 0)
 (.seq (.seq (.reg [1, 2, 5, 6, 7] [⟨(some 20), .fieldAddr 52 (.tmp 6) 1, none⟩,
 ⟨(some 21), .fieldAddr 50 (.tmp 20) 1, none⟩,
 ⟨(some 22), .load 5 (.tmp 21), none⟩,
 ⟨(some 23), .convert 5 3 (.tmp 22), none⟩,
 ⟨(some 24), .fieldAddr 44 (.tmp 2) 0, none⟩,
 ⟨(some 25), .fieldAddr 29 (.tmp 24) 2, none⟩,
 ⟨(some 26), .load 23 (.tmp 25), none⟩,
 ⟨(some 27), .call ⟨.builtin .len, #[(.tmp 26)], #[23]⟩, none⟩,
 ⟨(some 28), .binOp .lss 3 (.tmp 23) (.tmp 27) 3, none⟩] 0)
 (.cond (.tmp 28) (.reg [1, 2, 5, 6] [⟨(some 29), .fieldAddr 44 (.tmp 2) 0, none⟩,
 ⟨(some 30), .fieldAddr 29 (.tmp 29) 2, none⟩,
 ⟨(some 31), .load 23 (.tmp 30), none⟩,
 ⟨(some 32), .fieldAddr 52 (.tmp 6) 1, none⟩,
 ⟨(some 33), .fieldAddr 50 (.tmp 32) 1, none⟩,
 ⟨(some 34), .load 5 (.tmp 33), none⟩,
 ⟨(some 35), .indexAddr 23 (.tmp 31) (.tmp 34), none⟩,
 ⟨(some 36), .load 5 (.tmp 35), none⟩,
 ⟨(some 7), .assign (.tmp 36), none⟩] 0)
 (.skip)))
 (.seq (.seq (.reg [1, 2, 5, 6, 7] [⟨(some 8), .assign (.const (.int .i64 0)), none⟩] 0)
 (.block 2 (.loop (m7_l1))))
 (.seq (.reg [1, 2, 5, 6, 7] [⟨(some 57), .fieldAddr 52 (.tmp 6) 1, none⟩,
 ⟨(some 58), .fieldAddr 50 (.tmp 57) 0, none⟩,
 ⟨(some 59), .load 5 (.tmp 58), none⟩,
 ⟨(some 9), .assign (.tmp 59), none⟩] 0)
 (.seq (.reg [1, 2, 5, 6, 7, 9] [⟨(some 60), .fieldAddr 52 (.tmp 6) 0, none⟩,
 ⟨(some 61), .load 5 (.tmp 60), none⟩,
 ⟨(some 62), .convert 5 3 (.tmp 61), none⟩,
 ⟨(some 63), .fieldAddr 44 (.tmp 2) 1, none⟩,
 ⟨(some 64), .fieldAddr 31 (.tmp 63) 0, none⟩,
 ⟨(some 65), .load 3 (.tmp 64), none⟩,
 ⟨(some 66), .binOp .geq 3 (.tmp 62) (.tmp 65) 3, none⟩,
 ⟨(some 67), .move (.tmp 66), none⟩,
 ⟨(some 68), .move (.tmp 9), (some (67, false))⟩,
 ⟨(some 69), .binOp .eql 5 (.tmp 68) (.const (.int .u8 1)) 5, (some (67, false))⟩,
 ⟨(some 70), .move (.tmp 69), (some (67, false))⟩,
 ⟨(some 71), .move (.tmp 9), (some (70, false))⟩,
 ⟨(some 72), .binOp .eql 5 (.tmp 71) (.const (.int .u8 2)) 5, (some (70, false))⟩,
 ⟨(some 73), .pick (.tmp 70) (.const (.bool true)) (.tmp 72), (some (67, false))⟩,
 ⟨(some 74), .move (.tmp 73), (some (67, false))⟩,
 ⟨(some 75), .move (.tmp 9), (some (74, false))⟩,
 ⟨(some 76), .binOp .eql 5 (.tmp 75) (.const (.int .u8 4)) 5, (some (74, false))⟩,
 ⟨(some 77), .pick (.tmp 74) (.const (.bool true)) (.tmp 76), (some (67, false))⟩,
 ⟨(some 78), .move (.tmp 77), (some (67, false))⟩,
 ⟨(some 79), .move (.tmp 9), (some (78, false))⟩,
 ⟨(some 80), .binOp .eql 5 (.tmp 79) (.const (.int .u8 5)) 5, (some (78, false))⟩,
 ⟨(some 81), .pick (.tmp 78) (.const (.bool true)) (.tmp 80), (some (67, false))⟩,
 ⟨(some 82), .move (.tmp 81), (some (67, false))⟩,
 ⟨(some 83), .move (.tmp 9), (some (82, false))⟩,
 ⟨(some 84), .binOp .eql 5 (.tmp 83) (.const (.int .u8 6)) 5, (some (82, false))⟩,
 ⟨(some 85), .pick (.tmp 82) (.const (.bool true)) (.tmp 84), (some (67, false))⟩,
 ⟨(some 86), .unOp .not 4 (.tmp 85), (some (67, false))⟩,
 ⟨(some 87), .pick (.tmp 67) (.const (.bool true)) (.tmp 86), none⟩,
 ⟨(some 88), .move (.tmp 87), none⟩,
 ⟨(some 89), .fieldAddr 52 (.tmp 6) 1, (some (88, false))⟩,
 ⟨(some 90), .fieldAddr 50 (.tmp 89) 1, (some (88, false))⟩,
 ⟨(some 91), .load 5 (.tmp 90), (some (88, false))⟩,
 ⟨(some 92), .binOp .gtr 5 (.tmp 91) (.const (.int .u8 5)) 5, (some (88, false))⟩,
 ⟨(some 93), .pick (.tmp 88) (.const (.bool true)) (.tmp 92), none⟩,
 ⟨(some 94), .move (.tmp 93), none⟩,
 ⟨(some 95), .fieldAddr 52 (.tmp 6) 2, (some (94, false))⟩,
 ⟨(some 96), .load 5 (.tmp 95), (some (94, false))⟩,
 ⟨(some 97), .move (.tmp 7), (some (94, false))⟩,
 ⟨(some 98), .binOp .neq 5 (.tmp 96) (.tmp 97) 5, (some (94, false))⟩,
 ⟨(some 99), .pick (.tmp 94) (.const (.bool true)) (.tmp 98), none⟩,
 ⟨(some 100), .move (.tmp 99), none⟩,
 ⟨(some 101), .fieldAddr 52 (.tmp 6) 3, (some (100, false))⟩,
 ⟨(some 102), .load 5 (.tmp 101), (some (100, false))⟩,
 ⟨(some 103), .fieldAddr 52 (.tmp 6) 1, (some (100, false))⟩,
 ⟨(some 104), .load 50 (.tmp 103), (some (100, false))⟩,
 ⟨(some 105), .move (.tmp 7), (some (100, false))⟩,
 ⟨(some 106), .call ⟨.value (.func 19), #[(.tmp 104), (.tmp 105)], #[50, 5]⟩, (some (100, false))⟩,
 ⟨(some 107), .binOp .neq 5 (.tmp 102) (.tmp 106) 5, (some (100, false))⟩,
 ⟨(some 108), .pick (.tmp 100) (.const (.bool true)) (.tmp 107), none⟩] 47)
 (.cond (.tmp 108) (.seq (.reg [] [⟨(some 4), .assign (.const (.bool false)), none⟩] 0)
 (.ret))
 (.skip)))))))))
 (.reg [1, 2, 5] [⟨(some 14), .move (.tmp 5), none⟩,
 ⟨(some 15), .binOp .add 3 (.tmp 14) (.const (.int .i64 1)) 3, none⟩,
 ⟨(some 5), .assign (.tmp 15), none⟩] 0))) :: k) st Q := Iff.rfl
def m7 : M :=
 .seq (.reg [0, 1] [⟨(some 2), .box 44 (.tmp 0), none⟩,
 ⟨(some 4), .assign (.const (.bool false)), none⟩] 0)
 (.seq (.seq (.reg [1, 2] [⟨(some 5), .assign (.const (.int .i64 0)), none⟩] 0)
 (.block 0 (.loop (m7_l0))))
 (.seq (.reg [] [⟨(some 4), .assign (.const (.bool true)), none⟩] 0)
 (.ret)))
def fn7 : MFn := ⟨109, [.tmp 4], m7, .shut⟩
theorem fnOk7 : FnOk Tryz.prog 7 fn7 := ⟨Tryz.f7, _, kpL passing [] [[0, 1], [1, 2], [1, 2, 5], [1, 2, 5], [1, 2, 5], [1, 2, 5, 6], [1, 2, 5, 6, 7], [1, 2, 5, 6], [1, 2, 5, 6, 7], [1, 2, 5, 6, 7, 8], [1, 2, 5, 6, 7, 8], [1, 2, 5, 6, 7, 8], [1, 2, 5, 6, 8], [1, 2, 5, 6, 7], [1, 2, 5, 6, 7, 9], [], []], Tryz.func7, rfl, by kernel_rfl, by kernel_rfl, by kernel_rfl, by kernel_rfl⟩
/- seisin/seisinlaw32.awake -/
def m8 : M :=
 .seq (.reg [] [⟨(some 0), .assign (.const (.bool false)), none⟩] 0)
 (.seq (.reg [] [⟨(some 8), .call ⟨.value (.func 20), #[], #[]⟩, none⟩,
 ⟨(some 7), .move (.tmp 8), none⟩,
 ⟨(some 9), .extract (.tmp 7) 0, none⟩,
 ⟨(some 10), .extract (.tmp 7) 1, none⟩,
 ⟨(some 1), .alloc 44, none⟩,
 ⟨(some 2), .alloc 69, none⟩,
 ⟨none, .store 44 (.tmp 1) (.tmp 9), none⟩,
 ⟨none, .store 69 (.tmp 2) (.tmp 10), none⟩] 0)
 (.seq (.seq (.reg [1, 2] [⟨(some 11), .fieldAddr 69 (.tmp 2) 1, none⟩,
 ⟨(some 12), .load 57 (.tmp 11), none⟩,
 ⟨(some 13), .call ⟨.builtin .len, #[(.tmp 12)], #[57]⟩, none⟩,
 ⟨(some 14), .binOp .neq 3 (.tmp 13) (.const (.int .i64 2)) 3, none⟩] 0)
 (.cond (.tmp 14) (.seq (.reg [] [⟨(some 0), .assign (.const (.bool false)), none⟩] 0)
 (.ret))
 (.skip)))
 (.seq (.reg [1, 2] [⟨(some 15), .load 69 (.tmp 2), none⟩,
 ⟨(some 3), .alloc 69, none⟩,
 ⟨none, .store 69 (.tmp 3) (.tmp 15), none⟩] 0)
 (.seq (.reg [1, 2, 3] [⟨(some 16), .buildSlice 67 0 #[], none⟩,
 ⟨(some 17), .build 77 #[(0, (.const (.int .u8 4))), (2, (.const (.int .u8 2)))], none⟩,
 ⟨(some 18), .buildSlice 67 1 #[(0, (.tmp 17))], none⟩,
 ⟨(some 19), .call ⟨.builtin .append, #[(.tmp 16), (.tmp 18)], #[67, 67]⟩, none⟩,
 ⟨(some 20), .fieldAddr 69 (.tmp 3) 3, none⟩,
 ⟨none, .store 67 (.tmp 20) (.tmp 19), none⟩] 0)
 (.seq (.reg [1, 2, 3] [⟨(some 21), .build 50 #[(0, (.const (.int .u8 2))), (2, (.const (.int .u8 1)))], none⟩,
 ⟨(some 22), .build 52 #[(1, (.tmp 21)), (3, (.const (.int .u8 1)))], none⟩,
 ⟨(some 23), .build 50 #[(0, (.const (.int .u8 1)))], none⟩,
 ⟨(some 24), .build 52 #[(0, (.const (.int .u8 1))), (1, (.tmp 23)), (2, (.const (.int .u8 1))), (3, (.const (.int .u8 1)))], none⟩,
 ⟨(some 4), .alloc 52, none⟩,
 ⟨(some 5), .alloc 52, none⟩,
 ⟨none, .store 52 (.tmp 4) (.tmp 22), none⟩,
 ⟨none, .store 52 (.tmp 5) (.tmp 24), none⟩] 0)
 (.seq (.reg [1, 2, 3, 4, 5] [⟨(some 25), .build 50 #[(0, (.const (.int .u8 1)))], none⟩,
 ⟨(some 26), .build 52 #[(0, (.const (.int .u8 1))), (1, (.tmp 25))], none⟩,
 ⟨(some 6), .alloc 52, none⟩,
 ⟨none, .store 52 (.tmp 6) (.tmp 26), none⟩] 0)
 (.seq (.seq (.reg [1, 2, 3, 4, 5, 6] [⟨(some 27), .load 44 (.tmp 1), none⟩,
 ⟨(some 28), .load 69 (.tmp 2), none⟩,
 ⟨(some 29), .call ⟨.value (.func 17), #[(.tmp 27), (.tmp 28)], #[44, 69]⟩, none⟩,
 ⟨(some 30), .binOp .eql 5 (.tmp 29) (.const (.int .u8 0)) 5, none⟩,
 ⟨(some 31), .move (.tmp 30), none⟩,
 ⟨(some 32), .load 44 (.tmp 1), (some (31, true))⟩,
 ⟨(some 33), .load 69 (.tmp 2), (some (31, true))⟩,
 ⟨(some 34), .build 63 #[], (some (31, true))⟩,
 ⟨(some 35), .call ⟨.value (.func 21), #[(.tmp 33), (.const (.int .i64 0)), (.const (.int .u8 4)), (.tmp 34)], #[69, 3, 5, 63]⟩, (some (31, true))⟩,
 ⟨(some 36), .build 63 #[], (some (31, true))⟩,
 ⟨(some 37), .call ⟨.value (.func 21), #[(.tmp 35), (.const (.int .i64 1)), (.const (.int .u8 4)), (.tmp 36)], #[69, 3, 5, 63]⟩, (some (31, true))⟩,
 ⟨(some 38), .call ⟨.value (.func 17), #[(.tmp 32), (.tmp 37)], #[44, 69]⟩, (some (31, true))⟩,
 ⟨(some 39), .binOp .eql 5 (.tmp 38) (.const (.int .u8 2)) 5, (some (31, true))⟩,
 ⟨(some 40), .pick (.tmp 31) (.tmp 39) (.const (.bool false)), none⟩,
 ⟨(some 41), .move (.tmp 40), none⟩,
 ⟨(some 42), .load 44 (.tmp 1), (some (41, true))⟩,
 ⟨(some 43), .load 69 (.tmp 2), (some (41, true))⟩,
 ⟨(some 44), .build 63 #[(0, (.const (.int .u8 1)))], (some (41, true))⟩,
 ⟨(some 45), .call ⟨.value (.func 21), #[(.tmp 43), (.const (.int .i64 0)), (.const (.int .u8 1)), (.tmp 44)], #[69, 3, 5, 63]⟩, (some (41, true))⟩,
 ⟨(some 46), .call ⟨.value (.func 17), #[(.tmp 42), (.tmp 45)], #[44, 69]⟩, (some (41, true))⟩,
 ⟨(some 47), .binOp .eql 5 (.tmp 46) (.const (.int .u8 3)) 5, (some (41, true))⟩,
 ⟨(some 48), .pick (.tmp 41) (.tmp 47) (.const (.bool false)), none⟩,
 ⟨(some 49), .move (.tmp 48), none⟩,
 ⟨(some 50), .load 44 (.tmp 1), (some (49, true))⟩,
 ⟨(some 51), .load 69 (.tmp 2), (some (49, true))⟩,
 ⟨(some 52), .build 63 #[], (some (49, true))⟩,
 ⟨(some 53), .call ⟨.value (.func 21), #[(.tmp 51), (.const (.int .i64 0)), (.const (.int .u8 1)), (.tmp 52)], #[69, 3, 5, 63]⟩, (some (49, true))⟩,
 ⟨(some 54), .call ⟨.value (.func 17), #[(.tmp 50), (.tmp 53)], #[44, 69]⟩, (some (49, true))⟩,
 ⟨(some 55), .binOp .eql 5 (.tmp 54) (.const (.int .u8 4)) 5, (some (49, true))⟩,
 ⟨(some 56), .pick (.tmp 49) (.tmp 55) (.const (.bool false)), none⟩,
 ⟨(some 57), .move (.tmp 56), none⟩,
 ⟨(some 58), .load 44 (.tmp 1), (some (57, true))⟩,
 ⟨(some 59), .load 69 (.tmp 3), (some (57, true))⟩,
 ⟨(some 60), .call ⟨.value (.func 17), #[(.tmp 58), (.tmp 59)], #[44, 69]⟩, (some (57, true))⟩,
 ⟨(some 61), .binOp .eql 5 (.tmp 60) (.const (.int .u8 5)) 5, (some (57, true))⟩,
 ⟨(some 62), .pick (.tmp 57) (.tmp 61) (.const (.bool false)), none⟩,
 ⟨(some 63), .move (.tmp 62), none⟩,
 ⟨(some 64), .load 44 (.tmp 1), (some (63, true))⟩,
 ⟨(some 65), .load 52 (.tmp 4), (some (63, true))⟩,
 ⟨(some 66), .load 52 (.tmp 5), (some (63, true))⟩,
 ⟨(some 67), .buildSlice 45 2 #[(0, (.tmp 65)), (1, (.tmp 66))], (some (63, true))⟩,
 ⟨(some 68), .call ⟨.value (.func 6), #[(.tmp 64), (.tmp 67)], #[44, 45]⟩, (some (63, true))⟩,
 ⟨(some 69), .pick (.tmp 63) (.tmp 68) (.const (.bool false)), none⟩,
 ⟨(some 70), .move (.tmp 69), none⟩,
 ⟨(some 71), .load 44 (.tmp 1), (some (70, true))⟩,
 ⟨(some 72), .load 52 (.tmp 4), (some (70, true))⟩] 46)
 (.seq (.ops [⟨(some 73), .load 52 (.tmp 6), (some (70, true))⟩])
 (.seq (.again [⟨(some 71), .load 44 (.tmp 1), (some (70, true))⟩,
 ⟨(some 72), .load 52 (.tmp 4), (some (70, true))⟩])
 (.seq (.ops [⟨(some 74), .buildSlice 45 2 #[(0, (.tmp 72)), (1, (.tmp 73))], (some (70, true))⟩])
 (.seq (.again [⟨(some 71), .load 44 (.tmp 1), (some (70, true))⟩])
 (.seq (.ops [⟨(some 75), .call ⟨.value (.func 6), #[(.tmp 71), (.tmp 74)], #[44, 45]⟩, (some (70, true))⟩])
 (.seq (.again [])
 (.seq (.ops [⟨(some 76), .unOp .not 4 (.tmp 75), (some (70, true))⟩])
 (.seq (.again [])
 (.seq (.ops [⟨(some 77), .pick (.tmp 70) (.tmp 76) (.const (.bool false)), none⟩])
 (.seq (.again [])
 (.seq (.ops [⟨(some 0), .assign (.tmp 77), none⟩])
 (.seq (.again [])
 (.skip))))))))))))))
 (.ret))))))))
def fn8 : MFn := ⟨78, [.tmp 0], m8, .shut⟩
theorem fnOk8 : FnOk Tryz.prog 8 fn8 := ⟨Tryz.f8, _, kpL passing [] [[], [], [1, 2], [], [1, 2], [1, 2, 3], [1, 2, 3], [1, 2, 3, 4, 5], [1, 2, 3, 4, 5, 6]], Tryz.func8, rfl, by kernel_rfl, by kernel_rfl, by kernel_rfl, by kernel_rfl⟩
/- seisin/cache.After -/
def m9 : M :=
 .seq (.reg [0, 1] [⟨(some 2), .box 50 (.tmp 0), none⟩,
 ⟨(some 4), .assign (.const (.int .u8 0)), none⟩] 0)
 (.seq (.seq (.reg [1, 2] [⟨(some 5), .fieldAddr 50 (.tmp 2) 0, none⟩,
 ⟨(some 6), .load 5 (.tmp 5), none⟩] 0)
 (.block 0 (.seq (.seq (.reg [1, 2, 6] [⟨(some 8), .binOp .eql 5 (.tmp 6) (.const (.int .u8 2)) 5, none⟩,
 ⟨(some 7), .assign (.tmp 8), none⟩] 0)
 (.cond (.tmp 7) (.skip)
 (.reg [1, 2, 6] [⟨(some 9), .binOp .eql 5 (.tmp 6) (.const (.int .u8 4)) 5, none⟩,
 ⟨(some 7), .assign (.tmp 9), none⟩] 0)))
 (.cond (.tmp 7) (.seq (.reg [2] [⟨(some 10), .fieldAddr 50 (.tmp 2) 2, none⟩,
 ⟨(some 11), .load 5 (.tmp 10), none⟩,
 ⟨(some 4), .assign (.tmp 11), none⟩] 0)
 (.ret))
 (.seq (.reg [1, 2, 6] [⟨(some 13), .binOp .eql 5 (.tmp 6) (.const (.int .u8 5)) 5, none⟩,
 ⟨(some 12), .assign (.tmp 13), none⟩] 0)
 (.cond (.tmp 12) (.seq (.reg [1, 2] [⟨(some 14), .move (.tmp 1), none⟩,
 ⟨(some 15), .fieldAddr 50 (.tmp 2) 2, none⟩,
 ⟨(some 16), .load 5 (.tmp 15), none⟩,
 ⟨(some 17), .binOp .add 5 (.tmp 14) (.tmp 16) 5, none⟩,
 ⟨(some 4), .assign (.tmp 17), none⟩] 0)
 (.ret))
 (.seq (.reg [1, 2, 6] [⟨(some 19), .binOp .eql 5 (.tmp 6) (.const (.int .u8 6)) 5, none⟩,
 ⟨(some 18), .assign (.tmp 19), none⟩] 0)
 (.cond (.tmp 18) (.seq (.reg [1, 2] [⟨(some 20), .move (.tmp 1), none⟩,
 ⟨(some 21), .fieldAddr 50 (.tmp 2) 2, none⟩,
 ⟨(some 22), .load 5 (.tmp 21), none⟩,
 ⟨(some 23), .binOp .eql 5 (.tmp 20) (.tmp 22) 5, none⟩] 0)
 (.cond (.tmp 23) (.seq (.reg [2] [⟨(some 24), .fieldAddr 50 (.tmp 2) 3, none⟩,
 ⟨(some 25), .load 5 (.tmp 24), none⟩,
 ⟨(some 4), .assign (.tmp 25), none⟩] 0)
 (.ret))
 (.skip)))
 (.skip)))))))))
 (.seq (.reg [1] [⟨(some 26), .move (.tmp 1), none⟩,
 ⟨(some 4), .assign (.tmp 26), none⟩] 0)
 (.ret)))
def fn9 : MFn := ⟨27, [.tmp 4], m9, .shut⟩
theorem fnOk9 : FnOk Tryz.prog 9 fn9 := ⟨Tryz.f9, _, kpL passing [] [[0, 1], [1, 2], [1, 2, 6], [1, 2, 6], [2], [1, 2, 6], [1, 2], [1, 2, 6], [1, 2], [2], [1]], Tryz.func9, rfl, by kernel_rfl, by kernel_rfl, by kernel_rfl, by kernel_rfl⟩
/- seisin/inv.Shaped -/
def m15_l0 : M :=
 .seq (.reg [2, 3, 24, 25, 26] [⟨(some 27), .binOp .lss 3 (.tmp 26) (.tmp 25) 3, none⟩] 0)
 (.seq (.cond (.tmp 27) (.skip)
 (.exit 0))
 (.seq (.block 1 (.seq (.reg [2, 3, 24, 25, 26] [⟨(some 28), .indexAddr 57 (.tmp 24) (.tmp 26), none⟩,
 ⟨(some 29), .load 90 (.tmp 28), none⟩,
 ⟨(some 6), .alloc 90, none⟩,
 ⟨none, .store 90 (.tmp 6) (.tmp 29), none⟩] 0)
 (.seq (.reg [2, 3, 6, 24, 25, 26] [⟨(some 30), .fieldAddr 44 (.tmp 2) 1, none⟩,
 ⟨(some 31), .load 31 (.tmp 30), none⟩,
 ⟨(some 32), .load 90 (.tmp 6), none⟩,
 ⟨(some 33), .call ⟨.value (.func 29), #[(.tmp 31), (.tmp 32)], #[31, 90]⟩, none⟩,
 ⟨(some 34), .unOp .not 4 (.tmp 33), none⟩] 0)
 (.cond (.tmp 34) (.seq (.reg [] [⟨(some 4), .assign (.const (.bool false)), none⟩] 0)
 (.ret))
 (.skip)))))
 (.reg [2, 3, 24, 25, 26] [⟨(some 35), .binOp .add 3 (.tmp 26) (.const (.int .i64 1)) 3, none⟩,
 ⟨(some 26), .move (.tmp 35), none⟩] 0)))
def m15_l1 : M :=
 .seq (.reg [2, 3, 37, 38, 39] [⟨(some 40), .binOp .lss 3 (.tmp 39) (.tmp 38) 3, none⟩] 0)
 (.seq (.cond (.tmp 40) (.skip)
 (.exit 2))
 (.seq (.block 3 (.seq (.reg [2, 3, 37, 38, 39] [⟨(some 41), .indexAddr 67 (.tmp 37) (.tmp 39), none⟩,
 ⟨(some 42), .load 77 (.tmp 41), none⟩,
 ⟨(some 8), .alloc 77, none⟩,
 ⟨none, .store 77 (.tmp 8) (.tmp 42), none⟩] 0)
 (.seq (.reg [2, 3, 8, 37, 38, 39] [⟨(some 43), .fieldAddr 44 (.tmp 2) 1, none⟩,
 ⟨(some 44), .load 31 (.tmp 43), none⟩,
 ⟨(some 45), .load 77 (.tmp 8), none⟩,
 ⟨(some 46), .call ⟨.value (.func 30), #[(.tmp 44), (.tmp 45)], #[31, 77]⟩, none⟩,
 ⟨(some 47), .unOp .not 4 (.tmp 46), none⟩] 0)
 (.cond (.tmp 47) (.seq (.reg [] [⟨(some 4), .assign (.const (.bool false)), none⟩] 0)
 (.ret))
 (.skip)))))
 (.reg [2, 3, 37, 38, 39] [⟨(some 48), .binOp .add 3 (.tmp 39) (.const (.int .i64 1)) 3, none⟩,
 ⟨(some 39), .move (.tmp 48), none⟩] 0)))
def m15_l2 : M :=
 .seq (.reg [2, 3, 51, 52] [⟨(some 53), .binOp .lss 3 (.tmp 52) (.tmp 51) 3, none⟩] 0)
 (.seq (.cond (.tmp 53) (.skip)
 (.exit 4))
 (.seq (.block 5 (.seq (.reg [2, 3, 51, 52] [⟨(some 54), .move (.tmp 52), none⟩,
 ⟨(some 9), .assign (.tmp 54), none⟩] 0)
 (.seq (.reg [2, 3, 9, 51, 52] [⟨(some 55), .fieldAddr 44 (.tmp 2) 1, none⟩,
 ⟨(some 56), .load 31 (.tmp 55), none⟩,
 ⟨(some 57), .move (.tmp 9), none⟩,
 ⟨(some 58), .fieldAddr 69 (.tmp 3) 2, none⟩,
 ⟨(some 59), .indexAddr 66 (.tmp 58) (.tmp 57), none⟩,
 ⟨(some 60), .load 65 (.tmp 59), none⟩,
 ⟨(some 61), .call ⟨.value (.func 32), #[(.tmp 56), (.tmp 60)], #[31, 65]⟩, none⟩,
 ⟨(some 62), .unOp .not 4 (.tmp 61), none⟩] 6)
 (.cond (.tmp 62) (.seq (.reg [] [⟨(some 4), .assign (.const (.bool false)), none⟩] 0)
 (.ret))
 (.skip)))))
 (.reg [2, 3, 51, 52] [⟨(some 63), .binOp .add 3 (.tmp 52) (.const (.int .i64 1)) 3, none⟩,
 ⟨(some 52), .move (.tmp 63), none⟩] 0)))
def m15 : M :=
 .seq (.reg [0, 1] [⟨(some 2), .box 44 (.tmp 0), none⟩,
 ⟨(some 3), .box 69 (.tmp 1), none⟩,
 ⟨(some 4), .assign (.const (.bool false)), none⟩] 0)
 (.seq (.seq (.reg [2, 3] [⟨(some 10), .fieldAddr 44 (.tmp 2) 1, none⟩,
 ⟨(some 11), .load 31 (.tmp 10), none⟩,
 ⟨(some 12), .call ⟨.value (.func 28), #[(.tmp 11)], #[31]⟩, none⟩,
 ⟨(some 13), .unOp .not 4 (.tmp 12), none⟩,
 ⟨(some 14), .move (.tmp 13), none⟩,
 ⟨(some 15), .fieldAddr 69 (.tmp 3) 1, (some (14, false))⟩,
 ⟨(some 16), .load 57 (.tmp 15), (some (14, false))⟩,
 ⟨(some 17), .call ⟨.builtin .len, #[(.tmp 16)], #[57]⟩, (some (14, false))⟩,
 ⟨(some 18), .fieldAddr 44 (.tmp 2) 1, (some (14, false))⟩,
 ⟨(some 19), .fieldAddr 31 (.tmp 18) 0, (some (14, false))⟩,
 ⟨(some 20), .load 3 (.tmp 19), (some (14, false))⟩,
 ⟨(some 21), .binOp .neq 3 (.tmp 17) (.tmp 20) 3, (some (14, false))⟩,
 ⟨(some 22), .pick (.tmp 14) (.const (.bool true)) (.tmp 21), none⟩] 0)
 (.cond (.tmp 22) (.seq (.reg [] [⟨(some 4), .assign (.const (.bool false)), none⟩] 0)
 (.ret))
 (.skip)))
 (.seq (.seq (.reg [2, 3] [⟨(some 23), .fieldAddr 69 (.tmp 3) 1, none⟩,
 ⟨(some 24), .load 57 (.tmp 23), none⟩,
 ⟨(some 25), .call ⟨.builtin .len, #[(.tmp 24)], #[57]⟩, none⟩,
 ⟨(some 26), .move (.const (.int .i64 0)), none⟩] 0)
 (.block 0 (.loop (m15_l0))))
 (.seq (.seq (.reg [2, 3] [⟨(some 36), .fieldAddr 69 (.tmp 3) 3, none⟩,
 ⟨(some 37), .load 67 (.tmp 36), none⟩,
 ⟨(some 38), .call ⟨.builtin .len, #[(.tmp 37)], #[67]⟩, none⟩,
 ⟨(some 39), .move (.const (.int .i64 0)), none⟩] 0)
 (.block 2 (.loop (m15_l1))))
 (.seq (.seq (.reg [2, 3] [⟨(some 49), .fieldAddr 44 (.tmp 2) 1, none⟩,
 ⟨(some 50), .load 31 (.tmp 49), none⟩,
 ⟨(some 51), .call ⟨.value (.func 31), #[(.tmp 50)], #[31]⟩, none⟩,
 ⟨(some 52), .move (.const (.int .i64 0)), none⟩] 0)
 (.block 4 (.loop (m15_l2))))
 (.seq (.reg [] [⟨(some 4), .assign (.const (.bool true)), none⟩] 0)
 (.ret))))))
def fn15 : MFn := ⟨64, [.tmp 4], m15, .shut⟩
theorem fnOk15 : FnOk Tryz.prog 15 fn15 := ⟨Tryz.f15, _, kpL passing [] [[0, 1], [2, 3], [], [2, 3], [2, 3, 24, 25, 26], [2, 3, 24, 25, 26], [2, 3, 6, 24, 25, 26], [], [2, 3, 24, 25, 26], [2, 3], [2, 3, 37, 38, 39], [2, 3, 37, 38, 39], [2, 3, 8, 37, 38, 39], [], [2, 3, 37, 38, 39], [2, 3], [2, 3, 51, 52], [2, 3, 51, 52], [2, 3, 9, 51, 52], [], [2, 3, 51, 52], []], Tryz.func15, rfl, by kernel_rfl, by kernel_rfl, by kernel_rfl, by kernel_rfl⟩
/- seisin/inv.Broken -/
def m17_l0 : M :=
 .seq (.reg [2, 3, 11, 12] [⟨(some 13), .binOp .lss 3 (.tmp 12) (.tmp 11) 3, none⟩] 0)
 (.seq (.cond (.tmp 13) (.skip)
 (.exit 0))
 (.seq (.block 1 (.seq (.reg [2, 3, 11, 12] [⟨(some 14), .move (.tmp 12), none⟩,
 ⟨(some 5), .assign (.tmp 14), none⟩] 0)
 (.seq (.reg [2, 3, 5, 11, 12] [⟨(some 15), .load 44 (.tmp 2), none⟩,
 ⟨(some 16), .load 69 (.tmp 3), none⟩,
 ⟨(some 17), .move (.tmp 5), none⟩,
 ⟨(some 18), .call ⟨.value (.func 22), #[(.tmp 15), (.tmp 16), (.tmp 17)], #[44, 69, 3]⟩, none⟩,
 ⟨(some 19), .unOp .not 4 (.tmp 18), none⟩] 0)
 (.cond (.tmp 19) (.seq (.reg [5] [⟨(some 20), .move (.tmp 5), none⟩,
 ⟨(some 21), .binOp .add 3 (.const (.int .i64 2)) (.tmp 20) 3, none⟩,
 ⟨(some 22), .convert 3 5 (.tmp 21), none⟩,
 ⟨(some 4), .assign (.tmp 22), none⟩] 0)
 (.ret))
 (.skip)))))
 (.reg [2, 3, 11, 12] [⟨(some 23), .binOp .add 3 (.tmp 12) (.const (.int .i64 1)) 3, none⟩,
 ⟨(some 12), .move (.tmp 23), none⟩] 0)))
def m17 : M :=
 .seq (.reg [0, 1] [⟨(some 2), .box 44 (.tmp 0), none⟩,
 ⟨(some 3), .box 69 (.tmp 1), none⟩,
 ⟨(some 4), .assign (.const (.int .u8 0)), none⟩] 0)
 (.seq (.seq (.reg [2, 3] [⟨(some 6), .load 44 (.tmp 2), none⟩,
 ⟨(some 7), .load 69 (.tmp 3), none⟩,
 ⟨(some 8), .call ⟨.value (.func 15), #[(.tmp 6), (.tmp 7)], #[44, 69]⟩, none⟩,
 ⟨(some 9), .unOp .not 4 (.tmp 8), none⟩] 0)
 (.cond (.tmp 9) (.seq (.reg [] [⟨(some 4), .assign (.const (.int .u8 1)), none⟩] 0)
 (.ret))
 (.skip)))
 (.seq (.seq (.reg [2, 3] [⟨(some 10), .call ⟨.value (.func 37), #[], #[]⟩, none⟩,
 ⟨(some 11), .move (.const (.int .i64 4)), none⟩,
 ⟨(some 12), .move (.const (.int .i64 0)), none⟩] 0)
 (.block 0 (.loop (m17_l0))))
 (.seq (.reg [] [⟨(some 4), .assign (.const (.int .u8 0)), none⟩] 0)
 (.ret))))
def fn17 : MFn := ⟨24, [.tmp 4], m17, .shut⟩
theorem fnOk17 : FnOk Tryz.prog 17 fn17 := ⟨Tryz.f17, _, kpL passing [] [[0, 1], [2, 3], [], [2, 3], [2, 3, 11, 12], [2, 3, 11, 12], [2, 3, 5, 11, 12], [5], [2, 3, 11, 12], []], Tryz.func17, rfl, by kernel_rfl, by kernel_rfl, by kernel_rfl, by kernel_rfl⟩
/- seisin/seisinref27.After -/
def m19 : M :=
 .seq (.reg [0, 1] [⟨(some 2), .box 50 (.tmp 0), none⟩,
 ⟨(some 4), .assign (.const (.int .u8 0)), none⟩] 0)
 (.seq (.seq (.reg [1, 2] [⟨(some 5), .fieldAddr 50 (.tmp 2) 0, none⟩,
 ⟨(some 6), .load 5 (.tmp 5), none⟩] 0)
 (.block 0 (.seq (.seq (.reg [1, 2, 6] [⟨(some 8), .binOp .eql 5 (.tmp 6) (.const (.int .u8 2)) 5, none⟩,
 ⟨(some 7), .assign (.tmp 8), none⟩] 0)
 (.cond (.tmp 7) (.skip)
 (.reg [1, 2, 6] [⟨(some 9), .binOp .eql 5 (.tmp 6) (.const (.int .u8 4)) 5, none⟩,
 ⟨(some 7), .assign (.tmp 9), none⟩] 0)))
 (.cond (.tmp 7) (.seq (.reg [2] [⟨(some 10), .fieldAddr 50 (.tmp 2) 2, none⟩,
 ⟨(some 11), .load 5 (.tmp 10), none⟩,
 ⟨(some 4), .assign (.tmp 11), none⟩] 0)
 (.ret))
 (.seq (.reg [1, 2, 6] [⟨(some 13), .binOp .eql 5 (.tmp 6) (.const (.int .u8 5)) 5, none⟩,
 ⟨(some 12), .assign (.tmp 13), none⟩] 0)
 (.cond (.tmp 12) (.seq (.reg [1, 2] [⟨(some 14), .move (.tmp 1), none⟩,
 ⟨(some 15), .convert 5 3 (.tmp 14), none⟩,
 ⟨(some 16), .fieldAddr 50 (.tmp 2) 2, none⟩,
 ⟨(some 17), .load 5 (.tmp 16), none⟩,
 ⟨(some 18), .convert 5 3 (.tmp 17), none⟩,
 ⟨(some 19), .binOp .add 3 (.tmp 15) (.tmp 18) 3, none⟩,
 ⟨(some 20), .binOp .rem 3 (.tmp 19) (.const (.int .i64 256)) 3, none⟩,
 ⟨(some 21), .convert 3 5 (.tmp 20), none⟩,
 ⟨(some 4), .assign (.tmp 21), none⟩] 0)
 (.ret))
 (.seq (.reg [1, 2, 6] [⟨(some 23), .binOp .eql 5 (.tmp 6) (.const (.int .u8 6)) 5, none⟩,
 ⟨(some 22), .assign (.tmp 23), none⟩] 0)
 (.cond (.tmp 22) (.seq (.reg [1, 2] [⟨(some 24), .move (.tmp 1), none⟩,
 ⟨(some 25), .fieldAddr 50 (.tmp 2) 2, none⟩,
 ⟨(some 26), .load 5 (.tmp 25), none⟩,
 ⟨(some 27), .binOp .eql 5 (.tmp 24) (.tmp 26) 5, none⟩] 0)
 (.cond (.tmp 27) (.seq (.reg [2] [⟨(some 28), .fieldAddr 50 (.tmp 2) 3, none⟩,
 ⟨(some 29), .load 5 (.tmp 28), none⟩,
 ⟨(some 4), .assign (.tmp 29), none⟩] 0)
 (.ret))
 (.skip)))
 (.skip)))))))))
 (.seq (.reg [1] [⟨(some 30), .move (.tmp 1), none⟩,
 ⟨(some 4), .assign (.tmp 30), none⟩] 0)
 (.ret)))
def fn19 : MFn := ⟨31, [.tmp 4], m19, .shut⟩
theorem fnOk19 : FnOk Tryz.prog 19 fn19 := ⟨Tryz.f19, _, kpL passing [] [[0, 1], [1, 2], [1, 2, 6], [1, 2, 6], [2], [1, 2, 6], [1, 2], [1, 2, 6], [1, 2], [2], [1]], Tryz.func19, rfl, by kernel_rfl, by kernel_rfl, by kernel_rfl, by kernel_rfl⟩
/- seisin/seisinlaw32.plain -/
def m20 : M :=
 .seq (.reg [] [⟨(some 0), .alloc 44, none⟩,
 ⟨(some 1), .alloc 69, none⟩] 0)
 (.seq (.reg [0, 1] [⟨(some 8), .call ⟨.value (.func 38), #[(.const (.int .u8 2))], #[5]⟩, none⟩,
 ⟨(some 7), .move (.tmp 8), none⟩,
 ⟨(some 9), .extract (.tmp 7) 0, none⟩,
 ⟨(some 10), .extract (.tmp 7) 1, none⟩,
 ⟨(some 2), .alloc 42, none⟩,
 ⟨none, .store 42 (.tmp 2) (.tmp 9), none⟩,
 ⟨(some 3), .assign (.tmp 10), none⟩] 0)
 (.seq (.reg [0, 1, 2] [⟨(some 11), .buildSlice 22 1 #[(0, (.const (.string ⟨#[120]⟩)))], none⟩,
 ⟨(some 12), .buildSlice 23 1 #[(0, (.const (.int .u8 0)))], none⟩,
 ⟨(some 13), .buildSlice 103 0 #[], none⟩,
 ⟨(some 14), .buildSlice 24 1 #[(0, (.tmp 13))], none⟩,
 ⟨(some 15), .build 29 #[(0, (.const (.string ⟨#[116]⟩))), (1, (.tmp 11)), (2, (.tmp 12)), (3, (.tmp 14)), (4, (.const (.int .u8 1)))], none⟩,
 ⟨(some 16), .build 31 #[(0, (.const (.int .i64 2))), (1, (.const (.int .i64 1))), (2, (.const (.int .i64 1))), (3, (.const (.int .i64 1))), (4, (.const (.int .i64 1)))], none⟩,
 ⟨(some 17), .build 33 #[(0, (.const (.int .u8 1))), (1, (.const (.int .u8 1))), (2, (.const (.int .u8 1)))], none⟩,
 ⟨(some 18), .load 42 (.tmp 2), none⟩,
 ⟨(some 19), .build 44 #[(0, (.tmp 15)), (1, (.tmp 16)), (2, (.tmp 17)), (3, (.tmp 18))], none⟩,
 ⟨(some 4), .alloc 44, none⟩,
 ⟨none, .store 44 (.tmp 4) (.tmp 19), none⟩] 0)
 (.seq (.reg [0, 1, 4] [⟨(some 21), .load 44 (.tmp 4), none⟩,
 ⟨(some 22), .call ⟨.value (.func 39), #[(.tmp 21)], #[44]⟩, none⟩,
 ⟨(some 20), .move (.tmp 22), none⟩,
 ⟨(some 23), .extract (.tmp 20) 0, none⟩,
 ⟨(some 24), .extract (.tmp 20) 1, none⟩,
 ⟨(some 5), .alloc 69, none⟩,
 ⟨none, .store 69 (.tmp 5) (.tmp 23), none⟩,
 ⟨(some 6), .assign (.tmp 24), none⟩] 0)
 (.seq (.seq (.reg [0, 1, 4, 5] [⟨(some 25), .load 44 (.tmp 4), none⟩,
 ⟨(some 26), .load 69 (.tmp 5), none⟩] 2)
 (.seq (.ops [⟨none, .store 44 (.tmp 0) (.tmp 25), none⟩])
 (.seq (.again [⟨(some 26), .load 69 (.tmp 5), none⟩])
 (.seq (.ops [⟨none, .store 69 (.tmp 1) (.tmp 26), none⟩])
 (.seq (.again [])
 (.skip))))))
 (.ret)))))
def fn20 : MFn := ⟨27, [.cell 0 44, .cell 1 69], m20, .pass⟩
theorem fnOk20 : FnOk Tryz.prog 20 fn20 := ⟨Tryz.f20, _, kpL passing [] [[], [0, 1], [0, 1, 2], [0, 1, 4], [0, 1, 4, 5]], Tryz.func20, rfl, by kernel_rfl, by kernel_rfl, by kernel_rfl, by kernel_rfl⟩
/- seisin/seisinlaw32.with -/
def m21 : M :=
 .seq (.reg [0, 1, 2, 3] [⟨(some 4), .box 69 (.tmp 0), none⟩,
 ⟨(some 7), .box 63 (.tmp 3), none⟩,
 ⟨(some 8), .alloc 69, none⟩] 0)
 (.seq (.reg [1, 2, 4, 7, 8] [⟨(some 9), .buildSlice 57 0 #[], none⟩,
 ⟨(some 10), .fieldAddr 69 (.tmp 4) 1, none⟩,
 ⟨(some 11), .load 57 (.tmp 10), none⟩,
 ⟨(some 12), .call ⟨.builtin .append, #[(.tmp 9), (.tmp 11)], #[57, 57]⟩, none⟩,
 ⟨(some 13), .fieldAddr 69 (.tmp 4) 1, none⟩,
 ⟨none, .store 57 (.tmp 13) (.tmp 12), none⟩] 0)
 (.seq (.reg [1, 2, 4, 7, 8] [⟨(some 14), .fieldAddr 69 (.tmp 4) 1, none⟩,
 ⟨(some 15), .load 57 (.tmp 14), none⟩,
 ⟨(some 16), .move (.tmp 1), none⟩,
 ⟨(some 17), .move (.tmp 2), none⟩,
 ⟨(some 18), .load 63 (.tmp 7), none⟩,
 ⟨(some 19), .build 83 #[(1, (.tmp 17)), (4, (.tmp 18))], none⟩,
 ⟨(some 20), .indexAddr 57 (.tmp 15) (.tmp 16), none⟩,
 ⟨(some 21), .fieldAddr 90 (.tmp 20) 0, none⟩,
 ⟨(some 22), .indexAddr 85 (.tmp 21) (.const (.int .i64 0)), none⟩,
 ⟨(some 23), .indexAddr 84 (.tmp 22) (.const (.int .i64 0)), none⟩,
 ⟨none, .store 83 (.tmp 23) (.tmp 19), none⟩] 9)
 (.seq (.reg [4, 8] [⟨(some 24), .load 69 (.tmp 4), none⟩,
 ⟨none, .store 69 (.tmp 8) (.tmp 24), none⟩] 0)
 (.ret))))
def fn21 : MFn := ⟨25, [.cell 8 69], m21, .pass⟩
theorem fnOk21 : FnOk Tryz.prog 21 fn21 := ⟨Tryz.f21, _, kpL passing [] [[0, 1, 2, 3], [1, 2, 4, 7, 8], [1, 2, 4, 7, 8], [4, 8]], Tryz.func21, rfl, by kernel_rfl, by kernel_rfl, by kernel_rfl, by kernel_rfl⟩
/- seisin/inv.every -/
def m22_l1 : M :=
 .seq (.reg [3, 4, 7, 8, 9, 23, 24, 36, 37, 38] [⟨(some 39), .binOp .lss 3 (.tmp 38) (.tmp 37) 3, none⟩] 0)
 (.seq (.cond (.tmp 39) (.skip)
 (.exit 2))
 (.seq (.block 3 (.seq (.reg [3, 4, 7, 8, 9, 23, 24, 36, 37, 38] [⟨(some 40), .indexAddr 57 (.tmp 36) (.tmp 38), none⟩,
 ⟨(some 41), .load 90 (.tmp 40), none⟩,
 ⟨(some 11), .alloc 90, none⟩,
 ⟨none, .store 90 (.tmp 11) (.tmp 41), none⟩] 0)
 (.seq (.reg [3, 4, 7, 8, 9, 11, 23, 24, 36, 37, 38] [⟨(some 43), .fieldAddr 44 (.tmp 3) 1, none⟩,
 ⟨(some 44), .load 31 (.tmp 43), none⟩,
 ⟨(some 45), .load 90 (.tmp 11), none⟩,
 ⟨(some 46), .move (.tmp 8), none⟩,
 ⟨(some 47), .call ⟨.value (.func 40), #[(.tmp 44), (.tmp 45), (.tmp 46)], #[31, 90, 5]⟩, none⟩,
 ⟨(some 42), .move (.tmp 47), none⟩,
 ⟨(some 48), .extract (.tmp 42) 0, none⟩,
 ⟨(some 49), .extract (.tmp 42) 1, none⟩,
 ⟨(some 12), .alloc 83, none⟩,
 ⟨none, .store 83 (.tmp 12) (.tmp 48), none⟩,
 ⟨(some 13), .assign (.tmp 49), none⟩] 0)
 (.seq (.seq (.reg [3, 4, 7, 8, 9, 12, 13, 23, 24, 36, 37, 38] [⟨(some 50), .move (.tmp 13), none⟩,
 ⟨(some 51), .unOp .not 4 (.tmp 50), none⟩] 0)
 (.cond (.tmp 51) (.reg [3, 4, 7, 8, 9, 12, 23, 24, 36, 37, 38] [⟨(some 52), .move (.tmp 8), none⟩,
 ⟨(some 53), .build 83 #[(0, (.tmp 52))], none⟩,
 ⟨none, .store 83 (.tmp 12) (.tmp 53), none⟩] 0)
 (.skip)))
 (.reg [3, 4, 7, 8, 9, 12, 23, 24, 36, 37, 38] [⟨(some 54), .fieldAddr 108 (.tmp 9) 3, none⟩,
 ⟨(some 55), .load 106 (.tmp 54), none⟩,
 ⟨(some 56), .load 83 (.tmp 12), none⟩,
 ⟨(some 57), .buildSlice 106 1 #[(0, (.tmp 56))], none⟩,
 ⟨(some 58), .call ⟨.builtin .append, #[(.tmp 55), (.tmp 57)], #[106, 106]⟩, none⟩,
 ⟨(some 59), .fieldAddr 108 (.tmp 9) 3, none⟩,
 ⟨none, .store 106 (.tmp 59) (.tmp 58), none⟩] 0)))))
 (.reg [3, 4, 7, 8, 9, 23, 24, 36, 37, 38] [⟨(some 60), .binOp .add 3 (.tmp 38) (.const (.int .i64 1)) 3, none⟩,
 ⟨(some 38), .move (.tmp 60), none⟩] 0)))
def m22_l2 : M :=
 .seq (.reg [3, 4, 7, 8, 9, 23, 24, 62, 63, 64] [⟨(some 65), .binOp .lss 3 (.tmp 64) (.tmp 63) 3, none⟩] 0)
 (.seq (.cond (.tmp 65) (.skip)
 (.exit 4))
 (.seq (.block 5 (.seq (.reg [3, 4, 7, 8, 9, 23, 24, 62, 63, 64] [⟨(some 66), .indexAddr 67 (.tmp 62) (.tmp 64), none⟩,
 ⟨(some 67), .load 77 (.tmp 66), none⟩,
 ⟨(some 15), .alloc 77, none⟩,
 ⟨none, .store 77 (.tmp 15) (.tmp 67), none⟩] 0)
 (.seq (.reg [3, 4, 7, 8, 9, 15, 23, 24, 62, 63, 64] [⟨(some 68), .fieldAddr 77 (.tmp 15) 3, none⟩,
 ⟨(some 69), .load 5 (.tmp 68), none⟩,
 ⟨(some 70), .move (.tmp 8), none⟩,
 ⟨(some 71), .binOp .eql 5 (.tmp 69) (.tmp 70) 5, none⟩] 0)
 (.cond (.tmp 71) (.reg [3, 4, 7, 8, 9, 15, 23, 24, 62, 63, 64] [⟨(some 72), .fieldAddr 108 (.tmp 9) 4, none⟩,
 ⟨(some 73), .load 67 (.tmp 72), none⟩,
 ⟨(some 74), .load 77 (.tmp 15), none⟩,
 ⟨(some 75), .buildSlice 67 1 #[(0, (.tmp 74))], none⟩,
 ⟨(some 76), .call ⟨.builtin .append, #[(.tmp 73), (.tmp 75)], #[67, 67]⟩, none⟩,
 ⟨(some 77), .fieldAddr 108 (.tmp 9) 4, none⟩,
 ⟨none, .store 67 (.tmp 77) (.tmp 76), none⟩] 0)
 (.skip)))))
 (.reg [3, 4, 7, 8, 9, 23, 24, 62, 63, 64] [⟨(some 78), .binOp .add 3 (.tmp 64) (.const (.int .i64 1)) 3, none⟩,
 ⟨(some 64), .move (.tmp 78), none⟩] 0)))
def m22_l0 : M :=
 .seq (.reg [3, 4, 7, 23, 24] [⟨(some 25), .binOp .lss 5 (.tmp 24) (.tmp 23) 5, none⟩] 0)
 (.seq (.cond (.tmp 25) (.skip)
 (.exit 0))
 (.seq (.block 1 (.seq (.reg [3, 4, 7, 23, 24] [⟨(some 26), .move (.tmp 24), none⟩,
 ⟨(some 8), .assign (.tmp 26), none⟩] 0)
 (.seq (.reg [3, 4, 7, 8, 23, 24] [⟨(some 27), .fieldAddr 44 (.tmp 3) 1, none⟩,
 ⟨(some 28), .load 31 (.tmp 27), none⟩,
 ⟨(some 29), .move (.tmp 8), none⟩,
 ⟨(some 30), .move (.tmp 8), none⟩,
 ⟨(some 31), .fieldAddr 69 (.tmp 4) 2, none⟩,
 ⟨(some 32), .indexAddr 66 (.tmp 31) (.tmp 30), none⟩,
 ⟨(some 33), .load 65 (.tmp 32), none⟩,
 ⟨(some 34), .build 108 #[(0, (.tmp 28)), (1, (.tmp 29)), (2, (.tmp 33))], none⟩,
 ⟨(some 9), .alloc 108, none⟩,
 ⟨none, .store 108 (.tmp 9) (.tmp 34), none⟩] 7)
 (.seq (.seq (.reg [3, 4, 7, 8, 9, 23, 24] [⟨(some 35), .fieldAddr 69 (.tmp 4) 1, none⟩,
 ⟨(some 36), .load 57 (.tmp 35), none⟩,
 ⟨(some 37), .call ⟨.builtin .len, #[(.tmp 36)], #[57]⟩, none⟩,
 ⟨(some 38), .move (.const (.int .i64 0)), none⟩] 0)
 (.block 2 (.loop (m22_l1))))
 (.seq (.seq (.reg [3, 4, 7, 8, 9, 23, 24] [⟨(some 61), .fieldAddr 69 (.tmp 4) 3, none⟩,
 ⟨(some 62), .load 67 (.tmp 61), none⟩,
 ⟨(some 63), .call ⟨.builtin .len, #[(.tmp 62)], #[67]⟩, none⟩,
 ⟨(some 64), .move (.const (.int .i64 0)), none⟩] 0)
 (.block 4 (.loop (m22_l2))))
 (.seq (.reg [3, 4, 7, 9, 23, 24] [⟨(some 79), .move (.tmp 7), none⟩,
 ⟨(some 80), .call ⟨.value (.tmp 79), #[(.tmp 9)], #[111]⟩, none⟩,
 ⟨(some 81), .unOp .not 4 (.tmp 80), none⟩] 0)
 (.cond (.tmp 81) (.seq (.reg [] [⟨(some 6), .assign (.const (.bool false)), none⟩] 0)
 (.ret))
 (.skip))))))))
 (.reg [3, 4, 7, 23, 24] [⟨(some 82), .binOp .add 5 (.tmp 24) (.const (.int .u8 1)) 5, none⟩,
 ⟨(some 24), .move (.tmp 82), none⟩] 0)))
def m22 : M :=
 .seq (.reg [0, 1, 2] [⟨(some 3), .box 44 (.tmp 0), none⟩,
 ⟨(some 4), .box 69 (.tmp 1), none⟩,
 ⟨(some 6), .assign (.const (.bool false)), none⟩] 0)
 (.seq (.reg [2, 3, 4] [⟨(some 16), .call ⟨.value (.func 37), #[], #[]⟩, none⟩,
 ⟨(some 17), .move (.tmp 2), none⟩,
 ⟨(some 18), .index 98 (.tmp 16) (.tmp 17), none⟩,
 ⟨(some 19), .field 97 (.tmp 18) 0, none⟩,
 ⟨(some 7), .assign (.tmp 19), none⟩] 0)
 (.seq (.seq (.reg [3, 4, 7] [⟨(some 20), .fieldAddr 44 (.tmp 3) 1, none⟩,
 ⟨(some 21), .load 31 (.tmp 20), none⟩,
 ⟨(some 22), .call ⟨.value (.func 31), #[(.tmp 21)], #[31]⟩, none⟩,
 ⟨(some 23), .convert 3 5 (.tmp 22), none⟩,
 ⟨(some 24), .move (.const (.int .u8 0)), none⟩] 0)
 (.block 0 (.loop (m22_l0))))
 (.seq (.reg [] [⟨(some 6), .assign (.const (.bool true)), none⟩] 0)
 (.ret))))
def fn22 : MFn := ⟨83, [.tmp 6], m22, .shut⟩
theorem fnOk22 : FnOk Tryz.prog 22 fn22 := ⟨Tryz.f22, _, kpL passing [] [[0, 1, 2], [2, 3, 4], [3, 4, 7], [3, 4, 7, 23, 24], [3, 4, 7, 23, 24], [3, 4, 7, 8, 23, 24], [3, 4, 7, 8, 9, 23, 24], [3, 4, 7, 8, 9, 23, 24, 36, 37, 38], [3, 4, 7, 8, 9, 23, 24, 36, 37, 38], [3, 4, 7, 8, 9, 11, 23, 24, 36, 37, 38], [3, 4, 7, 8, 9, 12, 13, 23, 24, 36, 37, 38], [3, 4, 7, 8, 9, 12, 23, 24, 36, 37, 38], [3, 4, 7, 8, 9, 12, 23, 24, 36, 37, 38], [3, 4, 7, 8, 9, 23, 24, 36, 37, 38], [3, 4, 7, 8, 9, 23, 24], [3, 4, 7, 8, 9, 23, 24, 62, 63, 64], [3, 4, 7, 8, 9, 23, 24, 62, 63, 64], [3, 4, 7, 8, 9, 15, 23, 24, 62, 63, 64], [3, 4, 7, 8, 9, 15, 23, 24, 62, 63, 64], [3, 4, 7, 8, 9, 23, 24, 62, 63, 64], [3, 4, 7, 9, 23, 24], [], [3, 4, 7, 23, 24], []], Tryz.func22, rfl, by kernel_rfl, by kernel_rfl, by kernel_rfl, by kernel_rfl⟩
/- seisin/geo.Right -/
def m28_l0 : M :=
 .seq (.reg [15, 16] [⟨(some 17), .binOp .lss 3 (.tmp 16) (.const (.int .i64 5)) 3, none⟩] 0)
 (.seq (.cond (.tmp 17) (.skip)
 (.exit 0))
 (.seq (.block 1 (.seq (.reg [15, 16] [⟨(some 18), .move (.tmp 16), none⟩,
 ⟨(some 19), .index 120 (.tmp 15) (.tmp 16), none⟩,
 ⟨(some 3), .assign (.tmp 18), none⟩,
 ⟨(some 4), .assign (.tmp 19), none⟩] 0)
 (.seq (.reg [3, 4, 15, 16] [⟨(some 20), .move (.tmp 4), none⟩,
 ⟨(some 21), .binOp .lss 3 (.tmp 20) (.const (.int .i64 1)) 3, none⟩,
 ⟨(some 22), .move (.tmp 21), none⟩,
 ⟨(some 23), .move (.tmp 4), (some (22, false))⟩,
 ⟨(some 24), .move (.tmp 3), (some (22, false))⟩,
 ⟨(some 25), .indexAddr 120 (.global 0) (.tmp 24), (some (22, false))⟩,
 ⟨(some 26), .load 3 (.tmp 25), (some (22, false))⟩,
 ⟨(some 27), .binOp .gtr 3 (.tmp 23) (.tmp 26) 3, (some (22, false))⟩,
 ⟨(some 28), .pick (.tmp 22) (.const (.bool true)) (.tmp 27), none⟩] 0)
 (.cond (.tmp 28) (.seq (.reg [] [⟨(some 2), .assign (.const (.bool false)), none⟩] 0)
 (.ret))
 (.skip)))))
 (.reg [15, 16] [⟨(some 29), .binOp .add 3 (.tmp 16) (.const (.int .i64 1)) 3, none⟩,
 ⟨(some 16), .move (.tmp 29), none⟩] 0)))
def m28 : M :=
 .seq (.reg [0] [⟨(some 1), .box 31 (.tmp 0), none⟩,
 ⟨(some 2), .assign (.const (.bool false)), none⟩] 0)
 (.seq (.seq (.reg [1] [⟨(some 5), .fieldAddr 31 (.tmp 1) 0, none⟩,
 ⟨(some 6), .load 3 (.tmp 5), none⟩,
 ⟨(some 7), .fieldAddr 31 (.tmp 1) 1, none⟩,
 ⟨(some 8), .load 3 (.tmp 7), none⟩,
 ⟨(some 9), .fieldAddr 31 (.tmp 1) 2, none⟩,
 ⟨(some 10), .load 3 (.tmp 9), none⟩,
 ⟨(some 11), .fieldAddr 31 (.tmp 1) 3, none⟩,
 ⟨(some 12), .load 3 (.tmp 11), none⟩,
 ⟨(some 13), .fieldAddr 31 (.tmp 1) 4, none⟩,
 ⟨(some 14), .load 3 (.tmp 13), none⟩,
 ⟨(some 15), .build 120 #[(0, (.tmp 6)), (1, (.tmp 8)), (2, (.tmp 10)), (3, (.tmp 12)), (4, (.tmp 14))], none⟩,
 ⟨(some 16), .move (.const (.int .i64 0)), none⟩] 0)
 (.block 0 (.loop (m28_l0))))
 (.seq (.reg [] [⟨(some 2), .assign (.const (.bool true)), none⟩] 0)
 (.ret)))
def fn28 : MFn := ⟨30, [.tmp 2], m28, .shut⟩
theorem fnOk28 : FnOk Tryz.prog 28 fn28 := ⟨Tryz.f28, _, kpL passing [] [[0], [1], [15, 16], [15, 16], [3, 4, 15, 16], [], [15, 16], []], Tryz.func28, rfl, by kernel_rfl, by kernel_rfl, by kernel_rfl, by kernel_rfl⟩
/- seisin/tags.Right -/
def m29 : M :=
 .seq (.reg [0, 1] [⟨(some 2), .box 31 (.tmp 0), none⟩,
 ⟨(some 3), .box 90 (.tmp 1), none⟩,
 ⟨(some 4), .assign (.const (.bool false)), none⟩] 0)
 (.seq (.seq (.reg [2, 3] [⟨(some 6), .load 31 (.tmp 2), none⟩,
 ⟨(some 7), .call ⟨.value (.func 28), #[(.tmp 6)], #[31]⟩, none⟩,
 ⟨(some 8), .unOp .not 4 (.tmp 7), none⟩] 0)
 (.cond (.tmp 8) (.seq (.reg [] [⟨(some 4), .assign (.const (.bool false)), none⟩] 0)
 (.ret))
 (.skip)))
 (.seq (.reg [2, 3] [⟨(some 9), .load 31 (.tmp 2), none⟩,
 ⟨(some 10), .build 122 #[(0, (.tmp 9))], none⟩,
 ⟨(some 5), .alloc 122, none⟩,
 ⟨none, .store 122 (.tmp 5) (.tmp 10), none⟩] 0)
 (.seq (.reg [3, 5] [⟨(some 11), .load 122 (.tmp 5), none⟩,
 ⟨(some 12), .load 90 (.tmp 3), none⟩,
 ⟨(some 13), .call ⟨.value (.func 50), #[(.tmp 11), (.tmp 12)], #[122, 90]⟩, none⟩,
 ⟨(some 14), .move (.tmp 13), none⟩,
 ⟨(some 15), .load 122 (.tmp 5), (some (14, true))⟩,
 ⟨(some 16), .load 90 (.tmp 3), (some (14, true))⟩,
 ⟨(some 17), .call ⟨.value (.func 51), #[(.tmp 15), (.tmp 16)], #[122, 90]⟩, (some (14, true))⟩,
 ⟨(some 18), .pick (.tmp 14) (.tmp 17) (.const (.bool false)), none⟩,
 ⟨(some 4), .assign (.tmp 18), none⟩] 0)
 (.ret))))
def fn29 : MFn := ⟨19, [.tmp 4], m29, .shut⟩
theorem fnOk29 : FnOk Tryz.prog 29 fn29 := ⟨Tryz.f29, _, kpL passing [] [[0, 1], [2, 3], [], [2, 3], [3, 5]], Tryz.func29, rfl, by kernel_rfl, by kernel_rfl, by kernel_rfl, by kernel_rfl⟩
/- seisin/msg.Right -/
def m30 : M :=
 .seq (.reg [0, 1] [⟨(some 2), .box 31 (.tmp 0), none⟩,
 ⟨(some 3), .box 77 (.tmp 1), none⟩,
 ⟨(some 4), .assign (.const (.bool false)), none⟩] 0)
 (.seq (.seq (.reg [2, 3] [⟨(some 6), .load 31 (.tmp 2), none⟩,
 ⟨(some 7), .call ⟨.value (.func 28), #[(.tmp 6)], #[31]⟩, none⟩,
 ⟨(some 8), .unOp .not 4 (.tmp 7), none⟩,
 ⟨(some 9), .move (.tmp 8), none⟩,
 ⟨(some 10), .fieldAddr 77 (.tmp 3) 0, (some (9, false))⟩,
 ⟨(some 11), .load 5 (.tmp 10), (some (9, false))⟩,
 ⟨(some 12), .convert 5 3 (.tmp 11), (some (9, false))⟩,
 ⟨(some 13), .binOp .geq 3 (.tmp 12) (.const (.int .i64 13)) 3, (some (9, false))⟩,
 ⟨(some 14), .pick (.tmp 9) (.const (.bool true)) (.tmp 13), none⟩,
 ⟨(some 15), .move (.tmp 14), none⟩,
 ⟨(some 16), .fieldAddr 77 (.tmp 3) 0, (some (15, false))⟩,
 ⟨(some 17), .load 5 (.tmp 16), (some (15, false))⟩,
 ⟨(some 18), .indexAddr 124 (.global 1) (.tmp 17), (some (15, false))⟩,
 ⟨(some 19), .load 5 (.tmp 18), (some (15, false))⟩,
 ⟨(some 20), .binOp .eql 5 (.tmp 19) (.const (.int .u8 0)) 5, (some (15, false))⟩,
 ⟨(some 21), .pick (.tmp 15) (.const (.bool true)) (.tmp 20), none⟩,
 ⟨(some 22), .move (.tmp 21), none⟩,
 ⟨(some 23), .fieldAddr 77 (.tmp 3) 3, (some (22, false))⟩,
 ⟨(some 24), .load 5 (.tmp 23), (some (22, false))⟩,
 ⟨(some 25), .convert 5 3 (.tmp 24), (some (22, false))⟩,
 ⟨(some 26), .load 31 (.tmp 2), (some (22, false))⟩,
 ⟨(some 27), .call ⟨.value (.func 31), #[(.tmp 26)], #[31]⟩, (some (22, false))⟩,
 ⟨(some 28), .binOp .geq 3 (.tmp 25) (.tmp 27) 3, (some (22, false))⟩,
 ⟨(some 29), .pick (.tmp 22) (.const (.bool true)) (.tmp 28), none⟩] 22)
 (.cond (.tmp 29) (.seq (.reg [] [⟨(some 4), .assign (.const (.bool false)), none⟩] 0)
 (.ret))
 (.skip)))
 (.seq (.reg [2, 3] [⟨(some 30), .load 77 (.tmp 3), none⟩,
 ⟨(some 31), .load 31 (.tmp 2), none⟩,
 ⟨(some 32), .fieldAddr 77 (.tmp 3) 0, none⟩,
 ⟨(some 33), .load 5 (.tmp 32), none⟩,
 ⟨(some 34), .indexAddr 124 (.global 1) (.tmp 33), none⟩,
 ⟨(some 35), .load 5 (.tmp 34), none⟩,
 ⟨(some 36), .build 126 #[(0, (.tmp 30)), (1, (.tmp 31)), (2, (.tmp 35))], none⟩,
 ⟨(some 5), .alloc 126, none⟩,
 ⟨none, .store 126 (.tmp 5) (.tmp 36), none⟩] 6)
 (.seq (.reg [5] [⟨(some 37), .load 126 (.tmp 5), none⟩,
 ⟨(some 38), .call ⟨.value (.func 52), #[(.tmp 37)], #[126]⟩, none⟩,
 ⟨(some 39), .move (.tmp 38), none⟩,
 ⟨(some 40), .load 126 (.tmp 5), (some (39, true))⟩,
 ⟨(some 41), .call ⟨.value (.func 53), #[(.tmp 40)], #[126]⟩, (some (39, true))⟩,
 ⟨(some 42), .pick (.tmp 39) (.tmp 41) (.const (.bool false)), none⟩,
 ⟨(some 43), .move (.tmp 42), none⟩,
 ⟨(some 44), .load 126 (.tmp 5), (some (43, true))⟩,
 ⟨(some 45), .call ⟨.value (.func 54), #[(.tmp 44)], #[126]⟩, (some (43, true))⟩,
 ⟨(some 46), .pick (.tmp 43) (.tmp 45) (.const (.bool false)), none⟩,
 ⟨(some 4), .assign (.tmp 46), none⟩] 0)
 (.ret))))
def fn30 : MFn := ⟨47, [.tmp 4], m30, .shut⟩
theorem fnOk30 : FnOk Tryz.prog 30 fn30 := ⟨Tryz.f30, _, kpL passing [] [[0, 1], [2, 3], [], [2, 3], [5]], Tryz.func30, rfl, by kernel_rfl, by kernel_rfl, by kernel_rfl, by kernel_rfl⟩
/- seisin/geo.Lines -/
def m31 : M :=
 .seq (.reg [0] [⟨(some 1), .box 31 (.tmp 0), none⟩,
 ⟨(some 2), .assign (.const (.int .i64 0)), none⟩] 0)
 (.seq (.reg [1] [⟨(some 6), .load 31 (.tmp 1), none⟩,
 ⟨(some 7), .call ⟨.value (.func 55), #[(.tmp 6)], #[31]⟩, none⟩,
 ⟨(some 5), .move (.tmp 7), none⟩,
 ⟨(some 8), .extract (.tmp 5) 0, none⟩,
 ⟨(some 9), .extract (.tmp 5) 1, none⟩,
 ⟨(some 3), .alloc 127, none⟩,
 ⟨none, .store 127 (.tmp 3) (.tmp 8), none⟩,
 ⟨(some 4), .assign (.tmp 9), none⟩] 0)
 (.seq (.seq (.reg [3, 4] [⟨(some 10), .move (.tmp 4), none⟩,
 ⟨(some 11), .unOp .not 4 (.tmp 10), none⟩] 0)
 (.cond (.tmp 11) (.seq (.reg [] [⟨(some 2), .assign (.const (.int .i64 0)), none⟩] 0)
 (.ret))
 (.skip)))
 (.seq (.reg [3] [⟨(some 12), .load 127 (.tmp 3), none⟩,
 ⟨(some 13), .call ⟨.value (.func 56), #[(.tmp 12), (.const (.int .u8 5))], #[127, 5]⟩, none⟩,
 ⟨(some 14), .convert 5 3 (.tmp 13), none⟩,
 ⟨(some 15), .binOp .add 3 (.tmp 14) (.const (.int .i64 1)) 3, none⟩,
 ⟨(some 2), .assign (.tmp 15), none⟩] 0)
 (.ret))))
def fn31 : MFn := ⟨16, [.tmp 2], m31, .shut⟩
theorem fnOk31 : FnOk Tryz.prog 31 fn31 := ⟨Tryz.f31, _, kpL passing [] [[0], [1], [3, 4], [], [3]], Tryz.func31, rfl, by kernel_rfl, by kernel_rfl, by kernel_rfl, by kernel_rfl⟩
/- seisin/inv.entry -/
def m32 : M :=
 .seq (.reg [0, 1] [⟨(some 2), .box 31 (.tmp 0), none⟩,
 ⟨(some 3), .box 65 (.tmp 1), none⟩,
 ⟨(some 4), .assign (.const (.bool false)), none⟩] 0)
 (.seq (.reg [2, 3] [⟨(some 5), .fieldAddr 65 (.tmp 3) 0, none⟩,
 ⟨(some 6), .load 5 (.tmp 5), none⟩,
 ⟨(some 7), .binOp .lss 5 (.tmp 6) (.const (.int .u8 4)) 5, none⟩,
 ⟨(some 8), .move (.tmp 7), none⟩,
 ⟨(some 9), .fieldAddr 65 (.tmp 3) 1, (some (8, true))⟩,
 ⟨(some 10), .load 5 (.tmp 9), (some (8, true))⟩,
 ⟨(some 11), .binOp .eql 5 (.tmp 10) (.const (.int .u8 255)) 5, (some (8, true))⟩,
 ⟨(some 12), .move (.tmp 11), (some (8, true))⟩,
 ⟨(some 13), .fieldAddr 65 (.tmp 3) 1, (some (12, false))⟩,
 ⟨(some 14), .load 5 (.tmp 13), (some (12, false))⟩,
 ⟨(some 15), .convert 5 3 (.tmp 14), (some (12, false))⟩,
 ⟨(some 16), .fieldAddr 31 (.tmp 2) 0, (some (12, false))⟩,
 ⟨(some 17), .load 3 (.tmp 16), (some (12, false))⟩,
 ⟨(some 18), .binOp .lss 3 (.tmp 15) (.tmp 17) 3, (some (12, false))⟩,
 ⟨(some 19), .pick (.tmp 12) (.const (.bool true)) (.tmp 18), (some (8, true))⟩,
 ⟨(some 20), .pick (.tmp 8) (.tmp 19) (.const (.bool false)), none⟩,
 ⟨(some 21), .move (.tmp 20), none⟩,
 ⟨(some 22), .fieldAddr 65 (.tmp 3) 4, (some (21, true))⟩,
 ⟨(some 23), .load 5 (.tmp 22), (some (21, true))⟩,
 ⟨(some 24), .convert 5 3 (.tmp 23), (some (21, true))⟩,
 ⟨(some 25), .fieldAddr 31 (.tmp 2) 0, (some (21, true))⟩,
 ⟨(some 26), .load 3 (.tmp 25), (some (21, true))⟩,
 ⟨(some 27), .binOp .lss 3 (.tmp 24) (.tmp 26) 3, (some (21, true))⟩,
 ⟨(some 28), .pick (.tmp 21) (.tmp 27) (.const (.bool false)), none⟩,
 ⟨(some 29), .move (.tmp 28), none⟩,
 ⟨(some 30), .fieldAddr 65 (.tmp 3) 3, (some (29, true))⟩,
 ⟨(some 31), .load 5 (.tmp 30), (some (29, true))⟩,
 ⟨(some 32), .binOp .andNot 5 (.tmp 31) (.const (.int .u8 3)) 5, (some (29, true))⟩,
 ⟨(some 33), .binOp .eql 5 (.tmp 32) (.const (.int .u8 0)) 5, (some (29, true))⟩,
 ⟨(some 34), .pick (.tmp 29) (.tmp 33) (.const (.bool false)), none⟩,
 ⟨(some 35), .move (.tmp 34), none⟩,
 ⟨(some 36), .fieldAddr 65 (.tmp 3) 2, (some (35, true))⟩,
 ⟨(some 37), .load 61 (.tmp 36), (some (35, true))⟩,
 ⟨(some 38), .fieldAddr 31 (.tmp 2) 0, (some (35, true))⟩,
 ⟨(some 39), .load 3 (.tmp 38), (some (35, true))⟩,
 ⟨(some 40), .call ⟨.value (.func 57), #[(.tmp 37), (.tmp 39)], #[61, 3]⟩, (some (35, true))⟩,
 ⟨(some 41), .pick (.tmp 35) (.tmp 40) (.const (.bool false)), none⟩,
 ⟨(some 4), .assign (.tmp 41), none⟩] 0)
 (.ret))
def fn32 : MFn := ⟨42, [.tmp 4], m32, .shut⟩
theorem fnOk32 : FnOk Tryz.prog 32 fn32 := ⟨Tryz.f32, _, kpL passing [] [[0, 1], [2, 3]], Tryz.func32, rfl, by kernel_rfl, by kernel_rfl, by kernel_rfl, by kernel_rfl⟩
/- seisin/inv.invariants -/
def m37 : M :=
 .seq (.reg [] [⟨(some 0), .alloc 98, none⟩] 0)
 (.seq (.reg [0] [⟨(some 1), .build 97 #[(0, (.func 66))], none⟩,
 ⟨(some 2), .build 97 #[(0, (.func 67))], none⟩,
 ⟨(some 3), .build 97 #[(0, (.func 68))], none⟩,
 ⟨(some 4), .build 97 #[(0, (.func 69))], none⟩,
 ⟨(some 5), .build 98 #[(0, (.tmp 1)), (1, (.tmp 2)), (2, (.tmp 3)), (3, (.tmp 4))], none⟩,
 ⟨none, .store 98 (.tmp 0) (.tmp 5), none⟩] 0)
 (.ret))
def fn37 : MFn := ⟨6, [.cell 0 98], m37, .shut⟩
theorem fnOk37 : FnOk Tryz.prog 37 fn37 := ⟨Tryz.f37, _, kpL passing [] [[], [0]], Tryz.func37, rfl, by kernel_rfl, by kernel_rfl, by kernel_rfl, by kernel_rfl⟩
/- seisin/book.Make -/
def m38 : M :=
 .seq (.reg [0] [⟨(some 2), .alloc 42, none⟩,
 ⟨(some 3), .assign (.const (.int .i64 0)), none⟩] 0)
 (.seq (.reg [0, 2] [⟨(some 8), .move (.tmp 0), none⟩,
 ⟨(some 9), .build 142 #[(0, (.tmp 8))], none⟩,
 ⟨(some 4), .alloc 142, none⟩,
 ⟨none, .store 142 (.tmp 4) (.tmp 9), none⟩] 0)
 (.seq (.seq (.reg [2, 4] [⟨(some 10), .fieldAddr 142 (.tmp 4) 0, none⟩,
 ⟨(some 11), .load 140 (.tmp 10), none⟩,
 ⟨(some 12), .call ⟨.value (.func 70), #[(.tmp 11)], #[140]⟩, none⟩,
 ⟨(some 13), .binOp .eql 9 (.tmp 12) (.const (.string ⟨#[]⟩)) 9, none⟩] 0)
 (.cond (.tmp 13) (.seq (.reg [2] [⟨(some 14), .build 42 #[], none⟩,
 ⟨none, .store 42 (.tmp 2) (.tmp 14), none⟩,
 ⟨(some 3), .assign (.const (.int .i64 6)), none⟩] 0)
 (.ret))
 (.skip)))
 (.seq (.reg [2, 4] [⟨(some 16), .fieldAddr 142 (.tmp 4) 0, none⟩,
 ⟨(some 17), .load 140 (.tmp 16), none⟩,
 ⟨(some 18), .call ⟨.value (.func 72), #[(.tmp 17)], #[140]⟩, none⟩,
 ⟨(some 19), .call ⟨.value (.func 71), #[(.tmp 18)], #[9]⟩, none⟩,
 ⟨(some 15), .move (.tmp 19), none⟩,
 ⟨(some 20), .extract (.tmp 15) 0, none⟩,
 ⟨(some 21), .extract (.tmp 15) 1, none⟩,
 ⟨(some 22), .extract (.tmp 15) 2, none⟩,
 ⟨(some 5), .alloc 42, none⟩,
 ⟨none, .store 42 (.tmp 5) (.tmp 20), none⟩,
 ⟨(some 6), .assign (.tmp 21), none⟩,
 ⟨(some 7), .assign (.tmp 22), none⟩] 0)
 (.seq (.seq (.reg [2, 4, 5, 7] [⟨(some 23), .move (.tmp 7), none⟩,
 ⟨(some 24), .binOp .neq 100 (.tmp 23) (.const (.int .i64 0)) 100, none⟩] 0)
 (.cond (.tmp 24) (.seq (.reg [2, 7] [⟨(some 25), .build 42 #[], none⟩,
 ⟨(some 26), .move (.tmp 7), none⟩,
 ⟨none, .store 42 (.tmp 2) (.tmp 25), none⟩,
 ⟨(some 3), .assign (.tmp 26), none⟩] 0)
 (.ret))
 (.skip)))
 (.seq (.reg [2, 4, 5] [⟨(some 27), .load 42 (.tmp 5), none⟩,
 ⟨(some 28), .fieldAddr 142 (.tmp 4) 1, none⟩,
 ⟨none, .store 42 (.tmp 28) (.tmp 27), none⟩] 0)
 (.seq (.reg [2, 4] [⟨(some 29), .makeFunc (.func 74) #[] #[(.tmp 4)], none⟩,
 ⟨(some 30), .call ⟨.value (.func 73), #[(.tmp 4), (.tmp 29)], #[142, 150]⟩, none⟩,
 ⟨(some 7), .assign (.tmp 30), none⟩] 0)
 (.seq (.seq (.reg [2, 4, 7] [⟨(some 31), .move (.tmp 7), none⟩,
 ⟨(some 32), .binOp .neq 100 (.tmp 31) (.const (.int .i64 0)) 100, none⟩] 0)
 (.cond (.tmp 32) (.seq (.reg [2, 7] [⟨(some 33), .build 42 #[], none⟩,
 ⟨(some 34), .move (.tmp 7), none⟩,
 ⟨none, .store 42 (.tmp 2) (.tmp 33), none⟩,
 ⟨(some 3), .assign (.tmp 34), none⟩] 0)
 (.ret))
 (.skip)))
 (.seq (.reg [2, 4] [⟨(some 35), .fieldAddr 142 (.tmp 4) 1, none⟩,
 ⟨(some 36), .load 42 (.tmp 35), none⟩,
 ⟨none, .store 42 (.tmp 2) (.tmp 36), none⟩,
 ⟨(some 3), .assign (.const (.int .i64 0)), none⟩] 0)
 (.ret)))))))))
def fn38 : MFn := ⟨37, [.cell 2 42, .tmp 3], m38, .shut⟩
theorem fnOk38 : FnOk Tryz.prog 38 fn38 := ⟨Tryz.f38, _, kpL passing [] [[0], [0, 2], [2, 4], [2], [2, 4], [2, 4, 5, 7], [2, 7], [2, 4, 5], [2, 4], [2, 4, 7], [2, 7], [2, 4]], Tryz.func38, rfl, by kernel_rfl, by kernel_rfl, by kernel_rfl, by kernel_rfl⟩
/- seisin/sys.New -/
def m39_l0 : M :=
 .seq (.reg [1, 2, 4, 15, 16] [⟨(some 17), .binOp .lss 3 (.tmp 16) (.tmp 15) 3, none⟩] 0)
 (.seq (.cond (.tmp 17) (.skip)
 (.exit 0))
 (.seq (.block 1 (.seq (.seq (.reg [1, 2, 4, 15, 16] [⟨(some 18), .fieldAddr 69 (.tmp 4) 0, none⟩,
 ⟨(some 19), .load 56 (.tmp 18), none⟩] 2)
 (.seq (.ops [⟨(some 20), .call ⟨.value (.func 77), #[], #[]⟩, none⟩])
 (.seq (.again [⟨(some 19), .load 56 (.tmp 18), none⟩])
 (.seq (.ops [⟨(some 21), .buildSlice 56 1 #[(0, (.tmp 20))], none⟩])
 (.seq (.again [⟨(some 19), .load 56 (.tmp 18), none⟩])
 (.seq (.ops [⟨(some 22), .call ⟨.builtin .append, #[(.tmp 19), (.tmp 21)], #[56, 56]⟩, none⟩])
 (.seq (.again [])
 (.seq (.ops [⟨(some 23), .fieldAddr 69 (.tmp 4) 0, none⟩])
 (.seq (.again [])
 (.seq (.ops [⟨none, .store 56 (.tmp 23) (.tmp 22), none⟩])
 (.seq (.again [])
 (.skip))))))))))))
 (.seq (.reg [1, 2, 4, 15, 16] [⟨(some 24), .fieldAddr 69 (.tmp 4) 1, none⟩,
 ⟨(some 25), .load 57 (.tmp 24), none⟩,
 ⟨(some 26), .fieldAddr 44 (.tmp 1) 1, none⟩,
 ⟨(some 27), .load 31 (.tmp 26), none⟩,
 ⟨(some 28), .fieldAddr 44 (.tmp 1) 2, none⟩,
 ⟨(some 29), .fieldAddr 33 (.tmp 28) 2, none⟩] 6)
 (.seq (.ops [⟨(some 30), .load 5 (.tmp 29), none⟩])
 (.seq (.again [⟨(some 25), .load 57 (.tmp 24), none⟩,
 ⟨(some 27), .load 31 (.tmp 26), none⟩])
 (.seq (.ops [⟨(some 31), .call ⟨.value (.func 78), #[(.tmp 27), (.tmp 30)], #[31, 5]⟩, none⟩])
 (.seq (.again [⟨(some 25), .load 57 (.tmp 24), none⟩])
 (.seq (.ops [⟨(some 32), .buildSlice 57 1 #[(0, (.tmp 31))], none⟩])
 (.seq (.again [⟨(some 25), .load 57 (.tmp 24), none⟩])
 (.seq (.ops [⟨(some 33), .call ⟨.builtin .append, #[(.tmp 25), (.tmp 32)], #[57, 57]⟩, none⟩])
 (.seq (.again [])
 (.seq (.ops [⟨(some 34), .fieldAddr 69 (.tmp 4) 1, none⟩])
 (.seq (.again [])
 (.seq (.ops [⟨none, .store 57 (.tmp 34) (.tmp 33), none⟩])
 (.seq (.again [])
 (.skip))))))))))))))))
 (.reg [1, 2, 4, 15, 16] [⟨(some 35), .binOp .add 3 (.tmp 16) (.const (.int .i64 1)) 3, none⟩,
 ⟨(some 16), .move (.tmp 35), none⟩] 0)))
def m39_l2 : M :=
 .seq (.reg [1, 2, 4, 5, 6, 39, 40, 46, 47, 48] [⟨(some 49), .binOp .lss 3 (.tmp 48) (.tmp 47) 3, none⟩] 0)
 (.seq (.cond (.tmp 49) (.skip)
 (.exit 4))
 (.seq (.block 5 (.seq (.reg [1, 2, 4, 5, 6, 39, 40, 46, 47, 48] [⟨(some 50), .indexAddr 23 (.tmp 46) (.tmp 48), none⟩,
 ⟨(some 51), .load 5 (.tmp 50), none⟩,
 ⟨(some 8), .assign (.tmp 51), none⟩] 0)
 (.seq (.reg [1, 2, 4, 5, 6, 8, 39, 40, 46, 47, 48] [⟨(some 52), .move (.tmp 8), none⟩,
 ⟨(some 53), .convert 5 3 (.tmp 52), none⟩,
 ⟨(some 54), .fieldAddr 44 (.tmp 1) 0, none⟩,
 ⟨(some 55), .fieldAddr 29 (.tmp 54) 2, none⟩,
 ⟨(some 56), .load 23 (.tmp 55), none⟩,
 ⟨(some 57), .call ⟨.builtin .len, #[(.tmp 56)], #[23]⟩, none⟩,
 ⟨(some 58), .binOp .lss 3 (.tmp 53) (.tmp 57) 3, none⟩] 0)
 (.cond (.tmp 58) (.reg [1, 2, 4, 5, 6, 8, 39, 40, 46, 47, 48] [⟨(some 59), .fieldAddr 44 (.tmp 1) 1, none⟩,
 ⟨(some 60), .load 31 (.tmp 59), none⟩,
 ⟨(some 61), .load 63 (.tmp 6), none⟩,
 ⟨(some 62), .move (.tmp 8), none⟩,
 ⟨(some 63), .fieldAddr 44 (.tmp 1) 0, none⟩,
 ⟨(some 64), .fieldAddr 29 (.tmp 63) 2, none⟩,
 ⟨(some 65), .load 23 (.tmp 64), none⟩,
 ⟨(some 66), .move (.tmp 8), none⟩,
 ⟨(some 67), .indexAddr 23 (.tmp 65) (.tmp 66), none⟩,
 ⟨(some 68), .load 5 (.tmp 67), none⟩,
 ⟨(some 69), .call ⟨.value (.func 80), #[(.tmp 60), (.tmp 61), (.tmp 62), (.tmp 68)], #[31, 63, 5, 5]⟩, none⟩,
 ⟨none, .store 63 (.tmp 6) (.tmp 69), none⟩] 10)
 (.skip)))))
 (.reg [1, 2, 4, 5, 6, 39, 40, 46, 47, 48] [⟨(some 70), .binOp .add 3 (.tmp 48) (.const (.int .i64 1)) 3, none⟩,
 ⟨(some 48), .move (.tmp 70), none⟩] 0)))
def m39_l1 : M :=
 .seq (.reg [1, 2, 4, 39, 40] [⟨(some 41), .binOp .lss 5 (.tmp 40) (.tmp 39) 5, none⟩] 0)
 (.seq (.cond (.tmp 41) (.skip)
 (.exit 2))
 (.seq (.block 3 (.seq (.reg [1, 2, 4, 39, 40] [⟨(some 42), .move (.tmp 40), none⟩,
 ⟨(some 5), .assign (.tmp 42), none⟩] 0)
 (.seq (.reg [1, 2, 4, 5, 39, 40] [⟨(some 6), .alloc 63, none⟩] 0)
 (.seq (.seq (.reg [1, 2, 4, 5, 6, 39, 40] [⟨(some 43), .fieldAddr 44 (.tmp 1) 1, none⟩,
 ⟨(some 44), .load 31 (.tmp 43), none⟩,
 ⟨(some 45), .move (.tmp 5), none⟩,
 ⟨(some 46), .call ⟨.value (.func 79), #[(.tmp 44), (.tmp 45)], #[31, 5]⟩, none⟩,
 ⟨(some 47), .call ⟨.builtin .len, #[(.tmp 46)], #[23]⟩, none⟩,
 ⟨(some 48), .move (.const (.int .i64 0)), none⟩] 0)
 (.block 4 (.loop (m39_l2))))
 (.reg [1, 2, 4, 5, 6, 39, 40] [⟨(some 71), .move (.tmp 5), none⟩,
 ⟨(some 72), .fieldAddr 44 (.tmp 1) 2, none⟩,
 ⟨(some 73), .fieldAddr 33 (.tmp 72) 1, none⟩,
 ⟨(some 74), .load 5 (.tmp 73), none⟩,
 ⟨(some 75), .fieldAddr 44 (.tmp 1) 1, none⟩,
 ⟨(some 76), .fieldAddr 31 (.tmp 75) 0, none⟩,
 ⟨(some 77), .load 3 (.tmp 76), none⟩,
 ⟨(some 78), .load 63 (.tmp 6), none⟩,
 ⟨(some 79), .call ⟨.value (.func 81), #[(.tmp 74), (.tmp 77), (.tmp 78)], #[5, 3, 63]⟩, none⟩,
 ⟨(some 80), .fieldAddr 69 (.tmp 4) 2, none⟩,
 ⟨(some 81), .indexAddr 66 (.tmp 80) (.tmp 71), none⟩,
 ⟨none, .store 65 (.tmp 81) (.tmp 79), none⟩] 0)))))
 (.reg [1, 2, 4, 39, 40] [⟨(some 82), .binOp .add 5 (.tmp 40) (.const (.int .u8 1)) 5, none⟩,
 ⟨(some 40), .move (.tmp 82), none⟩] 0)))
def m39 : M :=
 .seq (.reg [0] [⟨(some 1), .box 44 (.tmp 0), none⟩,
 ⟨(some 2), .alloc 69, none⟩,
 ⟨(some 3), .assign (.const (.int .i64 0)), none⟩] 0)
 (.seq (.seq (.reg [1, 2] [⟨(some 9), .load 44 (.tmp 1), none⟩,
 ⟨(some 10), .call ⟨.value (.func 76), #[(.tmp 9)], #[44]⟩, none⟩,
 ⟨(some 11), .unOp .not 4 (.tmp 10), none⟩] 0)
 (.cond (.tmp 11) (.seq (.reg [2] [⟨(some 12), .build 69 #[], none⟩,
 ⟨none, .store 69 (.tmp 2) (.tmp 12), none⟩,
 ⟨(some 3), .assign (.const (.int .i64 310)), none⟩] 0)
 (.ret))
 (.skip)))
 (.seq (.reg [1, 2] [⟨(some 4), .alloc 69, none⟩] 0)
 (.seq (.seq (.reg [1, 2, 4] [⟨(some 13), .fieldAddr 44 (.tmp 1) 1, none⟩,
 ⟨(some 14), .fieldAddr 31 (.tmp 13) 0, none⟩,
 ⟨(some 15), .load 3 (.tmp 14), none⟩,
 ⟨(some 16), .move (.const (.int .i64 0)), none⟩] 0)
 (.block 0 (.loop (m39_l0))))
 (.seq (.seq (.reg [1, 2, 4] [⟨(some 36), .fieldAddr 44 (.tmp 1) 1, none⟩,
 ⟨(some 37), .load 31 (.tmp 36), none⟩,
 ⟨(some 38), .call ⟨.value (.func 31), #[(.tmp 37)], #[31]⟩, none⟩,
 ⟨(some 39), .convert 3 5 (.tmp 38), none⟩,
 ⟨(some 40), .move (.const (.int .u8 0)), none⟩] 0)
 (.block 2 (.loop (m39_l1))))
 (.seq (.reg [2, 4] [⟨(some 83), .load 69 (.tmp 4), none⟩,
 ⟨none, .store 69 (.tmp 2) (.tmp 83), none⟩,
 ⟨(some 3), .assign (.const (.int .i64 0)), none⟩] 0)
 (.ret))))))
def fn39 : MFn := ⟨84, [.cell 2 69, .tmp 3], m39, .pass⟩
theorem fnOk39 : FnOk Tryz.prog 39 fn39 := ⟨Tryz.f39, _, kpL passing [] [[0], [1, 2], [2], [1, 2], [1, 2, 4], [1, 2, 4, 15, 16], [1, 2, 4, 15, 16], [1, 2, 4, 15, 16], [1, 2, 4, 15, 16], [1, 2, 4], [1, 2, 4, 39, 40], [1, 2, 4, 39, 40], [1, 2, 4, 5, 39, 40], [1, 2, 4, 5, 6, 39, 40], [1, 2, 4, 5, 6, 39, 40, 46, 47, 48], [1, 2, 4, 5, 6, 39, 40, 46, 47, 48], [1, 2, 4, 5, 6, 8, 39, 40, 46, 47, 48], [1, 2, 4, 5, 6, 8, 39, 40, 46, 47, 48], [1, 2, 4, 5, 6, 39, 40, 46, 47, 48], [1, 2, 4, 5, 6, 39, 40], [1, 2, 4, 39, 40], [2, 4]], Tryz.func39, rfl, by kernel_rfl, by kernel_rfl, by kernel_rfl, by kernel_rfl⟩
/- seisin/tags.Get -/
def m40 : M :=
 .seq (.reg [0, 1, 2] [⟨(some 3), .box 31 (.tmp 0), none⟩,
 ⟨(some 4), .box 90 (.tmp 1), none⟩,
 ⟨(some 6), .alloc 83, none⟩,
 ⟨(some 7), .assign (.const (.bool false)), none⟩] 0)
 (.seq (.reg [2, 3, 4, 6] [⟨(some 12), .load 31 (.tmp 3), none⟩,
 ⟨(some 13), .load 90 (.tmp 4), none⟩,
 ⟨(some 14), .move (.tmp 2), none⟩,
 ⟨(some 15), .call ⟨.value (.func 82), #[(.tmp 12), (.tmp 13), (.tmp 14)], #[31, 90, 5]⟩, none⟩,
 ⟨(some 11), .move (.tmp 15), none⟩,
 ⟨(some 16), .extract (.tmp 11) 0, none⟩,
 ⟨(some 17), .extract (.tmp 11) 1, none⟩,
 ⟨(some 18), .extract (.tmp 11) 2, none⟩,
 ⟨(some 8), .assign (.tmp 16), none⟩,
 ⟨(some 9), .assign (.tmp 17), none⟩,
 ⟨(some 10), .assign (.tmp 18), none⟩] 0)
 (.seq (.seq (.reg [4, 6, 8, 9, 10] [⟨(some 19), .move (.tmp 10), none⟩,
 ⟨(some 20), .unOp .not 4 (.tmp 19), none⟩] 0)
 (.cond (.tmp 20) (.seq (.reg [6] [⟨(some 21), .build 83 #[], none⟩,
 ⟨none, .store 83 (.tmp 6) (.tmp 21), none⟩,
 ⟨(some 7), .assign (.const (.bool false)), none⟩] 0)
 (.ret))
 (.skip)))
 (.seq (.reg [4, 6, 8, 9] [⟨(some 22), .move (.tmp 8), none⟩,
 ⟨(some 23), .move (.tmp 9), none⟩,
 ⟨(some 24), .fieldAddr 90 (.tmp 4) 0, none⟩,
 ⟨(some 25), .indexAddr 85 (.tmp 24) (.tmp 22), none⟩,
 ⟨(some 26), .indexAddr 84 (.tmp 25) (.tmp 23), none⟩,
 ⟨(some 27), .load 83 (.tmp 26), none⟩,
 ⟨none, .store 83 (.tmp 6) (.tmp 27), none⟩,
 ⟨(some 7), .assign (.const (.bool true)), none⟩] 0)
 (.ret))))
def fn40 : MFn := ⟨28, [.cell 6 83, .tmp 7], m40, .shut⟩
theorem fnOk40 : FnOk Tryz.prog 40 fn40 := ⟨Tryz.f40, _, kpL passing [] [[0, 1, 2], [2, 3, 4, 6], [4, 6, 8, 9, 10], [6], [4, 6, 8, 9]], Tryz.func40, rfl, by kernel_rfl, by kernel_rfl, by kernel_rfl, by kernel_rfl⟩
/- (seisin/tags.frame).stored -/
def m50_l0 : M :=
 .seq (.reg [2, 3, 4, 5, 6, 15, 16] [⟨(some 7), .assign (.tmp 15), none⟩] 0)
 (.reg [2, 3, 4, 5, 6, 7, 16] [⟨(some 8), .assign (.tmp 16), none⟩] 0)
def m50_l1 : M :=
 .block 1 (.seq (.reg [2, 3, 4, 5, 6, 7, 8] [⟨(some 17), .move (.tmp 7), none⟩,
 ⟨(some 18), .move (.tmp 8), none⟩,
 ⟨(some 19), .fieldAddr 90 (.tmp 3) 0, none⟩,
 ⟨(some 20), .indexAddr 85 (.tmp 19) (.tmp 17), none⟩,
 ⟨(some 21), .indexAddr 84 (.tmp 20) (.tmp 18), none⟩,
 ⟨(some 9), .assign (.tmp 21), none⟩] 0)
 (.seq (.seq (.reg [2, 4, 5, 6, 7, 9] [⟨(some 22), .move (.tmp 9), none⟩,
 ⟨(some 23), .nilCheck (.tmp 22), none⟩,
 ⟨(some 24), .load 83 (.tmp 23), none⟩,
 ⟨(some 25), .call ⟨.value (.func 86), #[(.tmp 24)], #[83]⟩, none⟩] 0)
 (.cond (.tmp 25) (.exit 1)
 (.skip)))
 (.seq (.seq (.reg [2, 4, 5, 6, 7, 9] [⟨(some 26), .move (.tmp 9), none⟩,
 ⟨(some 27), .nilCheck (.tmp 26), none⟩,
 ⟨(some 28), .fieldAddr 83 (.tmp 27) 1, none⟩,
 ⟨(some 29), .load 5 (.tmp 28), none⟩,
 ⟨(some 30), .binOp .geq 5 (.tmp 29) (.const (.int .u8 12)) 5, none⟩,
 ⟨(some 31), .move (.tmp 30), none⟩,
 ⟨(some 32), .move (.tmp 9), (some (31, false))⟩,
 ⟨(some 33), .nilCheck (.tmp 32), (some (31, false))⟩,
 ⟨(some 34), .fieldAddr 83 (.tmp 33) 0, (some (31, false))⟩,
 ⟨(some 35), .load 5 (.tmp 34), (some (31, false))⟩,
 ⟨(some 36), .convert 5 3 (.tmp 35), (some (31, false))⟩,
 ⟨(some 37), .load 3 (.tmp 5), (some (31, false))⟩,
 ⟨(some 38), .binOp .geq 3 (.tmp 36) (.tmp 37) 3, (some (31, false))⟩,
 ⟨(some 39), .pick (.tmp 31) (.const (.bool true)) (.tmp 38), none⟩,
 ⟨(some 40), .move (.tmp 39), none⟩,
 ⟨(some 41), .load 122 (.tmp 2), (some (40, false))⟩,
 ⟨(some 42), .move (.tmp 9), (some (40, false))⟩,
 ⟨(some 43), .nilCheck (.tmp 42), (some (40, false))⟩,
 ⟨(some 44), .fieldAddr 83 (.tmp 43) 0, (some (40, false))⟩,
 ⟨(some 45), .load 5 (.tmp 44), (some (40, false))⟩,
 ⟨(some 46), .call ⟨.value (.func 87), #[(.tmp 41), (.tmp 45)], #[122, 5]⟩, (some (40, false))⟩,
 ⟨(some 47), .move (.tmp 7), (some (40, false))⟩,
 ⟨(some 48), .binOp .neq 3 (.tmp 46) (.tmp 47) 3, (some (40, false))⟩,
 ⟨(some 49), .pick (.tmp 40) (.const (.bool true)) (.tmp 48), none⟩,
 ⟨(some 50), .move (.tmp 49), none⟩,
 ⟨(some 51), .load 59 (.tmp 6), (some (50, false))⟩,
 ⟨(some 52), .move (.tmp 9), (some (50, false))⟩,
 ⟨(some 53), .nilCheck (.tmp 52), (some (50, false))⟩,
 ⟨(some 54), .fieldAddr 83 (.tmp 53) 0, (some (50, false))⟩,
 ⟨(some 55), .load 5 (.tmp 54), (some (50, false))⟩,
 ⟨(some 56), .binOp .shl 59 (.const (.int .u64 1)) (.tmp 55) 5, (some (50, false))⟩,
 ⟨(some 57), .binOp .and 59 (.tmp 51) (.tmp 56) 59, (some (50, false))⟩,
 ⟨(some 58), .binOp .neq 59 (.tmp 57) (.const (.int .u64 0)) 59, (some (50, false))⟩,
 ⟨(some 59), .pick (.tmp 50) (.const (.bool true)) (.tmp 58), none⟩] 31)
 (.cond (.tmp 59) (.seq (.reg [4] [⟨none, .store 4 (.tmp 4) (.const (.bool false)), none⟩] 0)
 (.ret))
 (.skip)))
 (.seq (.reg [6, 9] [⟨(some 60), .load 59 (.tmp 6), none⟩,
 ⟨(some 61), .move (.tmp 9), none⟩,
 ⟨(some 62), .nilCheck (.tmp 61), none⟩,
 ⟨(some 63), .fieldAddr 83 (.tmp 62) 0, none⟩,
 ⟨(some 64), .load 5 (.tmp 63), none⟩,
 ⟨(some 65), .binOp .shl 59 (.const (.int .u64 1)) (.tmp 64) 5, none⟩,
 ⟨(some 66), .binOp .or 59 (.tmp 60) (.tmp 65) 59, none⟩,
 ⟨none, .store 59 (.tmp 6) (.tmp 66), none⟩] 6)
 (.reg [9] [⟨(some 67), .move (.tmp 9), none⟩,
 ⟨(some 68), .build 83 #[], none⟩,
 ⟨(some 69), .nilCheck (.tmp 67), none⟩,
 ⟨none, .store 83 (.tmp 69) (.tmp 68), none⟩] 0)))))
def m50 : M :=
 .seq (.reg [0, 1] [⟨(some 2), .box 122 (.tmp 0), none⟩,
 ⟨(some 3), .box 90 (.tmp 1), none⟩,
 ⟨(some 4), .alloc 4, none⟩] 0)
 (.seq (.reg [2, 3, 4] [⟨(some 10), .fieldAddr 122 (.tmp 2) 0, none⟩,
 ⟨(some 11), .load 31 (.tmp 10), none⟩,
 ⟨(some 12), .call ⟨.value (.func 31), #[(.tmp 11)], #[31]⟩, none⟩,
 ⟨(some 5), .alloc 3, none⟩,
 ⟨(some 6), .alloc 59, none⟩,
 ⟨none, .store 3 (.tmp 5) (.tmp 12), none⟩,
 ⟨none, .store 59 (.tmp 6) (.const (.int .u64 0)), none⟩] 0)
 (.seq (.seq (.reg [2, 3, 4, 5, 6] [⟨(some 13), .load 122 (.tmp 2), none⟩,
 ⟨(some 14), .call ⟨.value (.func 85), #[(.tmp 13)], #[122]⟩, none⟩] 0)
 (.block 0 (.rf (.tmp 14) 74 [15, 16] [2, 3, 4, 5, 6] (m50_l0) (m50_l1))))
 (.seq (.reg [3, 4] [⟨(some 70), .fieldAddr 90 (.tmp 3) 0, none⟩,
 ⟨(some 71), .load 85 (.tmp 70), none⟩,
 ⟨(some 72), .build 85 #[], none⟩,
 ⟨(some 73), .binOp .eql 85 (.tmp 71) (.tmp 72) 85, none⟩,
 ⟨none, .store 4 (.tmp 4) (.tmp 73), none⟩] 0)
 (.ret))))
def fn50 : MFn := ⟨74, [.cell 4 4], m50, .shut⟩
theorem fnOk50 : FnOk Tryz.prog 50 fn50 := ⟨Tryz.f50, _, kpL passing [2, 3, 4, 5, 6] [[0, 1], [2, 3, 4], [2, 3, 4, 5, 6], [2, 3, 4, 5, 6, 15, 16], [2, 3, 4, 5, 6, 7, 16], [2, 3, 4, 5, 6, 7, 8], [2, 4, 5, 6, 7, 9], [2, 4, 5, 6, 7, 9], [4], [6, 9], [9], [3, 4]], Tryz.func50, rfl, by kernel_rfl, by kernel_rfl, by kernel_rfl, by kernel_rfl⟩
/- (seisin/tags.frame).noted -/
def m51_l0 : M :=
 .seq (.reg [2, 3, 8, 9] [⟨(some 10), .binOp .lss 3 (.tmp 9) (.const (.int .i64 4)) 3, none⟩] 0)
 (.seq (.cond (.tmp 10) (.skip)
 (.exit 0))
 (.seq (.block 1 (.seq (.reg [2, 3, 8, 9] [⟨(some 11), .move (.tmp 9), none⟩,
 ⟨(some 12), .index 88 (.tmp 8) (.tmp 9), none⟩,
 ⟨(some 6), .alloc 87, none⟩,
 ⟨(some 5), .assign (.tmp 11), none⟩,
 ⟨none, .store 87 (.tmp 6) (.tmp 12), none⟩] 0)
 (.seq (.reg [2, 3, 5, 6, 8, 9] [⟨(some 13), .move (.tmp 5), none⟩,
 ⟨(some 14), .fieldAddr 122 (.tmp 2) 0, none⟩,
 ⟨(some 15), .fieldAddr 31 (.tmp 14) 3, none⟩,
 ⟨(some 16), .load 3 (.tmp 15), none⟩,
 ⟨(some 17), .binOp .geq 3 (.tmp 13) (.tmp 16) 3, none⟩] 0)
 (.cond (.tmp 17) (.seq (.reg [2, 3, 6, 8, 9] [⟨(some 18), .load 87 (.tmp 6), none⟩,
 ⟨(some 19), .build 87 #[], none⟩,
 ⟨(some 20), .binOp .neq 87 (.tmp 18) (.tmp 19) 87, none⟩] 0)
 (.cond (.tmp 20) (.seq (.reg [] [⟨(some 4), .assign (.const (.bool false)), none⟩] 0)
 (.ret))
 (.skip)))
 (.seq (.reg [2, 3, 6, 8, 9] [⟨(some 21), .load 87 (.tmp 6), none⟩,
 ⟨(some 22), .call ⟨.value (.func 88), #[(.tmp 21)], #[87]⟩, none⟩,
 ⟨(some 23), .unOp .not 4 (.tmp 22), none⟩,
 ⟨(some 24), .move (.tmp 23), none⟩,
 ⟨(some 25), .fieldAddr 87 (.tmp 6) 0, (some (24, false))⟩,
 ⟨(some 26), .load 5 (.tmp 25), (some (24, false))⟩,
 ⟨(some 27), .fieldAddr 90 (.tmp 3) 1, (some (24, false))⟩,
 ⟨(some 28), .indexAddr 88 (.tmp 27) (.const (.int .i64 0)), (some (24, false))⟩,
 ⟨(some 29), .fieldAddr 87 (.tmp 28) 0, (some (24, false))⟩,
 ⟨(some 30), .load 5 (.tmp 29), (some (24, false))⟩,
 ⟨(some 31), .binOp .neq 5 (.tmp 26) (.tmp 30) 5, (some (24, false))⟩,
 ⟨(some 32), .pick (.tmp 24) (.const (.bool true)) (.tmp 31), none⟩,
 ⟨(some 33), .move (.tmp 32), none⟩,
 ⟨(some 34), .fieldAddr 87 (.tmp 6) 1, (some (33, false))⟩,
 ⟨(some 35), .load 3 (.tmp 34), (some (33, false))⟩,
 ⟨(some 36), .fieldAddr 122 (.tmp 2) 0, (some (33, false))⟩,
 ⟨(some 37), .fieldAddr 31 (.tmp 36) 4, (some (33, false))⟩,
 ⟨(some 38), .load 3 (.tmp 37), (some (33, false))⟩,
 ⟨(some 39), .binOp .neq 3 (.tmp 35) (.tmp 38) 3, (some (33, false))⟩,
 ⟨(some 40), .pick (.tmp 33) (.const (.bool true)) (.tmp 39), none⟩] 0)
 (.cond (.tmp 40) (.seq (.reg [] [⟨(some 4), .assign (.const (.bool false)), none⟩] 0)
 (.ret))
 (.skip)))))))
 (.reg [2, 3, 8, 9] [⟨(some 41), .binOp .add 3 (.tmp 9) (.const (.int .i64 1)) 3, none⟩,
 ⟨(some 9), .move (.tmp 41), none⟩] 0)))
def m51 : M :=
 .seq (.reg [0, 1] [⟨(some 2), .box 122 (.tmp 0), none⟩,
 ⟨(some 3), .box 90 (.tmp 1), none⟩,
 ⟨(some 4), .assign (.const (.bool false)), none⟩] 0)
 (.seq (.seq (.reg [2, 3] [⟨(some 7), .fieldAddr 90 (.tmp 3) 1, none⟩,
 ⟨(some 8), .load 88 (.tmp 7), none⟩,
 ⟨(some 9), .move (.const (.int .i64 0)), none⟩] 0)
 (.block 0 (.loop (m51_l0))))
 (.seq (.reg [] [⟨(some 4), .assign (.const (.bool true)), none⟩] 0)
 (.ret)))
def fn51 : MFn := ⟨42, [.tmp 4], m51, .shut⟩
theorem fnOk51 : FnOk Tryz.prog 51 fn51 := ⟨Tryz.f51, _, kpL passing [] [[0, 1], [2, 3], [2, 3, 8, 9], [2, 3, 8, 9], [2, 3, 5, 6, 8, 9], [2, 3, 6, 8, 9], [], [2, 3, 6, 8, 9], [], [2, 3, 8, 9], []], Tryz.func51, rfl, by kernel_rfl, by kernel_rfl, by kernel_rfl, by kernel_rfl⟩
/- (seisin/msg.letter).ends -/
def m52 : M :=
 .seq (.reg [0] [⟨(some 1), .box 126 (.tmp 0), none⟩,
 ⟨(some 2), .assign (.const (.bool false)), none⟩] 0)
 (.seq (.reg [1] [⟨(some 6), .fieldAddr 126 (.tmp 1) 1, none⟩,
 ⟨(some 7), .load 31 (.tmp 6), none⟩,
 ⟨(some 8), .fieldAddr 126 (.tmp 1) 0, none⟩,
 ⟨(some 9), .fieldAddr 77 (.tmp 8) 3, none⟩,
 ⟨(some 10), .load 5 (.tmp 9), none⟩,
 ⟨(some 11), .call ⟨.value (.func 89), #[(.tmp 7), (.tmp 10)], #[31, 5]⟩, none⟩,
 ⟨(some 3), .assign (.tmp 11), none⟩] 0)
 (.seq (.reg [1, 3] [⟨(some 12), .load 126 (.tmp 1), none⟩,
 ⟨(some 13), .call ⟨.value (.func 90), #[(.tmp 12), (.const (.int .u8 16))], #[126, 5]⟩, none⟩,
 ⟨(some 14), .move (.tmp 13), none⟩,
 ⟨(some 15), .fieldAddr 126 (.tmp 1) 0, (some (14, true))⟩,
 ⟨(some 16), .fieldAddr 77 (.tmp 15) 1, (some (14, true))⟩,
 ⟨(some 17), .load 5 (.tmp 16), (some (14, true))⟩,
 ⟨(some 18), .move (.tmp 3), (some (14, true))⟩,
 ⟨(some 19), .binOp .eql 5 (.tmp 17) (.tmp 18) 5, (some (14, true))⟩,
 ⟨(some 20), .pick (.tmp 14) (.tmp 19) (.const (.bool false)), none⟩,
 ⟨(some 21), .move (.tmp 20), none⟩,
 ⟨(some 22), .load 126 (.tmp 1), (some (21, false))⟩,
 ⟨(some 23), .call ⟨.value (.func 90), #[(.tmp 22), (.const (.int .u8 32))], #[126, 5]⟩, (some (21, false))⟩,
 ⟨(some 24), .move (.tmp 23), (some (21, false))⟩,
 ⟨(some 25), .fieldAddr 126 (.tmp 1) 1, (some (24, true))⟩,
 ⟨(some 26), .load 31 (.tmp 25), (some (24, true))⟩,
 ⟨(some 27), .fieldAddr 126 (.tmp 1) 0, (some (24, true))⟩,
 ⟨(some 28), .fieldAddr 77 (.tmp 27) 1, (some (24, true))⟩,
 ⟨(some 29), .load 5 (.tmp 28), (some (24, true))⟩,
 ⟨(some 30), .call ⟨.value (.func 91), #[(.tmp 26), (.tmp 29)], #[31, 5]⟩, (some (24, true))⟩,
 ⟨(some 31), .pick (.tmp 24) (.tmp 30) (.const (.bool false)), (some (21, false))⟩,
 ⟨(some 32), .pick (.tmp 21) (.const (.bool true)) (.tmp 31), none⟩,
 ⟨(some 4), .assign (.tmp 32), none⟩] 0)
 (.seq (.reg [1, 3, 4] [⟨(some 33), .load 126 (.tmp 1), none⟩,
 ⟨(some 34), .call ⟨.value (.func 90), #[(.tmp 33), (.const (.int .u8 64))], #[126, 5]⟩, none⟩,
 ⟨(some 35), .move (.tmp 34), none⟩,
 ⟨(some 36), .fieldAddr 126 (.tmp 1) 0, (some (35, true))⟩,
 ⟨(some 37), .fieldAddr 77 (.tmp 36) 2, (some (35, true))⟩,
 ⟨(some 38), .load 5 (.tmp 37), (some (35, true))⟩,
 ⟨(some 39), .move (.tmp 3), (some (35, true))⟩,
 ⟨(some 40), .binOp .eql 5 (.tmp 38) (.tmp 39) 5, (some (35, true))⟩,
 ⟨(some 41), .pick (.tmp 35) (.tmp 40) (.const (.bool false)), none⟩,
 ⟨(some 42), .move (.tmp 41), none⟩,
 ⟨(some 43), .load 126 (.tmp 1), (some (42, false))⟩,
 ⟨(some 44), .call ⟨.value (.func 90), #[(.tmp 43), (.const (.int .u8 128))], #[126, 5]⟩, (some (42, false))⟩,
 ⟨(some 45), .move (.tmp 44), (some (42, false))⟩,
 ⟨(some 46), .fieldAddr 126 (.tmp 1) 1, (some (45, true))⟩,
 ⟨(some 47), .load 31 (.tmp 46), (some (45, true))⟩,
 ⟨(some 48), .fieldAddr 126 (.tmp 1) 0, (some (45, true))⟩,
 ⟨(some 49), .fieldAddr 77 (.tmp 48) 2, (some (45, true))⟩,
 ⟨(some 50), .load 5 (.tmp 49), (some (45, true))⟩,
 ⟨(some 51), .call ⟨.value (.func 91), #[(.tmp 47), (.tmp 50)], #[31, 5]⟩, (some (45, true))⟩,
 ⟨(some 52), .pick (.tmp 45) (.tmp 51) (.const (.bool false)), (some (42, false))⟩,
 ⟨(some 53), .pick (.tmp 42) (.const (.bool true)) (.tmp 52), none⟩,
 ⟨(some 5), .assign (.tmp 53), none⟩] 0)
 (.seq (.reg [1, 4, 5] [⟨(some 54), .move (.tmp 4), none⟩,
 ⟨(some 55), .move (.tmp 54), none⟩,
 ⟨(some 56), .move (.tmp 5), (some (55, true))⟩,
 ⟨(some 57), .pick (.tmp 55) (.tmp 56) (.const (.bool false)), none⟩,
 ⟨(some 58), .move (.tmp 57), none⟩,
 ⟨(some 59), .fieldAddr 126 (.tmp 1) 0, (some (58, true))⟩,
 ⟨(some 60), .fieldAddr 77 (.tmp 59) 1, (some (58, true))⟩,
 ⟨(some 61), .load 5 (.tmp 60), (some (58, true))⟩,
 ⟨(some 62), .fieldAddr 126 (.tmp 1) 0, (some (58, true))⟩,
 ⟨(some 63), .fieldAddr 77 (.tmp 62) 2, (some (58, true))⟩,
 ⟨(some 64), .load 5 (.tmp 63), (some (58, true))⟩,
 ⟨(some 65), .binOp .neq 5 (.tmp 61) (.tmp 64) 5, (some (58, true))⟩,
 ⟨(some 66), .pick (.tmp 58) (.tmp 65) (.const (.bool false)), none⟩,
 ⟨(some 2), .assign (.tmp 66), none⟩] 0)
 (.ret)))))
def fn52 : MFn := ⟨67, [.tmp 2], m52, .shut⟩
theorem fnOk52 : FnOk Tryz.prog 52 fn52 := ⟨Tryz.f52, _, kpL passing [] [[0], [1], [1, 3], [1, 3, 4], [1, 4, 5]], Tryz.func52, rfl, by kernel_rfl, by kernel_rfl, by kernel_rfl, by kernel_rfl⟩
/- (seisin/msg.letter).values -/
def m53 : M :=
 .seq (.reg [0] [⟨(some 1), .box 126 (.tmp 0), none⟩,
 ⟨(some 2), .assign (.const (.bool false)), none⟩] 0)
 (.seq (.seq (.reg [1] [⟨(some 3), .load 126 (.tmp 1), none⟩,
 ⟨(some 4), .call ⟨.value (.func 90), #[(.tmp 3), (.const (.int .u8 1))], #[126, 5]⟩, none⟩,
 ⟨(some 5), .move (.tmp 4), none⟩,
 ⟨(some 6), .fieldAddr 126 (.tmp 1) 1, (some (5, true))⟩,
 ⟨(some 7), .load 31 (.tmp 6), (some (5, true))⟩,
 ⟨(some 8), .fieldAddr 126 (.tmp 1) 0, (some (5, true))⟩,
 ⟨(some 9), .fieldAddr 77 (.tmp 8) 4, (some (5, true))⟩,
 ⟨(some 10), .load 5 (.tmp 9), (some (5, true))⟩,
 ⟨(some 11), .call ⟨.value (.func 91), #[(.tmp 7), (.tmp 10)], #[31, 5]⟩, (some (5, true))⟩,
 ⟨(some 12), .unOp .not 4 (.tmp 11), (some (5, true))⟩,
 ⟨(some 13), .move (.tmp 12), (some (5, true))⟩,
 ⟨(some 14), .fieldAddr 126 (.tmp 1) 0, (some (13, false))⟩,
 ⟨(some 15), .fieldAddr 77 (.tmp 14) 4, (some (13, false))⟩,
 ⟨(some 16), .load 5 (.tmp 15), (some (13, false))⟩,
 ⟨(some 17), .fieldAddr 126 (.tmp 1) 0, (some (13, false))⟩,
 ⟨(some 18), .fieldAddr 77 (.tmp 17) 2, (some (13, false))⟩,
 ⟨(some 19), .load 5 (.tmp 18), (some (13, false))⟩,
 ⟨(some 20), .binOp .eql 5 (.tmp 16) (.tmp 19) 5, (some (13, false))⟩,
 ⟨(some 21), .pick (.tmp 13) (.const (.bool true)) (.tmp 20), (some (5, true))⟩,
 ⟨(some 22), .pick (.tmp 5) (.tmp 21) (.const (.bool false)), none⟩] 0)
 (.cond (.tmp 22) (.seq (.reg [] [⟨(some 2), .assign (.const (.bool false)), none⟩] 0)
 (.ret))
 (.skip)))
 (.seq (.reg [1] [⟨(some 23), .fieldAddr 126 (.tmp 1) 0, none⟩,
 ⟨(some 24), .fieldAddr 77 (.tmp 23) 5, none⟩,
 ⟨(some 25), .load 5 (.tmp 24), none⟩,
 ⟨(some 26), .convert 5 3 (.tmp 25), none⟩,
 ⟨(some 27), .fieldAddr 126 (.tmp 1) 1, none⟩,
 ⟨(some 28), .fieldAddr 31 (.tmp 27) 0, none⟩,
 ⟨(some 29), .load 3 (.tmp 28), none⟩,
 ⟨(some 30), .binOp .lss 3 (.tmp 26) (.tmp 29) 3, none⟩,
 ⟨(some 31), .move (.tmp 30), none⟩,
 ⟨(some 32), .fieldAddr 126 (.tmp 1) 0, (some (31, true))⟩,
 ⟨(some 33), .fieldAddr 77 (.tmp 32) 6, (some (31, true))⟩,
 ⟨(some 34), .load 4 (.tmp 33), (some (31, true))⟩,
 ⟨(some 35), .unOp .not 4 (.tmp 34), (some (31, true))⟩,
 ⟨(some 36), .move (.tmp 35), (some (31, true))⟩,
 ⟨(some 37), .fieldAddr 126 (.tmp 1) 1, (some (36, false))⟩,
 ⟨(some 38), .load 31 (.tmp 37), (some (36, false))⟩,
 ⟨(some 39), .fieldAddr 126 (.tmp 1) 0, (some (36, false))⟩,
 ⟨(some 40), .fieldAddr 77 (.tmp 39) 1, (some (36, false))⟩,
 ⟨(some 41), .load 5 (.tmp 40), (some (36, false))⟩,
 ⟨(some 42), .call ⟨.value (.func 91), #[(.tmp 38), (.tmp 41)], #[31, 5]⟩, (some (36, false))⟩,
 ⟨(some 43), .unOp .not 4 (.tmp 42), (some (36, false))⟩,
 ⟨(some 44), .pick (.tmp 36) (.const (.bool true)) (.tmp 43), (some (31, true))⟩,
 ⟨(some 45), .pick (.tmp 31) (.tmp 44) (.const (.bool false)), none⟩,
 ⟨(some 2), .assign (.tmp 45), none⟩] 0)
 (.ret)))
def fn53 : MFn := ⟨46, [.tmp 2], m53, .shut⟩
theorem fnOk53 : FnOk Tryz.prog 53 fn53 := ⟨Tryz.f53, _, kpL passing [] [[0], [1], [], [1]], Tryz.func53, rfl, by kernel_rfl, by kernel_rfl, by kernel_rfl, by kernel_rfl⟩
/- (seisin/msg.letter).plain -/
def m54 : M :=
 .seq (.reg [0] [⟨(some 1), .box 126 (.tmp 0), none⟩,
 ⟨(some 2), .assign (.const (.bool false)), none⟩] 0)
 (.seq (.reg [1] [⟨(some 4), .fieldAddr 126 (.tmp 1) 0, none⟩,
 ⟨(some 5), .fieldAddr 77 (.tmp 4) 0, none⟩,
 ⟨(some 6), .load 5 (.tmp 5), none⟩,
 ⟨(some 7), .fieldAddr 126 (.tmp 1) 0, none⟩,
 ⟨(some 8), .fieldAddr 77 (.tmp 7) 1, none⟩,
 ⟨(some 9), .load 5 (.tmp 8), none⟩,
 ⟨(some 10), .fieldAddr 126 (.tmp 1) 0, none⟩,
 ⟨(some 11), .fieldAddr 77 (.tmp 10) 2, none⟩,
 ⟨(some 12), .load 5 (.tmp 11), none⟩,
 ⟨(some 13), .fieldAddr 126 (.tmp 1) 0, none⟩,
 ⟨(some 14), .fieldAddr 77 (.tmp 13) 3, none⟩,
 ⟨(some 15), .load 5 (.tmp 14), none⟩,
 ⟨(some 16), .build 77 #[(0, (.tmp 6)), (1, (.tmp 9)), (2, (.tmp 12)), (3, (.tmp 15))], none⟩,
 ⟨(some 3), .alloc 77, none⟩,
 ⟨none, .store 77 (.tmp 3) (.tmp 16), none⟩] 0)
 (.seq (.seq (.reg [1, 3] [⟨(some 17), .load 126 (.tmp 1), none⟩,
 ⟨(some 18), .call ⟨.value (.func 90), #[(.tmp 17), (.const (.int .u8 1))], #[126, 5]⟩, none⟩] 0)
 (.cond (.tmp 18) (.reg [1, 3] [⟨(some 19), .fieldAddr 126 (.tmp 1) 0, none⟩,
 ⟨(some 20), .fieldAddr 77 (.tmp 19) 4, none⟩,
 ⟨(some 21), .load 5 (.tmp 20), none⟩,
 ⟨(some 22), .fieldAddr 77 (.tmp 3) 4, none⟩,
 ⟨none, .store 5 (.tmp 22) (.tmp 21), none⟩] 0)
 (.skip)))
 (.seq (.seq (.reg [1, 3] [⟨(some 23), .load 126 (.tmp 1), none⟩,
 ⟨(some 24), .call ⟨.value (.func 90), #[(.tmp 23), (.const (.int .u8 2))], #[126, 5]⟩, none⟩] 0)
 (.cond (.tmp 24) (.reg [1, 3] [⟨(some 25), .fieldAddr 126 (.tmp 1) 0, none⟩,
 ⟨(some 26), .fieldAddr 77 (.tmp 25) 5, none⟩,
 ⟨(some 27), .load 5 (.tmp 26), none⟩,
 ⟨(some 28), .fieldAddr 77 (.tmp 3) 5, none⟩,
 ⟨none, .store 5 (.tmp 28) (.tmp 27), none⟩] 0)
 (.skip)))
 (.seq (.seq (.reg [1, 3] [⟨(some 29), .load 126 (.tmp 1), none⟩,
 ⟨(some 30), .call ⟨.value (.func 90), #[(.tmp 29), (.const (.int .u8 4))], #[126, 5]⟩, none⟩] 0)
 (.cond (.tmp 30) (.reg [1, 3] [⟨(some 31), .fieldAddr 126 (.tmp 1) 0, none⟩,
 ⟨(some 32), .fieldAddr 77 (.tmp 31) 6, none⟩,
 ⟨(some 33), .load 4 (.tmp 32), none⟩,
 ⟨(some 34), .fieldAddr 77 (.tmp 3) 6, none⟩,
 ⟨none, .store 4 (.tmp 34) (.tmp 33), none⟩] 0)
 (.skip)))
 (.seq (.seq (.reg [1, 3] [⟨(some 35), .load 126 (.tmp 1), none⟩,
 ⟨(some 36), .call ⟨.value (.func 90), #[(.tmp 35), (.const (.int .u8 8))], #[126, 5]⟩, none⟩] 0)
 (.cond (.tmp 36) (.reg [1, 3] [⟨(some 37), .fieldAddr 77 (.tmp 3) 7, none⟩,
 ⟨(some 38), .fieldAddr 126 (.tmp 1) 1, none⟩,
 ⟨(some 39), .fieldAddr 31 (.tmp 38) 2, none⟩,
 ⟨(some 40), .load 3 (.tmp 39), none⟩,
 ⟨(some 41), .slice 63 (.tmp 37) none (some (.tmp 40)) none, none⟩,
 ⟨(some 42), .fieldAddr 126 (.tmp 1) 0, none⟩,
 ⟨(some 43), .fieldAddr 77 (.tmp 42) 7, none⟩,
 ⟨(some 44), .slice 63 (.tmp 43) none none none, none⟩,
 ⟨(some 45), .call ⟨.builtin .copy, #[(.tmp 41), (.tmp 44)], #[23, 23]⟩, none⟩] 8)
 (.skip)))
 (.seq (.reg [1, 3] [⟨(some 46), .load 77 (.tmp 3), none⟩,
 ⟨(some 47), .fieldAddr 126 (.tmp 1) 0, none⟩,
 ⟨(some 48), .load 77 (.tmp 47), none⟩,
 ⟨(some 49), .binOp .eql 77 (.tmp 46) (.tmp 48) 77, none⟩,
 ⟨(some 2), .assign (.tmp 49), none⟩] 0)
 (.ret)))))))
def fn54 : MFn := ⟨50, [.tmp 2], m54, .shut⟩
theorem fnOk54 : FnOk Tryz.prog 54 fn54 := ⟨Tryz.f54, _, kpL passing [] [[0], [1], [1, 3], [1, 3], [1, 3], [1, 3], [1, 3], [1, 3], [1, 3], [1, 3], [1, 3]], Tryz.func54, rfl, by kernel_rfl, by kernel_rfl, by kernel_rfl, by kernel_rfl⟩
/- seisin/geo.valid -/
def m55 : M :=
 .seq (.reg [0] [⟨(some 1), .box 31 (.tmp 0), none⟩,
 ⟨(some 2), .alloc 127, none⟩,
 ⟨(some 3), .assign (.const (.bool false)), none⟩] 0)
 (.seq (.seq (.reg [1, 2] [⟨(some 4), .load 31 (.tmp 1), none⟩,
 ⟨(some 5), .call ⟨.value (.func 28), #[(.tmp 4)], #[31]⟩, none⟩,
 ⟨(some 6), .unOp .not 4 (.tmp 5), none⟩] 0)
 (.cond (.tmp 6) (.seq (.reg [2] [⟨(some 7), .build 127 #[], none⟩,
 ⟨none, .store 127 (.tmp 2) (.tmp 7), none⟩,
 ⟨(some 3), .assign (.const (.bool false)), none⟩] 0)
 (.ret))
 (.skip)))
 (.seq (.reg [1, 2] [⟨(some 8), .load 31 (.tmp 1), none⟩,
 ⟨(some 9), .build 127 #[(0, (.tmp 8))], none⟩,
 ⟨none, .store 127 (.tmp 2) (.tmp 9), none⟩,
 ⟨(some 3), .assign (.const (.bool true)), none⟩] 0)
 (.ret)))
def fn55 : MFn := ⟨10, [.cell 2 127, .tmp 3], m55, .shut⟩
theorem fnOk55 : FnOk Tryz.prog 55 fn55 := ⟨Tryz.f55, _, kpL passing [] [[0], [1, 2], [2], [1, 2]], Tryz.func55, rfl, by kernel_rfl, by kernel_rfl, by kernel_rfl, by kernel_rfl⟩
/- (seisin/geo.place).line -/
def m56 : M :=
 .seq (.reg [0, 1] [⟨(some 2), .box 127 (.tmp 0), none⟩,
 ⟨(some 4), .assign (.const (.int .u8 0)), none⟩] 0)
 (.seq (.reg [1, 2] [⟨(some 5), .move (.tmp 1), none⟩,
 ⟨(some 6), .fieldAddr 127 (.tmp 2) 0, none⟩,
 ⟨(some 7), .fieldAddr 31 (.tmp 6) 2, none⟩,
 ⟨(some 8), .load 3 (.tmp 7), none⟩,
 ⟨(some 9), .convert 3 5 (.tmp 8), none⟩,
 ⟨(some 10), .binOp .quo 5 (.tmp 5) (.tmp 9) 5, none⟩,
 ⟨(some 4), .assign (.tmp 10), none⟩] 0)
 (.ret))
def fn56 : MFn := ⟨11, [.tmp 4], m56, .shut⟩
theorem fnOk56 : FnOk Tryz.prog 56 fn56 := ⟨Tryz.f56, _, kpL passing [] [[0, 1], [1, 2]], Tryz.func56, rfl, by kernel_rfl, by kernel_rfl, by kernel_rfl, by kernel_rfl⟩
/- seisin/view.Right -/
def m57 : M :=
 .seq (.reg [0, 1] [⟨(some 2), .box 61 (.tmp 0), none⟩,
 ⟨(some 4), .assign (.const (.bool false)), none⟩] 0)
 (.seq (.seq (.reg [1, 2] [⟨(some 5), .move (.tmp 1), none⟩,
 ⟨(some 6), .call ⟨.value (.func 92), #[(.tmp 5)], #[3]⟩, none⟩,
 ⟨(some 7), .unOp .not 4 (.tmp 6), none⟩] 0)
 (.cond (.tmp 7) (.seq (.reg [] [⟨(some 4), .assign (.const (.bool false)), none⟩] 0)
 (.ret))
 (.skip)))
 (.seq (.seq (.reg [1, 2] [⟨(some 8), .fieldAddr 61 (.tmp 2) 0, none⟩,
 ⟨(some 9), .load 5 (.tmp 8), none⟩] 0)
 (.block 0 (.seq (.reg [1, 2, 9] [⟨(some 11), .binOp .eql 5 (.tmp 9) (.const (.int .u8 1)) 5, none⟩,
 ⟨(some 10), .assign (.tmp 11), none⟩] 0)
 (.cond (.tmp 10) (.seq (.reg [1, 2] [⟨(some 12), .fieldAddr 61 (.tmp 2) 2, none⟩,
 ⟨(some 13), .load 4 (.tmp 12), none⟩,
 ⟨(some 14), .unOp .not 4 (.tmp 13), none⟩,
 ⟨(some 15), .move (.tmp 14), none⟩,
 ⟨(some 16), .fieldAddr 61 (.tmp 2) 1, (some (15, true))⟩,
 ⟨(some 17), .load 59 (.tmp 16), (some (15, true))⟩,
 ⟨(some 18), .move (.tmp 1), (some (15, true))⟩,
 ⟨(some 19), .call ⟨.value (.func 93), #[(.tmp 18)], #[3]⟩, (some (15, true))⟩,
 ⟨(some 20), .binOp .andNot 59 (.tmp 17) (.tmp 19) 59, (some (15, true))⟩,
 ⟨(some 21), .binOp .eql 59 (.tmp 20) (.const (.int .u64 0)) 59, (some (15, true))⟩,
 ⟨(some 22), .pick (.tmp 15) (.tmp 21) (.const (.bool false)), none⟩,
 ⟨(some 4), .assign (.tmp 22), none⟩] 8)
 (.ret))
 (.seq (.reg [1, 2, 9] [⟨(some 24), .binOp .eql 5 (.tmp 9) (.const (.int .u8 2)) 5, none⟩,
 ⟨(some 23), .assign (.tmp 24), none⟩] 0)
 (.cond (.tmp 23) (.seq (.seq (.reg [1, 2] [⟨(some 25), .fieldAddr 61 (.tmp 2) 2, none⟩,
 ⟨(some 26), .load 4 (.tmp 25), none⟩] 0)
 (.cond (.tmp 26) (.seq (.reg [2] [⟨(some 27), .fieldAddr 61 (.tmp 2) 1, none⟩,
 ⟨(some 28), .load 59 (.tmp 27), none⟩,
 ⟨(some 29), .binOp .eql 59 (.tmp 28) (.const (.int .u64 0)) 59, none⟩,
 ⟨(some 4), .assign (.tmp 29), none⟩] 0)
 (.ret))
 (.skip)))
 (.seq (.reg [1, 2] [⟨(some 30), .fieldAddr 61 (.tmp 2) 1, none⟩,
 ⟨(some 31), .load 59 (.tmp 30), none⟩,
 ⟨(some 32), .move (.tmp 1), none⟩,
 ⟨(some 33), .call ⟨.value (.func 93), #[(.tmp 32)], #[3]⟩, none⟩,
 ⟨(some 34), .binOp .andNot 59 (.tmp 31) (.tmp 33) 59, none⟩,
 ⟨(some 35), .binOp .eql 59 (.tmp 34) (.const (.int .u64 0)) 59, none⟩,
 ⟨(some 36), .move (.tmp 35), none⟩,
 ⟨(some 37), .fieldAddr 61 (.tmp 2) 1, (some (36, true))⟩,
 ⟨(some 38), .load 59 (.tmp 37), (some (36, true))⟩,
 ⟨(some 39), .call ⟨.value (.func 94), #[(.tmp 38)], #[58]⟩, (some (36, true))⟩,
 ⟨(some 40), .binOp .leq 3 (.tmp 39) (.const (.int .i64 2)) 3, (some (36, true))⟩,
 ⟨(some 41), .pick (.tmp 36) (.tmp 40) (.const (.bool false)), none⟩,
 ⟨(some 4), .assign (.tmp 41), none⟩] 4)
 (.ret)))
 (.seq (.reg [1, 2, 9] [⟨(some 43), .binOp .eql 5 (.tmp 9) (.const (.int .u8 3)) 5, none⟩,
 ⟨(some 42), .assign (.tmp 43), none⟩] 0)
 (.cond (.tmp 42) (.seq (.reg [1, 2] [⟨(some 44), .fieldAddr 61 (.tmp 2) 2, none⟩,
 ⟨(some 45), .load 4 (.tmp 44), none⟩,
 ⟨(some 46), .unOp .not 4 (.tmp 45), none⟩,
 ⟨(some 47), .move (.tmp 46), none⟩,
 ⟨(some 48), .fieldAddr 61 (.tmp 2) 1, (some (47, true))⟩,
 ⟨(some 49), .load 59 (.tmp 48), (some (47, true))⟩,
 ⟨(some 50), .move (.tmp 1), (some (47, true))⟩,
 ⟨(some 51), .binOp .add 3 (.tmp 50) (.const (.int .i64 1)) 3, (some (47, true))⟩,
 ⟨(some 52), .binOp .quo 3 (.tmp 51) (.const (.int .i64 2)) 3, (some (47, true))⟩,
 ⟨(some 53), .call ⟨.value (.func 93), #[(.tmp 52)], #[3]⟩, (some (47, true))⟩,
 ⟨(some 54), .binOp .andNot 59 (.tmp 49) (.tmp 53) 59, (some (47, true))⟩,
 ⟨(some 55), .binOp .eql 59 (.tmp 54) (.const (.int .u64 0)) 59, (some (47, true))⟩,
 ⟨(some 56), .pick (.tmp 47) (.tmp 55) (.const (.bool false)), none⟩,
 ⟨(some 4), .assign (.tmp 56), none⟩] 10)
 (.ret))
 (.skip)))))))))
 (.seq (.reg [] [⟨(some 4), .assign (.const (.bool false)), none⟩] 0)
 (.ret))))
def fn57 : MFn := ⟨57, [.tmp 4], m57, .shut⟩
theorem fnOk57 : FnOk Tryz.prog 57 fn57 := ⟨Tryz.f57, _, kpL passing [] [[0, 1], [1, 2], [], [1, 2], [1, 2, 9], [1, 2], [1, 2, 9], [1, 2], [2], [1, 2], [1, 2, 9], [1, 2], []], Tryz.func57, rfl, by kernel_rfl, by kernel_rfl, by kernel_rfl, by kernel_rfl⟩
/- (*seisin/inv.scene).swmr -/
def m66_l0 : M :=
 .seq (.reg [3, 4, 5, 11, 12, 13] [⟨(some 14), .binOp .lss 3 (.tmp 13) (.tmp 12) 3, none⟩] 0)
 (.seq (.cond (.tmp 14) (.skip)
 (.exit 0))
 (.seq (.block 1 (.seq (.reg [3, 4, 5, 11, 12, 13] [⟨(some 15), .indexAddr 106 (.tmp 11) (.tmp 13), none⟩,
 ⟨(some 16), .load 83 (.tmp 15), none⟩,
 ⟨(some 7), .alloc 83, none⟩,
 ⟨none, .store 83 (.tmp 7) (.tmp 16), none⟩] 0)
 (.seq (.seq (.reg [3, 4, 5, 7, 11, 12, 13] [⟨(some 17), .load 83 (.tmp 7), none⟩,
 ⟨(some 18), .call ⟨.value (.func 96), #[(.tmp 17)], #[83]⟩, none⟩] 0)
 (.cond (.tmp 18) (.reg [3, 4, 5, 7, 11, 12, 13] [⟨(some 19), .move (.tmp 3), none⟩,
 ⟨(some 20), .binOp .add 3 (.tmp 19) (.const (.int .i64 1)) 3, none⟩,
 ⟨(some 3), .assign (.tmp 20), none⟩] 0)
 (.skip)))
 (.seq (.seq (.reg [3, 4, 5, 7, 11, 12, 13] [⟨(some 21), .load 83 (.tmp 7), none⟩,
 ⟨(some 22), .call ⟨.value (.func 97), #[(.tmp 21)], #[83]⟩, none⟩] 0)
 (.cond (.tmp 22) (.reg [3, 4, 5, 7, 11, 12, 13] [⟨(some 23), .move (.tmp 4), none⟩,
 ⟨(some 24), .binOp .add 3 (.tmp 23) (.const (.int .i64 1)) 3, none⟩,
 ⟨(some 4), .assign (.tmp 24), none⟩] 0)
 (.skip)))
 (.seq (.reg [3, 4, 5, 7, 11, 12, 13] [⟨(some 25), .fieldAddr 83 (.tmp 7) 1, none⟩,
 ⟨(some 26), .load 5 (.tmp 25), none⟩,
 ⟨(some 27), .binOp .eql 5 (.tmp 26) (.const (.int .u8 2)) 5, none⟩,
 ⟨(some 28), .move (.tmp 27), none⟩,
 ⟨(some 29), .fieldAddr 83 (.tmp 7) 1, (some (28, false))⟩,
 ⟨(some 30), .load 5 (.tmp 29), (some (28, false))⟩,
 ⟨(some 31), .binOp .eql 5 (.tmp 30) (.const (.int .u8 4)) 5, (some (28, false))⟩,
 ⟨(some 32), .pick (.tmp 28) (.const (.bool true)) (.tmp 31), none⟩] 0)
 (.cond (.tmp 32) (.reg [3, 4, 5, 11, 12, 13] [⟨(some 33), .move (.tmp 5), none⟩,
 ⟨(some 34), .binOp .add 3 (.tmp 33) (.const (.int .i64 1)) 3, none⟩,
 ⟨(some 5), .assign (.tmp 34), none⟩] 0)
 (.skip)))))))
 (.reg [3, 4, 5, 11, 12, 13] [⟨(some 35), .binOp .add 3 (.tmp 13) (.const (.int .i64 1)) 3, none⟩,
 ⟨(some 13), .move (.tmp 35), none⟩] 0)))
def m66 : M :=
 .seq (.reg [0] [⟨(some 2), .assign (.const (.bool false)), none⟩] 0)
 (.seq (.reg [0] [⟨(some 3), .assign (.const (.int .i64 0)), none⟩,
 ⟨(some 4), .assign (.const (.int .i64 0)), none⟩,
 ⟨(some 5), .assign (.const (.int .i64 0)), none⟩] 0)
 (.seq (.seq (.reg [0, 3, 4, 5] [⟨(some 8), .move (.tmp 0), none⟩,
 ⟨(some 9), .nilCheck (.tmp 8), none⟩,
 ⟨(some 10), .fieldAddr 108 (.tmp 9) 3, none⟩,
 ⟨(some 11), .load 106 (.tmp 10), none⟩,
 ⟨(some 12), .call ⟨.builtin .len, #[(.tmp 11)], #[106]⟩, none⟩,
 ⟨(some 13), .move (.const (.int .i64 0)), none⟩] 0)
 (.block 0 (.loop (m66_l0))))
 (.seq (.reg [3, 4, 5] [⟨(some 36), .move (.tmp 4), none⟩,
 ⟨(some 37), .binOp .leq 3 (.tmp 36) (.const (.int .i64 1)) 3, none⟩,
 ⟨(some 38), .move (.tmp 37), none⟩,
 ⟨(some 39), .move (.tmp 5), (some (38, true))⟩,
 ⟨(some 40), .binOp .eql 3 (.tmp 39) (.const (.int .i64 0)) 3, (some (38, true))⟩,
 ⟨(some 41), .move (.tmp 40), (some (38, true))⟩,
 ⟨(some 42), .move (.tmp 3), (some (41, false))⟩,
 ⟨(some 43), .binOp .eql 3 (.tmp 42) (.const (.int .i64 1)) 3, (some (41, false))⟩,
 ⟨(some 44), .pick (.tmp 41) (.const (.bool true)) (.tmp 43), (some (38, true))⟩,
 ⟨(some 45), .pick (.tmp 38) (.tmp 44) (.const (.bool false)), none⟩,
 ⟨(some 2), .assign (.tmp 45), none⟩] 0)
 (.ret))))
def fn66 : MFn := ⟨46, [.tmp 2], m66, .pass⟩
theorem fnOk66 : FnOk Tryz.prog 66 fn66 := ⟨Tryz.f66, _, kpL passing [] [[0], [0], [0, 3, 4, 5], [3, 4, 5, 11, 12, 13], [3, 4, 5, 11, 12, 13], [3, 4, 5, 7, 11, 12, 13], [3, 4, 5, 7, 11, 12, 13], [3, 4, 5, 7, 11, 12, 13], [3, 4, 5, 7, 11, 12, 13], [3, 4, 5, 7, 11, 12, 13], [3, 4, 5, 11, 12, 13], [3, 4, 5, 11, 12, 13], [3, 4, 5]], Tryz.func66, rfl, by kernel_rfl, by kernel_rfl, by kernel_rfl, by kernel_rfl⟩
/- (*seisin/inv.scene).fresh -/
def m67_l0 : M :=
 .seq (.reg [0, 3, 12, 13, 14] [⟨(some 15), .binOp .lss 3 (.tmp 14) (.tmp 13) 3, none⟩] 0)
 (.seq (.cond (.tmp 15) (.skip)
 (.exit 0))
 (.seq (.block 1 (.seq (.reg [0, 3, 12, 13, 14] [⟨(some 16), .indexAddr 106 (.tmp 12) (.tmp 14), none⟩,
 ⟨(some 17), .load 83 (.tmp 16), none⟩,
 ⟨(some 5), .alloc 83, none⟩,
 ⟨none, .store 83 (.tmp 5) (.tmp 17), none⟩] 0)
 (.seq (.reg [0, 3, 5, 12, 13, 14] [⟨(some 18), .load 83 (.tmp 5), none⟩,
 ⟨(some 19), .call ⟨.value (.func 96), #[(.tmp 18)], #[83]⟩, none⟩] 0)
 (.cond (.tmp 19) (.reg [0, 3, 5, 12, 13, 14] [⟨(some 20), .move (.tmp 3), none⟩,
 ⟨(some 21), .fieldAddr 83 (.tmp 5) 4, none⟩,
 ⟨(some 22), .load 63 (.tmp 21), none⟩,
 ⟨(some 23), .buildSlice 168 1 #[(0, (.tmp 22))], none⟩,
 ⟨(some 24), .call ⟨.builtin .append, #[(.tmp 20), (.tmp 23)], #[168, 168]⟩, none⟩,
 ⟨(some 3), .assign (.tmp 24), none⟩] 0)
 (.skip)))))
 (.reg [0, 3, 12, 13, 14] [⟨(some 25), .binOp .add 3 (.tmp 14) (.const (.int .i64 1)) 3, none⟩,
 ⟨(some 14), .move (.tmp 25), none⟩] 0)))
def m67_l1 : M :=
 .seq (.reg [3, 68, 69, 70] [⟨(some 71), .binOp .lss 3 (.tmp 70) (.tmp 69) 3, none⟩] 0)
 (.seq (.cond (.tmp 71) (.skip)
 (.exit 2))
 (.seq (.block 3 (.seq (.reg [3, 68, 69, 70] [⟨(some 72), .indexAddr 168 (.tmp 68) (.tmp 70), none⟩,
 ⟨(some 73), .load 63 (.tmp 72), none⟩,
 ⟨(some 8), .alloc 63, none⟩,
 ⟨none, .store 63 (.tmp 8) (.tmp 73), none⟩] 0)
 (.seq (.reg [3, 8, 68, 69, 70] [⟨(some 74), .load 63 (.tmp 8), none⟩,
 ⟨(some 75), .move (.tmp 3), none⟩,
 ⟨(some 76), .indexAddr 168 (.tmp 75) (.const (.int .i64 0)), none⟩,
 ⟨(some 77), .load 63 (.tmp 76), none⟩,
 ⟨(some 78), .binOp .neq 63 (.tmp 74) (.tmp 77) 63, none⟩] 4)
 (.cond (.tmp 78) (.seq (.reg [] [⟨(some 2), .assign (.const (.bool false)), none⟩] 0)
 (.ret))
 (.skip)))))
 (.reg [3, 68, 69, 70] [⟨(some 79), .binOp .add 3 (.tmp 70) (.const (.int .i64 1)) 3, none⟩,
 ⟨(some 70), .move (.tmp 79), none⟩] 0)))
def m67 : M :=
 .seq (.reg [0] [⟨(some 2), .assign (.const (.bool false)), none⟩] 0)
 (.seq (.reg [0] [⟨(some 3), .assign (.const (.slice none 0 0)), none⟩] 0)
 (.seq (.seq (.reg [0, 3] [⟨(some 9), .move (.tmp 0), none⟩,
 ⟨(some 10), .nilCheck (.tmp 9), none⟩,
 ⟨(some 11), .fieldAddr 108 (.tmp 10) 3, none⟩,
 ⟨(some 12), .load 106 (.tmp 11), none⟩,
 ⟨(some 13), .call ⟨.builtin .len, #[(.tmp 12)], #[106]⟩, none⟩,
 ⟨(some 14), .move (.const (.int .i64 0)), none⟩] 0)
 (.block 0 (.loop (m67_l0))))
 (.seq (.seq (.reg [0, 3] [⟨(some 26), .move (.tmp 3), none⟩,
 ⟨(some 27), .call ⟨.builtin .len, #[(.tmp 26)], #[168]⟩, none⟩,
 ⟨(some 28), .binOp .eql 3 (.tmp 27) (.const (.int .i64 0)) 3, none⟩] 0)
 (.cond (.tmp 28) (.seq (.reg [] [⟨(some 2), .assign (.const (.bool true)), none⟩] 0)
 (.ret))
 (.skip)))
 (.seq (.seq (.reg [0, 3] [⟨(some 29), .move (.tmp 0), none⟩,
 ⟨(some 30), .nilCheck (.tmp 29), none⟩,
 ⟨(some 31), .fieldAddr 108 (.tmp 30) 2, none⟩,
 ⟨(some 32), .fieldAddr 65 (.tmp 31) 3, none⟩,
 ⟨(some 33), .load 5 (.tmp 32), none⟩,
 ⟨(some 34), .binOp .eql 5 (.tmp 33) (.const (.int .u8 0)) 5, none⟩] 0)
 (.cond (.tmp 34) (.seq (.reg [0, 3] [⟨(some 35), .move (.tmp 0), none⟩,
 ⟨(some 36), .nilCheck (.tmp 35), none⟩,
 ⟨(some 37), .fieldAddr 108 (.tmp 36) 2, none⟩,
 ⟨(some 38), .fieldAddr 65 (.tmp 37) 1, none⟩,
 ⟨(some 39), .load 5 (.tmp 38), none⟩,
 ⟨(some 40), .binOp .eql 5 (.tmp 39) (.const (.int .u8 255)) 5, none⟩] 0)
 (.cond (.tmp 40) (.reg [0, 3] [⟨(some 41), .move (.tmp 3), none⟩,
 ⟨(some 42), .move (.tmp 0), none⟩,
 ⟨(some 43), .nilCheck (.tmp 42), none⟩,
 ⟨(some 44), .fieldAddr 108 (.tmp 43) 2, none⟩,
 ⟨(some 45), .fieldAddr 65 (.tmp 44) 5, none⟩,
 ⟨(some 46), .load 63 (.tmp 45), none⟩,
 ⟨(some 47), .buildSlice 168 1 #[(0, (.tmp 46))], none⟩,
 ⟨(some 48), .call ⟨.builtin .append, #[(.tmp 41), (.tmp 47)], #[168, 168]⟩, none⟩,
 ⟨(some 3), .assign (.tmp 48), none⟩] 0)
 (.seq (.reg [0, 3] [⟨(some 49), .move (.tmp 0), none⟩,
 ⟨(some 50), .nilCheck (.tmp 49), none⟩,
 ⟨(some 51), .fieldAddr 108 (.tmp 50) 3, none⟩,
 ⟨(some 52), .load 106 (.tmp 51), none⟩,
 ⟨(some 53), .move (.tmp 0), none⟩,
 ⟨(some 54), .nilCheck (.tmp 53), none⟩,
 ⟨(some 55), .fieldAddr 108 (.tmp 54) 2, none⟩,
 ⟨(some 56), .fieldAddr 65 (.tmp 55) 1, none⟩,
 ⟨(some 57), .load 5 (.tmp 56), none⟩,
 ⟨(some 58), .indexAddr 106 (.tmp 52) (.tmp 57), none⟩,
 ⟨(some 59), .load 83 (.tmp 58), none⟩,
 ⟨(some 6), .alloc 83, none⟩,
 ⟨none, .store 83 (.tmp 6) (.tmp 59), none⟩] 10)
 (.seq (.reg [3, 6] [⟨(some 60), .fieldAddr 83 (.tmp 6) 1, none⟩,
 ⟨(some 61), .load 5 (.tmp 60), none⟩,
 ⟨(some 62), .binOp .eql 5 (.tmp 61) (.const (.int .u8 10)) 5, none⟩] 0)
 (.cond (.tmp 62) (.reg [3, 6] [⟨(some 63), .move (.tmp 3), none⟩,
 ⟨(some 64), .fieldAddr 83 (.tmp 6) 4, none⟩,
 ⟨(some 65), .load 63 (.tmp 64), none⟩,
 ⟨(some 66), .buildSlice 168 1 #[(0, (.tmp 65))], none⟩,
 ⟨(some 67), .call ⟨.builtin .append, #[(.tmp 63), (.tmp 66)], #[168, 168]⟩, none⟩,
 ⟨(some 3), .assign (.tmp 67), none⟩] 0)
 (.skip))))))
 (.skip)))
 (.seq (.seq (.reg [3] [⟨(some 68), .move (.tmp 3), none⟩,
 ⟨(some 69), .call ⟨.builtin .len, #[(.tmp 68)], #[168]⟩, none⟩,
 ⟨(some 70), .move (.const (.int .i64 0)), none⟩] 0)
 (.block 2 (.loop (m67_l1))))
 (.seq (.reg [] [⟨(some 2), .assign (.const (.bool true)), none⟩] 0)
 (.ret)))))))
def fn67 : MFn := ⟨80, [.tmp 2], m67, .pass⟩
theorem fnOk67 : FnOk Tryz.prog 67 fn67 := ⟨Tryz.f67, _, kpL passing [] [[0], [0], [0, 3], [0, 3, 12, 13, 14], [0, 3, 12, 13, 14], [0, 3, 5, 12, 13, 14], [0, 3, 5, 12, 13, 14], [0, 3, 12, 13, 14], [0, 3], [], [0, 3], [0, 3], [0, 3], [0, 3], [3, 6], [3, 6], [3], [3, 68, 69, 70], [3, 68, 69, 70], [3, 8, 68, 69, 70], [], [3, 68, 69, 70], []], Tryz.func67, rfl, by kernel_rfl, by kernel_rfl, by kernel_rfl, by kernel_rfl⟩
/- (*seisin/inv.scene).noted -/
def m68_l0 : M :=
 .seq (.reg [3, 5, 54, 55, 56] [⟨(some 57), .binOp .lss 3 (.tmp 56) (.tmp 55) 3, none⟩] 0)
 (.seq (.cond (.tmp 57) (.skip)
 (.exit 1))
 (.seq (.block 2 (.seq (.reg [3, 5, 54, 55, 56] [⟨(some 58), .move (.tmp 56), none⟩,
 ⟨(some 59), .indexAddr 106 (.tmp 54) (.tmp 56), none⟩,
 ⟨(some 60), .load 83 (.tmp 59), none⟩,
 ⟨(some 7), .alloc 83, none⟩,
 ⟨(some 6), .assign (.tmp 58), none⟩,
 ⟨none, .store 83 (.tmp 7) (.tmp 60), none⟩] 0)
 (.seq (.seq (.reg [3, 5, 6, 7, 54, 55, 56] [⟨(some 61), .load 83 (.tmp 7), none⟩,
 ⟨(some 62), .call ⟨.value (.func 96), #[(.tmp 61)], #[83]⟩, none⟩,
 ⟨(some 63), .unOp .not 4 (.tmp 62), none⟩] 0)
 (.cond (.tmp 63) (.exit 2)
 (.skip)))
 (.seq (.reg [3, 5, 6, 7, 54, 55, 56] [⟨(some 64), .move (.tmp 6), none⟩,
 ⟨(some 65), .fieldAddr 65 (.tmp 3) 1, none⟩,
 ⟨(some 66), .load 5 (.tmp 65), none⟩,
 ⟨(some 67), .convert 5 3 (.tmp 66), none⟩,
 ⟨(some 68), .binOp .eql 3 (.tmp 64) (.tmp 67) 3, none⟩,
 ⟨(some 8), .assign (.tmp 68), none⟩] 0)
 (.block 3 (.seq (.seq (.reg [3, 5, 6, 7, 8, 54, 55, 56] [⟨(some 70), .fieldAddr 65 (.tmp 3) 0, none⟩,
 ⟨(some 71), .load 5 (.tmp 70), none⟩,
 ⟨(some 72), .binOp .eql 5 (.tmp 71) (.const (.int .u8 0)) 5, none⟩,
 ⟨(some 69), .assign (.tmp 72), none⟩] 0)
 (.cond (.tmp 69) (.skip)
 (.seq (.reg [3, 5, 6, 7, 8, 54, 55, 56] [⟨(some 73), .fieldAddr 65 (.tmp 3) 0, none⟩,
 ⟨(some 74), .load 5 (.tmp 73), none⟩,
 ⟨(some 75), .binOp .eql 5 (.tmp 74) (.const (.int .u8 2)) 5, none⟩,
 ⟨(some 76), .move (.tmp 75), none⟩,
 ⟨(some 77), .move (.tmp 8), (some (76, true))⟩,
 ⟨(some 78), .unOp .not 4 (.tmp 77), (some (76, true))⟩,
 ⟨(some 79), .pick (.tmp 76) (.tmp 78) (.const (.bool false)), none⟩,
 ⟨(some 69), .assign (.tmp 79), none⟩] 0)
 (.cond (.tmp 69) (.skip)
 (.seq (.reg [3, 5, 6, 7, 8, 54, 55, 56] [⟨(some 80), .load 83 (.tmp 7), none⟩,
 ⟨(some 81), .call ⟨.value (.func 97), #[(.tmp 80)], #[83]⟩, none⟩,
 ⟨(some 82), .move (.tmp 81), none⟩,
 ⟨(some 83), .move (.tmp 8), (some (82, true))⟩,
 ⟨(some 84), .unOp .not 4 (.tmp 83), (some (82, true))⟩,
 ⟨(some 85), .pick (.tmp 82) (.tmp 84) (.const (.bool false)), none⟩,
 ⟨(some 69), .assign (.tmp 85), none⟩] 0)
 (.cond (.tmp 69) (.skip)
 (.reg [3, 5, 6, 7, 54, 55, 56] [⟨(some 86), .load 83 (.tmp 7), none⟩,
 ⟨(some 87), .call ⟨.value (.func 97), #[(.tmp 86)], #[83]⟩, none⟩,
 ⟨(some 88), .unOp .not 4 (.tmp 87), none⟩,
 ⟨(some 89), .move (.tmp 88), none⟩,
 ⟨(some 90), .move (.tmp 5), (some (89, true))⟩,
 ⟨(some 91), .move (.tmp 6), (some (89, true))⟩,
 ⟨(some 92), .binOp .shr 59 (.tmp 90) (.tmp 91) 3, (some (89, true))⟩,
 ⟨(some 93), .binOp .and 59 (.tmp 92) (.const (.int .u64 1)) 59, (some (89, true))⟩,
 ⟨(some 94), .binOp .eql 59 (.tmp 93) (.const (.int .u64 0)) 59, (some (89, true))⟩,
 ⟨(some 95), .pick (.tmp 89) (.tmp 94) (.const (.bool false)), none⟩,
 ⟨(some 69), .assign (.tmp 95), none⟩] 0)))))))
 (.cond (.tmp 69) (.seq (.reg [] [⟨(some 2), .assign (.const (.bool false)), none⟩] 0)
 (.ret))
 (.skip))))))))
 (.reg [3, 5, 54, 55, 56] [⟨(some 96), .binOp .add 3 (.tmp 56) (.const (.int .i64 1)) 3, none⟩,
 ⟨(some 56), .move (.tmp 96), none⟩] 0)))
def m68 : M :=
 .seq (.reg [0] [⟨(some 2), .assign (.const (.bool false)), none⟩] 0)
 (.seq (.reg [0] [⟨(some 9), .move (.tmp 0), none⟩,
 ⟨(some 10), .nilCheck (.tmp 9), none⟩,
 ⟨(some 11), .fieldAddr 108 (.tmp 10) 2, none⟩,
 ⟨(some 12), .load 65 (.tmp 11), none⟩,
 ⟨(some 3), .alloc 65, none⟩,
 ⟨none, .store 65 (.tmp 3) (.tmp 12), none⟩] 0)
 (.seq (.seq (.reg [0, 3] [⟨(some 13), .fieldAddr 65 (.tmp 3) 3, none⟩,
 ⟨(some 14), .load 5 (.tmp 13), none⟩,
 ⟨(some 15), .binOp .neq 5 (.tmp 14) (.const (.int .u8 0)) 5, none⟩] 0)
 (.cond (.tmp 15) (.seq (.reg [] [⟨(some 2), .assign (.const (.bool true)), none⟩] 0)
 (.ret))
 (.skip)))
 (.seq (.seq (.reg [0, 3] [⟨(some 16), .fieldAddr 65 (.tmp 3) 0, none⟩,
 ⟨(some 17), .load 5 (.tmp 16), none⟩] 0)
 (.block 0 (.seq (.seq (.reg [0, 3, 17] [⟨(some 38), .binOp .eql 5 (.tmp 17) (.const (.int .u8 0)) 5, none⟩,
 ⟨(some 37), .assign (.tmp 38), none⟩] 0)
 (.cond (.tmp 37) (.skip)
 (.reg [0, 3, 17] [⟨(some 39), .binOp .eql 5 (.tmp 17) (.const (.int .u8 1)) 5, none⟩,
 ⟨(some 37), .assign (.tmp 39), none⟩] 0)))
 (.cond (.tmp 37) (.seq (.reg [0, 3] [⟨(some 40), .fieldAddr 65 (.tmp 3) 1, none⟩,
 ⟨(some 41), .load 5 (.tmp 40), none⟩,
 ⟨(some 42), .binOp .neq 5 (.tmp 41) (.const (.int .u8 255)) 5, none⟩] 0)
 (.cond (.tmp 42) (.seq (.reg [] [⟨(some 2), .assign (.const (.bool false)), none⟩] 0)
 (.ret))
 (.skip)))
 (.seq (.seq (.reg [0, 3] [⟨(some 18), .fieldAddr 65 (.tmp 3) 1, none⟩,
 ⟨(some 19), .load 5 (.tmp 18), none⟩,
 ⟨(some 20), .binOp .eql 5 (.tmp 19) (.const (.int .u8 255)) 5, none⟩] 0)
 (.cond (.tmp 20) (.seq (.reg [] [⟨(some 2), .assign (.const (.bool false)), none⟩] 0)
 (.ret))
 (.skip)))
 (.seq (.reg [0, 3] [⟨(some 21), .move (.tmp 0), none⟩,
 ⟨(some 22), .nilCheck (.tmp 21), none⟩,
 ⟨(some 23), .fieldAddr 108 (.tmp 22) 3, none⟩,
 ⟨(some 24), .load 106 (.tmp 23), none⟩,
 ⟨(some 25), .fieldAddr 65 (.tmp 3) 1, none⟩,
 ⟨(some 26), .load 5 (.tmp 25), none⟩,
 ⟨(some 27), .indexAddr 106 (.tmp 24) (.tmp 26), none⟩,
 ⟨(some 28), .load 83 (.tmp 27), none⟩,
 ⟨(some 4), .alloc 83, none⟩,
 ⟨none, .store 83 (.tmp 4) (.tmp 28), none⟩] 7)
 (.seq (.reg [0, 3, 4] [⟨(some 29), .load 83 (.tmp 4), none⟩,
 ⟨(some 30), .call ⟨.value (.func 97), #[(.tmp 29)], #[83]⟩, none⟩,
 ⟨(some 31), .unOp .not 4 (.tmp 30), none⟩,
 ⟨(some 32), .move (.tmp 31), none⟩,
 ⟨(some 33), .fieldAddr 83 (.tmp 4) 1, (some (32, true))⟩,
 ⟨(some 34), .load 5 (.tmp 33), (some (32, true))⟩,
 ⟨(some 35), .binOp .neq 5 (.tmp 34) (.const (.int .u8 10)) 5, (some (32, true))⟩,
 ⟨(some 36), .pick (.tmp 32) (.tmp 35) (.const (.bool false)), none⟩] 0)
 (.cond (.tmp 36) (.seq (.reg [] [⟨(some 2), .assign (.const (.bool false)), none⟩] 0)
 (.ret))
 (.skip)))))))))
 (.seq (.reg [0, 3] [⟨(some 43), .fieldAddr 65 (.tmp 3) 2, none⟩,
 ⟨(some 44), .load 61 (.tmp 43), none⟩,
 ⟨(some 45), .move (.tmp 0), none⟩,
 ⟨(some 46), .nilCheck (.tmp 45), none⟩,
 ⟨(some 47), .fieldAddr 108 (.tmp 46) 0, none⟩,
 ⟨(some 48), .fieldAddr 31 (.tmp 47) 0, none⟩,
 ⟨(some 49), .load 3 (.tmp 48), none⟩,
 ⟨(some 50), .call ⟨.value (.func 98), #[(.tmp 44), (.tmp 49)], #[61, 3]⟩, none⟩,
 ⟨(some 5), .assign (.tmp 50), none⟩] 7)
 (.seq (.seq (.reg [0, 3, 5] [⟨(some 51), .move (.tmp 0), none⟩,
 ⟨(some 52), .nilCheck (.tmp 51), none⟩,
 ⟨(some 53), .fieldAddr 108 (.tmp 52) 3, none⟩,
 ⟨(some 54), .load 106 (.tmp 53), none⟩,
 ⟨(some 55), .call ⟨.builtin .len, #[(.tmp 54)], #[106]⟩, none⟩,
 ⟨(some 56), .move (.const (.int .i64 0)), none⟩] 0)
 (.block 1 (.loop (m68_l0))))
 (.seq (.reg [] [⟨(some 2), .assign (.const (.bool true)), none⟩] 0)
 (.ret)))))))
def fn68 : MFn := ⟨97, [.tmp 2], m68, .pass⟩
theorem fnOk68 : FnOk Tryz.prog 68 fn68 := ⟨Tryz.f68, _, kpL passing [] [[0], [0], [0, 3], [], [0, 3], [0, 3], [], [0, 3], [0, 3, 4], [], [0, 3, 17], [0, 3, 17], [0, 3], [], [0, 3], [0, 3, 5], [3, 5, 54, 55, 56], [3, 5, 54, 55, 56], [3, 5, 6, 7, 54, 55, 56], [3, 5, 6, 7, 54, 55, 56], [3, 5, 6, 7, 8, 54, 55, 56], [3, 5, 6, 7, 8, 54, 55, 56], [3, 5, 6, 7, 8, 54, 55, 56], [3, 5, 6, 7, 54, 55, 56], [], [3, 5, 54, 55, 56], []], Tryz.func68, rfl, by kernel_rfl, by kernel_rfl, by kernel_rfl, by kernel_rfl⟩
/- (*seisin/inv.scene).paired -/
def m69_l0 : M :=
 .seq (.reg [0, 12, 13] [⟨(some 14), .binOp .lss 3 (.tmp 13) (.tmp 12) 3, none⟩] 0)
 (.seq (.cond (.tmp 14) (.skip)
 (.exit 0))
 (.seq (.block 1 (.seq (.reg [0, 12, 13] [⟨(some 15), .move (.tmp 13), none⟩,
 ⟨(some 3), .assign (.tmp 15), none⟩] 0)
 (.seq (.reg [0, 3, 12, 13] [⟨(some 16), .move (.tmp 0), none⟩,
 ⟨(some 17), .move (.tmp 3), none⟩,
 ⟨(some 18), .convert 3 5 (.tmp 17), none⟩,
 ⟨(some 19), .call ⟨.value (.func 99), #[(.tmp 16), (.tmp 18)], #[111, 5]⟩, none⟩,
 ⟨(some 20), .unOp .not 4 (.tmp 19), none⟩,
 ⟨(some 21), .move (.tmp 20), none⟩,
 ⟨(some 22), .move (.tmp 0), (some (21, false))⟩,
 ⟨(some 23), .move (.tmp 3), (some (21, false))⟩,
 ⟨(some 24), .convert 3 5 (.tmp 23), (some (21, false))⟩,
 ⟨(some 25), .call ⟨.value (.func 100), #[(.tmp 22), (.tmp 24)], #[111, 5]⟩, (some (21, false))⟩,
 ⟨(some 26), .unOp .not 4 (.tmp 25), (some (21, false))⟩,
 ⟨(some 27), .pick (.tmp 21) (.const (.bool true)) (.tmp 26), none⟩,
 ⟨(some 28), .move (.tmp 27), none⟩,
 ⟨(some 29), .move (.tmp 0), (some (28, false))⟩,
 ⟨(some 30), .move (.tmp 3), (some (28, false))⟩,
 ⟨(some 31), .convert 3 5 (.tmp 30), (some (28, false))⟩,
 ⟨(some 32), .call ⟨.value (.func 101), #[(.tmp 29), (.tmp 31)], #[111, 5]⟩, (some (28, false))⟩,
 ⟨(some 33), .unOp .not 4 (.tmp 32), (some (28, false))⟩,
 ⟨(some 34), .pick (.tmp 28) (.const (.bool true)) (.tmp 33), none⟩] 0)
 (.cond (.tmp 34) (.seq (.reg [] [⟨(some 2), .assign (.const (.bool false)), none⟩] 0)
 (.ret))
 (.skip)))))
 (.reg [0, 12, 13] [⟨(some 35), .binOp .add 3 (.tmp 13) (.const (.int .i64 1)) 3, none⟩,
 ⟨(some 13), .move (.tmp 35), none⟩] 0)))
def m69_l1 : M :=
 .seq (.reg [0, 4, 39, 40, 41] [⟨(some 42), .binOp .lss 3 (.tmp 41) (.tmp 40) 3, none⟩] 0)
 (.seq (.cond (.tmp 42) (.skip)
 (.exit 2))
 (.seq (.block 3 (.seq (.reg [0, 4, 39, 40, 41] [⟨(some 43), .indexAddr 106 (.tmp 39) (.tmp 41), none⟩,
 ⟨(some 44), .load 83 (.tmp 43), none⟩,
 ⟨(some 6), .alloc 83, none⟩,
 ⟨none, .store 83 (.tmp 6) (.tmp 44), none⟩] 0)
 (.seq (.reg [0, 4, 6, 39, 40, 41] [⟨(some 45), .fieldAddr 83 (.tmp 6) 3, none⟩,
 ⟨(some 46), .load 4 (.tmp 45), none⟩] 0)
 (.cond (.tmp 46) (.reg [0, 4, 39, 40, 41] [⟨(some 47), .move (.tmp 4), none⟩,
 ⟨(some 48), .binOp .add 3 (.tmp 47) (.const (.int .i64 1)) 3, none⟩,
 ⟨(some 4), .assign (.tmp 48), none⟩] 0)
 (.skip)))))
 (.reg [0, 4, 39, 40, 41] [⟨(some 49), .binOp .add 3 (.tmp 41) (.const (.int .i64 1)) 3, none⟩,
 ⟨(some 41), .move (.tmp 49), none⟩] 0)))
def m69 : M :=
 .seq (.reg [0] [⟨(some 2), .assign (.const (.bool false)), none⟩] 0)
 (.seq (.seq (.reg [0] [⟨(some 8), .move (.tmp 0), none⟩,
 ⟨(some 9), .nilCheck (.tmp 8), none⟩,
 ⟨(some 10), .fieldAddr 108 (.tmp 9) 3, none⟩,
 ⟨(some 11), .load 106 (.tmp 10), none⟩,
 ⟨(some 12), .call ⟨.builtin .len, #[(.tmp 11)], #[106]⟩, none⟩,
 ⟨(some 13), .move (.const (.int .i64 0)), none⟩] 0)
 (.block 0 (.loop (m69_l0))))
 (.seq (.reg [0] [⟨(some 4), .assign (.const (.int .i64 0)), none⟩] 0)
 (.seq (.seq (.reg [0, 4] [⟨(some 36), .move (.tmp 0), none⟩,
 ⟨(some 37), .nilCheck (.tmp 36), none⟩,
 ⟨(some 38), .fieldAddr 108 (.tmp 37) 3, none⟩,
 ⟨(some 39), .load 106 (.tmp 38), none⟩,
 ⟨(some 40), .call ⟨.builtin .len, #[(.tmp 39)], #[106]⟩, none⟩,
 ⟨(some 41), .move (.const (.int .i64 0)), none⟩] 0)
 (.block 2 (.loop (m69_l1))))
 (.seq (.reg [0, 4] [⟨(some 50), .move (.tmp 0), none⟩,
 ⟨(some 51), .buildSlice 23 5 #[(0, (.const (.int .u8 6))), (1, (.const (.int .u8 7))), (2, (.const (.int .u8 10))), (3, (.const (.int .u8 11))), (4, (.const (.int .u8 4)))], none⟩,
 ⟨(some 52), .call ⟨.value (.func 102), #[(.tmp 50), (.tmp 51)], #[111, 23]⟩, none⟩,
 ⟨(some 53), .move (.tmp 4), none⟩,
 ⟨(some 54), .binOp .add 3 (.tmp 52) (.tmp 53) 3, none⟩,
 ⟨(some 7), .assign (.tmp 54), none⟩] 0)
 (.seq (.seq (.reg [0, 7] [⟨(some 55), .move (.tmp 7), none⟩,
 ⟨(some 56), .move (.tmp 0), none⟩,
 ⟨(some 57), .nilCheck (.tmp 56), none⟩,
 ⟨(some 58), .fieldAddr 108 (.tmp 57) 2, none⟩,
 ⟨(some 59), .fieldAddr 65 (.tmp 58) 3, none⟩,
 ⟨(some 60), .load 5 (.tmp 59), none⟩,
 ⟨(some 61), .binOp .and 5 (.tmp 60) (.const (.int .u8 1)) 5, none⟩,
 ⟨(some 62), .binOp .neq 5 (.tmp 61) (.const (.int .u8 0)) 5, none⟩,
 ⟨(some 63), .call ⟨.value (.func 103), #[(.tmp 62)], #[4]⟩, none⟩,
 ⟨(some 64), .binOp .neq 3 (.tmp 55) (.tmp 63) 3, none⟩] 0)
 (.cond (.tmp 64) (.seq (.reg [] [⟨(some 2), .assign (.const (.bool false)), none⟩] 0)
 (.ret))
 (.skip)))
 (.seq (.seq (.reg [0] [⟨(some 65), .move (.tmp 0), none⟩,
 ⟨(some 66), .nilCheck (.tmp 65), none⟩,
 ⟨(some 67), .fieldAddr 108 (.tmp 66) 2, none⟩,
 ⟨(some 68), .fieldAddr 65 (.tmp 67) 3, none⟩,
 ⟨(some 69), .load 5 (.tmp 68), none⟩,
 ⟨(some 70), .binOp .and 5 (.tmp 69) (.const (.int .u8 2)) 5, none⟩,
 ⟨(some 71), .binOp .neq 5 (.tmp 70) (.const (.int .u8 0)) 5, none⟩] 0)
 (.cond (.tmp 71) (.seq (.reg [0] [⟨(some 72), .move (.tmp 0), none⟩,
 ⟨(some 73), .buildSlice 23 2 #[(0, (.const (.int .u8 6))), (1, (.const (.int .u8 5)))], none⟩,
 ⟨(some 74), .call ⟨.value (.func 102), #[(.tmp 72), (.tmp 73)], #[111, 23]⟩, none⟩,
 ⟨(some 75), .binOp .eql 3 (.tmp 74) (.const (.int .i64 1)) 3, none⟩,
 ⟨(some 2), .assign (.tmp 75), none⟩] 0)
 (.ret))
 (.skip)))
 (.seq (.reg [0] [⟨(some 76), .move (.tmp 0), none⟩,
 ⟨(some 77), .buildSlice 23 1 #[(0, (.const (.int .u8 5)))], none⟩,
 ⟨(some 78), .call ⟨.value (.func 102), #[(.tmp 76), (.tmp 77)], #[111, 23]⟩, none⟩,
 ⟨(some 79), .binOp .eql 3 (.tmp 78) (.const (.int .i64 0)) 3, none⟩,
 ⟨(some 2), .assign (.tmp 79), none⟩] 0)
 (.ret))))))))
def fn69 : MFn := ⟨80, [.tmp 2], m69, .pass⟩
theorem fnOk69 : FnOk Tryz.prog 69 fn69 := ⟨Tryz.f69, _, kpL passing [] [[0], [0], [0, 12, 13], [0, 12, 13], [0, 3, 12, 13], [], [0, 12, 13], [0], [0, 4], [0, 4, 39, 40, 41], [0, 4, 39, 40, 41], [0, 4, 6, 39, 40, 41], [0, 4, 39, 40, 41], [0, 4, 39, 40, 41], [0, 4], [0, 7], [], [0], [0], [0]], Tryz.func69, rfl, by kernel_rfl, by kernel_rfl, by kernel_rfl, by kernel_rfl⟩
/- (seisin/book.number).name -/
def m70 : M :=
 .seq (.reg [0] [⟨(some 2), .assign (.const (.string ⟨#[]⟩)), none⟩] 0)
 (.seq (.seq (.reg [0] [⟨(some 3), .move (.tmp 0), none⟩] 0)
 (.block 0 (.seq (.reg [3] [⟨(some 5), .binOp .eql 5 (.tmp 3) (.const (.int .u8 1)) 5, none⟩,
 ⟨(some 4), .assign (.tmp 5), none⟩] 0)
 (.cond (.tmp 4) (.seq (.reg [] [⟨(some 2), .assign (.const (.string ⟨#[109, 115, 105]⟩)), none⟩] 0)
 (.ret))
 (.seq (.reg [3] [⟨(some 7), .binOp .eql 5 (.tmp 3) (.const (.int .u8 2)) 5, none⟩,
 ⟨(some 6), .assign (.tmp 7), none⟩] 0)
 (.cond (.tmp 6) (.seq (.reg [] [⟨(some 2), .assign (.const (.string ⟨#[109, 101, 115, 105]⟩)), none⟩] 0)
 (.ret))
 (.seq (.reg [3] [⟨(some 9), .binOp .eql 5 (.tmp 3) (.const (.int .u8 3)) 5, none⟩,
 ⟨(some 8), .assign (.tmp 9), none⟩] 0)
 (.cond (.tmp 8) (.seq (.reg [] [⟨(some 2), .assign (.const (.string ⟨#[109, 111, 101, 115, 105]⟩)), none⟩] 0)
 (.ret))
 (.skip)))))))))
 (.seq (.reg [] [⟨(some 2), .assign (.const (.string ⟨#[]⟩)), none⟩] 0)
 (.ret)))
def fn70 : MFn := ⟨10, [.tmp 2], m70, .shut⟩
theorem fnOk70 : FnOk Tryz.prog 70 fn70 := ⟨Tryz.f70, _, kpL passing [] [[0], [0], [3], [], [3], [], [3], [], []], Tryz.func70, rfl, by kernel_rfl, by kernel_rfl, by kernel_rfl, by kernel_rfl⟩
/- seisin/spec.Parse -/
def m71_l0 : M :=
 .seq (.reg [2, 3, 4, 5, 6, 17, 18] [⟨(some 7), .assign (.tmp 17), none⟩] 0)
 (.reg [2, 3, 4, 5, 6, 7, 18] [⟨(some 8), .assign (.tmp 18), none⟩] 0)
def m71_l1 : M :=
 .block 1 (.seq (.seq (.reg [2, 3, 4, 5, 6, 7, 8] [⟨(some 19), .fieldAddr 42 (.tmp 5) 0, none⟩,
 ⟨(some 20), .load 9 (.tmp 19), none⟩,
 ⟨(some 21), .binOp .eql 9 (.tmp 20) (.const (.string ⟨#[]⟩)) 9, none⟩] 0)
 (.cond (.tmp 21) (.seq (.seq (.reg [2, 3, 4, 5, 7, 8] [⟨(some 22), .move (.tmp 8), none⟩,
 ⟨(some 23), .call ⟨.builtin .len, #[(.tmp 22)], #[22]⟩, none⟩,
 ⟨(some 24), .binOp .neq 3 (.tmp 23) (.const (.int .i64 2)) 3, none⟩,
 ⟨(some 25), .move (.tmp 24), none⟩,
 ⟨(some 26), .move (.tmp 8), (some (25, false))⟩,
 ⟨(some 27), .indexAddr 22 (.tmp 26) (.const (.int .i64 0)), (some (25, false))⟩,
 ⟨(some 28), .load 9 (.tmp 27), (some (25, false))⟩,
 ⟨(some 29), .binOp .neq 9 (.tmp 28) (.const (.string ⟨#[116, 97, 98, 108, 101]⟩)) 9, (some (25, false))⟩,
 ⟨(some 30), .pick (.tmp 25) (.const (.bool true)) (.tmp 29), none⟩,
 ⟨(some 31), .move (.tmp 30), none⟩,
 ⟨(some 32), .move (.tmp 8), (some (31, false))⟩,
 ⟨(some 33), .indexAddr 22 (.tmp 32) (.const (.int .i64 1)), (some (31, false))⟩,
 ⟨(some 34), .load 9 (.tmp 33), (some (31, false))⟩,
 ⟨(some 35), .call ⟨.value (.func 106), #[(.tmp 34)], #[9]⟩, (some (31, false))⟩,
 ⟨(some 36), .unOp .not 4 (.tmp 35), (some (31, false))⟩,
 ⟨(some 37), .pick (.tmp 31) (.const (.bool true)) (.tmp 36), none⟩] 0)
 (.cond (.tmp 37) (.seq (.reg [2, 3, 4, 7] [⟨(some 38), .build 42 #[], none⟩,
 ⟨(some 39), .move (.tmp 7), none⟩,
 ⟨none, .store 42 (.tmp 2) (.tmp 38), none⟩,
 ⟨none, .store 3 (.tmp 3) (.tmp 39), none⟩,
 ⟨none, .store 100 (.tmp 4) (.const (.int .i64 240)), none⟩] 0)
 (.ret))
 (.skip)))
 (.seq (.reg [5, 8] [⟨(some 40), .move (.tmp 8), none⟩,
 ⟨(some 41), .indexAddr 22 (.tmp 40) (.const (.int .i64 1)), none⟩,
 ⟨(some 42), .load 9 (.tmp 41), none⟩,
 ⟨(some 43), .fieldAddr 42 (.tmp 5) 0, none⟩,
 ⟨none, .store 9 (.tmp 43) (.tmp 42), none⟩] 0)
 (.exit 1)))
 (.skip)))
 (.seq (.reg [2, 3, 4, 5, 6, 7, 8] [⟨(some 44), .load 170 (.tmp 6), none⟩,
 ⟨(some 45), .move (.tmp 8), none⟩,
 ⟨(some 46), .call ⟨.value (.func 107), #[(.tmp 5), (.tmp 44), (.tmp 45)], #[177, 170, 22]⟩, none⟩,
 ⟨(some 9), .assign (.tmp 46), none⟩] 0)
 (.seq (.reg [2, 3, 4, 7, 9] [⟨(some 47), .move (.tmp 9), none⟩,
 ⟨(some 48), .binOp .neq 100 (.tmp 47) (.const (.int .i64 0)) 100, none⟩] 0)
 (.cond (.tmp 48) (.seq (.reg [2, 3, 4, 7, 9] [⟨(some 49), .build 42 #[], none⟩,
 ⟨(some 50), .move (.tmp 7), none⟩,
 ⟨(some 51), .move (.tmp 9), none⟩,
 ⟨none, .store 42 (.tmp 2) (.tmp 49), none⟩,
 ⟨none, .store 3 (.tmp 3) (.tmp 50), none⟩,
 ⟨none, .store 100 (.tmp 4) (.tmp 51), none⟩] 0)
 (.ret))
 (.skip)))))
def m71 : M :=
 .seq (.reg [0] [⟨(some 2), .alloc 42, none⟩,
 ⟨(some 3), .alloc 3, none⟩,
 ⟨(some 4), .alloc 100, none⟩] 0)
 (.seq (.seq (.reg [0, 2, 3, 4] [⟨(some 10), .move (.tmp 0), none⟩,
 ⟨(some 11), .call ⟨.builtin .len, #[(.tmp 10)], #[9]⟩, none⟩,
 ⟨(some 12), .binOp .gtr 3 (.tmp 11) (.const (.int .i64 32768)) 3, none⟩] 0)
 (.cond (.tmp 12) (.seq (.reg [2, 3, 4] [⟨(some 13), .build 42 #[], none⟩,
 ⟨none, .store 42 (.tmp 2) (.tmp 13), none⟩,
 ⟨none, .store 3 (.tmp 3) (.const (.int .i64 0)), none⟩,
 ⟨none, .store 100 (.tmp 4) (.const (.int .i64 3)), none⟩] 0)
 (.ret))
 (.skip)))
 (.seq (.reg [0, 2, 3, 4] [⟨(some 5), .alloc 42, none⟩] 0)
 (.seq (.reg [0, 2, 3, 4, 5] [⟨(some 14), .call ⟨.value (.func 104), #[], #[]⟩, none⟩,
 ⟨(some 6), .alloc 170, none⟩,
 ⟨none, .store 170 (.tmp 6) (.tmp 14), none⟩] 0)
 (.seq (.seq (.reg [0, 2, 3, 4, 5, 6] [⟨(some 15), .move (.tmp 0), none⟩,
 ⟨(some 16), .call ⟨.value (.func 105), #[(.tmp 15)], #[9]⟩, none⟩] 0)
 (.block 0 (.rf (.tmp 16) 57 [17, 18] [2, 3, 4, 5, 6] (m71_l0) (m71_l1))))
 (.seq (.seq (.reg [2, 3, 4, 5] [⟨(some 52), .fieldAddr 42 (.tmp 5) 0, none⟩,
 ⟨(some 53), .load 9 (.tmp 52), none⟩,
 ⟨(some 54), .binOp .eql 9 (.tmp 53) (.const (.string ⟨#[]⟩)) 9, none⟩] 0)
 (.cond (.tmp 54) (.seq (.reg [2, 3, 4] [⟨(some 55), .build 42 #[], none⟩,
 ⟨none, .store 42 (.tmp 2) (.tmp 55), none⟩,
 ⟨none, .store 3 (.tmp 3) (.const (.int .i64 0)), none⟩,
 ⟨none, .store 100 (.tmp 4) (.const (.int .i64 240)), none⟩] 0)
 (.ret))
 (.skip)))
 (.seq (.reg [2, 3, 4, 5] [⟨(some 56), .load 42 (.tmp 5), none⟩,
 ⟨none, .store 42 (.tmp 2) (.tmp 56), none⟩,
 ⟨none, .store 3 (.tmp 3) (.const (.int .i64 0)), none⟩,
 ⟨none, .store 100 (.tmp 4) (.const (.int .i64 0)), none⟩] 0)
 (.ret)))))))
def fn71 : MFn := ⟨57, [.cell 2 42, .cell 3 3, .cell 4 100], m71, .shut⟩
theorem fnOk71 : FnOk Tryz.prog 71 fn71 := ⟨Tryz.f71, _, kpL passing [2, 3, 4, 5, 6] [[0], [0, 2, 3, 4], [2, 3, 4], [0, 2, 3, 4], [0, 2, 3, 4, 5], [0, 2, 3, 4, 5, 6], [2, 3, 4, 5, 6, 17, 18], [2, 3, 4, 5, 6, 7, 18], [2, 3, 4, 5, 6, 7, 8], [2, 3, 4, 5, 7, 8], [2, 3, 4, 7], [5, 8], [2, 3, 4, 5, 6, 7, 8], [2, 3, 4, 7, 9], [2, 3, 4, 7, 9], [2, 3, 4, 5], [2, 3, 4], [2, 3, 4, 5]], Tryz.func71, rfl, by kernel_rfl, by kernel_rfl, by kernel_rfl, by kernel_rfl⟩
/- (seisin/book.number).text -/
def m72 : M :=
 .seq (.reg [0] [⟨(some 2), .assign (.const (.string ⟨#[]⟩)), none⟩] 0)
 (.seq (.reg [0] [⟨(some 3), .move (.tmp 0), none⟩,
 ⟨(some 4), .call ⟨.value (.func 70), #[(.tmp 3)], #[140]⟩, none⟩,
 ⟨(some 5), .binOp .add 9 (.const (.string ⟨#[116, 97, 98, 108, 101, 32]⟩)) (.tmp 4) 9, none⟩,
 ⟨(some 6), .binOp .add 9 (.tmp 5) (.const (.string ⟨#[10]⟩)) 9, none⟩,
 ⟨(some 7), .binOp .add 9 (.tmp 6) (.const (.string ⟨#[10, 99, 97, 99, 104, 101, 32, 73, 32, 108, 111, 97, 100, 32, 45, 62, 32, 73, 83, 32, 58, 32, 97, 115, 107, 10, 99, 97, 99, 104, 101, 32, 73, 32, 115, 116, 111, 114, 101, 32, 45, 62, 32, 73, 77, 32, 58, 32, 97, 115, 107, 109, 10, 99, 97, 99, 104, 101, 32, 73, 32, 105, 110, 118, 32, 45, 62, 32, 73, 32, 58, 32, 105, 110, 118, 10, 99, 97, 99, 104, 101, 32, 83, 32, 108, 111, 97, 100, 32, 45, 62, 32, 83, 32, 58, 32, 100, 111, 10, 99, 97, 99, 104, 101, 32, 83, 32, 115, 116, 111, 114, 101, 32, 45, 62, 32, 83, 77, 32, 58, 32, 97, 115, 107, 109, 10, 99, 97, 99, 104, 101, 32, 83, 32, 101, 118, 105, 99, 116, 32, 45, 62, 32, 73, 32, 58, 32, 100, 114, 111, 112, 10, 99, 97, 99, 104, 101, 32, 83, 32, 105, 110, 118, 32, 45, 62, 32, 73, 32, 58, 32, 105, 110, 118, 32, 100, 114, 111, 112, 10, 99, 97, 99, 104, 101, 32, 77, 32, 108, 111, 97, 100, 32, 45, 62, 32, 77, 32, 58, 32, 100, 111, 10, 99, 97, 99, 104, 101, 32, 77, 32, 115, 116, 111, 114, 101, 32, 45, 62, 32, 77, 32, 58, 32, 100, 111, 10, 99, 97, 99, 104, 101, 32, 77, 32, 101, 118, 105, 99, 116, 32, 45, 62, 32, 77, 73, 32, 58, 32, 112, 117, 116, 10, 99, 97, 99, 104, 101, 32, 77, 32, 102, 119, 100, 109, 32, 45, 62, 32, 73, 32, 58, 32, 103, 105, 118, 101, 32, 100, 114, 111, 112, 10, 99, 97, 99, 104, 101, 32, 73, 83, 32, 105, 110, 118, 32, 45, 62, 32, 73, 83, 32, 58, 32, 105, 110, 118, 10, 99, 97, 99, 104, 101, 32, 73, 83, 32, 118, 97, 108, 117, 101, 32, 45, 62, 32, 83, 32, 58, 32, 116, 97, 107, 101, 32, 100, 111, 110, 101, 32, 100, 111, 10, 99, 97, 99, 104, 101, 32, 73, 77, 32, 105, 110, 118, 32, 45, 62, 32, 73, 77, 32, 58, 32, 105, 110, 118, 10, 99, 97, 99, 104, 101, 32, 73, 77, 32, 118, 97, 108, 117, 101, 32, 45, 62, 32, 77, 32, 58, 32, 116, 97, 107, 101, 32, 100, 111, 110, 101, 32, 100, 111, 10, 99, 97, 99, 104, 101, 32, 73, 77, 32, 109, 111, 114, 101, 32, 45, 62, 32, 73, 65, 32, 58, 32, 116, 97, 107, 101, 10, 99, 97, 99, 104, 101, 32, 73, 77, 32, 97, 99, 107, 32, 45, 62, 32, 73, 77, 10, 99, 97, 99, 104, 101, 32, 83, 77, 32, 105, 110, 118, 32, 45, 62, 32, 73, 77, 32, 58, 32, 105, 110, 118, 10, 99, 97, 99, 104, 101, 32, 83, 77, 32, 118, 97, 108, 117, 101, 32, 45, 62, 32, 77, 32, 58, 32, 116, 97, 107, 101, 32, 100, 111, 110, 101, 32, 100, 111, 10, 99, 97, 99, 104, 101, 32, 83, 77, 32, 109, 111, 114, 101, 32, 45, 62, 32, 73, 65, 32, 58, 32, 116, 97, 107, 101, 10, 99, 97, 99, 104, 101, 32, 83, 77, 32, 97, 99, 107, 32, 45, 62, 32, 83, 77, 10, 99, 97, 99, 104, 101, 32, 73, 65, 32, 97, 99, 107, 32, 45, 62, 32, 73, 65, 10, 99, 97, 99, 104, 101, 32, 73, 65, 32, 108, 97, 115, 116, 32, 45, 62, 32, 77, 32, 58, 32, 100, 111, 110, 101, 32, 100, 111, 10, 99, 97, 99, 104, 101, 32, 77, 73, 32, 102, 119, 100, 109, 32, 45, 62, 32, 73, 73, 32, 58, 32, 103, 105, 118, 101, 10, 99, 97, 99, 104, 101, 32, 77, 73, 32, 105, 110, 118, 32, 45, 62, 32, 73, 73, 32, 58, 32, 105, 110, 118, 10, 99, 97, 99, 104, 101, 32, 77, 73, 32, 112, 117, 116, 32, 45, 62, 32, 73, 32, 58, 32, 100, 114, 111, 112, 10, 99, 97, 99, 104, 101, 32, 73, 73, 32, 105, 110, 118, 32, 45, 62, 32, 73, 73, 32, 58, 32, 105, 110, 118, 10, 99, 97, 99, 104, 101, 32, 73, 73, 32, 112, 117, 116, 32, 45, 62, 32, 73, 32, 58, 32, 100, 114, 111, 112, 10, 104, 111, 109, 101, 32, 85, 110, 32, 103, 101, 116, 109, 32, 45, 62, 32, 69, 120, 32, 58, 32, 109, 101, 109, 32, 111, 119, 110, 32, 98, 117, 115, 121, 10, 104, 111, 109, 101, 32, 85, 110, 32, 115, 116, 97, 108, 101, 32, 45, 62, 32, 85, 110, 32, 58, 32, 98, 97, 99, 107, 10, 104, 111, 109, 101, 32, 83, 104, 32, 103, 101, 116, 115, 32, 45, 62, 32, 83, 104, 32, 58, 32, 109, 101, 109, 32, 110, 111, 116, 101, 32, 98, 117, 115, 121, 10, 104, 111, 109, 101, 32, 83, 104, 32, 103, 101, 116, 109, 32, 45, 62, 32, 69, 120, 32, 58, 32, 105, 110, 118, 115, 32, 109, 101, 109, 32, 99, 108, 101, 97, 114, 32, 111, 119, 110, 32, 98, 117, 115, 121, 10, 104, 111, 109, 101, 32, 83, 104, 32, 115, 116, 97, 108, 101, 32, 45, 62, 32, 83, 104, 32, 58, 32, 98, 97, 99, 107, 10, 104, 111, 109, 101, 32, 69, 120, 32, 103, 101, 116, 109, 32, 45, 62, 32, 69, 120, 32, 58, 32, 102, 119, 100, 109, 32, 111, 119, 110, 32, 98, 117, 115, 121, 10, 104, 111, 109, 101, 32, 69, 120, 32, 98, 97, 99, 107, 32, 45, 62, 32, 85, 110, 32, 58, 32, 119, 114, 105, 116, 101, 32, 98, 97, 99, 107, 32, 102, 114, 101, 101, 10, 104, 111, 109, 101, 32, 69, 120, 32, 115, 116, 97, 108, 101, 32, 45, 62, 32, 69, 120, 32, 58, 32, 98, 97, 99, 107, 10]⟩)) 9, none⟩,
 ⟨(some 8), .call ⟨.value (.func 108), #[], #[]⟩, none⟩,
 ⟨(some 9), .move (.tmp 0), none⟩,
 ⟨(some 10), .lookup 178 (.tmp 8) (.tmp 9) false, none⟩,
 ⟨(some 11), .binOp .add 9 (.tmp 7) (.tmp 10) 9, none⟩,
 ⟨(some 2), .assign (.tmp 11), none⟩] 0)
 (.ret))
def fn72 : MFn := ⟨12, [.tmp 2], m72, .shut⟩
theorem fnOk72 : FnOk Tryz.prog 72 fn72 := ⟨Tryz.f72, _, kpL passing [] [[0], [0]], Tryz.func72, rfl, by kernel_rfl, by kernel_rfl, by kernel_rfl, by kernel_rfl⟩
/- (*seisin/book.draft).fill -/
def m73_l0 : M :=
 .seq (.reg [0, 1, 13, 14, 15] [⟨(some 16), .binOp .lss 3 (.tmp 15) (.tmp 14) 3, none⟩] 0)
 (.seq (.cond (.tmp 16) (.skip)
 (.exit 0))
 (.seq (.block 1 (.seq (.reg [0, 1, 13, 14, 15] [⟨(some 17), .indexAddr 181 (.tmp 13) (.tmp 15), none⟩,
 ⟨(some 18), .load 148 (.tmp 17), none⟩,
 ⟨(some 6), .alloc 148, none⟩,
 ⟨none, .store 148 (.tmp 6) (.tmp 18), none⟩] 0)
 (.seq (.reg [0, 1, 6, 13, 14, 15] [⟨(some 20), .move (.tmp 0), none⟩,
 ⟨(some 21), .nilCheck (.tmp 20), none⟩,
 ⟨(some 22), .fieldAddr 142 (.tmp 21) 1, none⟩,
 ⟨(some 23), .load 42 (.tmp 22), none⟩,
 ⟨(some 24), .load 148 (.tmp 6), none⟩,
 ⟨(some 25), .move (.tmp 1), none⟩,
 ⟨(some 26), .load 148 (.tmp 6), none⟩,
 ⟨(some 27), .call ⟨.value (.tmp 25), #[(.tmp 26)], #[148]⟩, none⟩,
 ⟨(some 28), .build 36 #[(0, (.tmp 27))], none⟩,
 ⟨(some 29), .call ⟨.value (.func 110), #[(.tmp 23), (.tmp 24), (.tmp 28)], #[42, 148, 36]⟩, none⟩,
 ⟨(some 19), .move (.tmp 29), none⟩,
 ⟨(some 30), .extract (.tmp 19) 0, none⟩,
 ⟨(some 31), .extract (.tmp 19) 1, none⟩,
 ⟨(some 7), .alloc 42, none⟩,
 ⟨none, .store 42 (.tmp 7) (.tmp 30), none⟩,
 ⟨(some 8), .assign (.tmp 31), none⟩] 9)
 (.seq (.seq (.reg [0, 1, 7, 8, 13, 14, 15] [⟨(some 32), .move (.tmp 8), none⟩,
 ⟨(some 33), .binOp .neq 100 (.tmp 32) (.const (.int .i64 0)) 100, none⟩] 0)
 (.cond (.tmp 33) (.seq (.reg [8] [⟨(some 34), .move (.tmp 8), none⟩,
 ⟨(some 4), .assign (.tmp 34), none⟩] 0)
 (.ret))
 (.skip)))
 (.reg [0, 1, 7, 13, 14, 15] [⟨(some 35), .move (.tmp 0), none⟩,
 ⟨(some 36), .load 42 (.tmp 7), none⟩,
 ⟨(some 37), .nilCheck (.tmp 35), none⟩,
 ⟨(some 38), .fieldAddr 142 (.tmp 37) 1, none⟩,
 ⟨none, .store 42 (.tmp 38) (.tmp 36), none⟩] 0)))))
 (.reg [0, 1, 13, 14, 15] [⟨(some 39), .binOp .add 3 (.tmp 15) (.const (.int .i64 1)) 3, none⟩,
 ⟨(some 15), .move (.tmp 39), none⟩] 0)))
theorem u73_l0 {C : Ctx} {k : List It} {st : St} {Q : Ex → St → Prop} : RunK C (.code m73_l0 :: k) st Q ↔ RunK C (.code (.seq (.reg [0, 1, 13, 14, 15] [⟨(some 16), .binOp .lss 3 (.tmp 15) (.tmp 14) 3, none⟩] 0)
 (.seq (.cond (.tmp 16) (.skip)
 (.exit 0))
 (.seq (.block 1 (.seq (.reg [0, 1, 13, 14, 15] [⟨(some 17), .indexAddr 181 (.tmp 13) (.tmp 15), none⟩,
 ⟨(some 18), .load 148 (.tmp 17), none⟩,
 ⟨(some 6), .alloc 148, none⟩,
 ⟨none, .store 148 (.tmp 6) (.tmp 18), none⟩] 0)
 (.seq (.reg [0, 1, 6, 13, 14, 15] [⟨(some 20), .move (.tmp 0), none⟩,
 ⟨(some 21), .nilCheck (.tmp 20), none⟩,
 ⟨(some 22), .fieldAddr 142 (.tmp 21) 1, none⟩,
 ⟨(some 23), .load 42 (.tmp 22), none⟩,
 ⟨(some 24), .load 148 (.tmp 6), none⟩,
 ⟨(some 25), .move (.tmp 1), none⟩,
 ⟨(some 26), .load 148 (.tmp 6), none⟩,
 ⟨(some 27), .call ⟨.value (.tmp 25), #[(.tmp 26)], #[148]⟩, none⟩,
 ⟨(some 28), .build 36 #[(0, (.tmp 27))], none⟩,
 ⟨(some 29), .call ⟨.value (.func 110), #[(.tmp 23), (.tmp 24), (.tmp 28)], #[42, 148, 36]⟩, none⟩,
 ⟨(some 19), .move (.tmp 29), none⟩,
 ⟨(some 30), .extract (.tmp 19) 0, none⟩,
 ⟨(some 31), .extract (.tmp 19) 1, none⟩,
 ⟨(some 7), .alloc 42, none⟩,
 ⟨none, .store 42 (.tmp 7) (.tmp 30), none⟩,
 ⟨(some 8), .assign (.tmp 31), none⟩] 9)
 (.seq (.seq (.reg [0, 1, 7, 8, 13, 14, 15] [⟨(some 32), .move (.tmp 8), none⟩,
 ⟨(some 33), .binOp .neq 100 (.tmp 32) (.const (.int .i64 0)) 100, none⟩] 0)
 (.cond (.tmp 33) (.seq (.reg [8] [⟨(some 34), .move (.tmp 8), none⟩,
 ⟨(some 4), .assign (.tmp 34), none⟩] 0)
 (.ret))
 (.skip)))
 (.reg [0, 1, 7, 13, 14, 15] [⟨(some 35), .move (.tmp 0), none⟩,
 ⟨(some 36), .load 42 (.tmp 7), none⟩,
 ⟨(some 37), .nilCheck (.tmp 35), none⟩,
 ⟨(some 38), .fieldAddr 142 (.tmp 37) 1, none⟩,
 ⟨none, .store 42 (.tmp 38) (.tmp 36), none⟩] 0)))))
 (.reg [0, 1, 13, 14, 15] [⟨(some 39), .binOp .add 3 (.tmp 15) (.const (.int .i64 1)) 3, none⟩,
 ⟨(some 15), .move (.tmp 39), none⟩] 0)))) :: k) st Q := Iff.rfl
def m73 : M :=
 .seq (.reg [0, 1] [⟨(some 4), .assign (.const (.int .i64 0)), none⟩] 0)
 (.seq (.seq (.reg [0, 1] [⟨(some 9), .move (.tmp 0), none⟩,
 ⟨(some 10), .nilCheck (.tmp 9), none⟩,
 ⟨(some 11), .fieldAddr 142 (.tmp 10) 1, none⟩,
 ⟨(some 12), .load 42 (.tmp 11), none⟩,
 ⟨(some 13), .call ⟨.value (.func 109), #[(.tmp 12)], #[42]⟩, none⟩,
 ⟨(some 14), .call ⟨.builtin .len, #[(.tmp 13)], #[181]⟩, none⟩,
 ⟨(some 15), .move (.const (.int .i64 0)), none⟩] 0)
 (.block 0 (.loop (m73_l0))))
 (.seq (.reg [] [⟨(some 4), .assign (.const (.int .i64 0)), none⟩] 0)
 (.ret)))
def fn73 : MFn := ⟨40, [.tmp 4], m73, .pass⟩
theorem fnOk73 : FnOk Tryz.prog 73 fn73 := ⟨Tryz.f73, _, kpL passing [] [[0, 1], [0, 1], [0, 1, 13, 14, 15], [0, 1, 13, 14, 15], [0, 1, 6, 13, 14, 15], [0, 1, 7, 8, 13, 14, 15], [8], [0, 1, 7, 13, 14, 15], [0, 1, 13, 14, 15], []], Tryz.func73, rfl, by kernel_rfl, by kernel_rfl, by kernel_rfl, by kernel_rfl⟩
/- seisin/book.Make$1 -/
def m74 : M :=
 .seq (.reg [0, 1] [⟨(some 2), .box 148 (.tmp 0), none⟩,
 ⟨(some 3), .assign (.const (.int .u8 0)), none⟩] 0)
 (.seq (.seq (.reg [1, 2] [⟨(some 4), .fieldAddr 142 (.tmp 1) 0, none⟩,
 ⟨(some 5), .load 140 (.tmp 4), none⟩,
 ⟨(some 6), .load 148 (.tmp 2), none⟩,
 ⟨(some 7), .call ⟨.value (.func 75), #[(.tmp 5), (.tmp 6)], #[140, 148]⟩, none⟩] 0)
 (.cond (.tmp 7) (.seq (.reg [] [⟨(some 3), .assign (.const (.int .u8 2)), none⟩] 0)
 (.ret))
 (.skip)))
 (.seq (.reg [] [⟨(some 3), .assign (.const (.int .u8 3)), none⟩] 0)
 (.ret)))
def fn74 : MFn := ⟨8, [.tmp 3], m74, .pass⟩
theorem fnOk74 : FnOk Tryz.prog 74 fn74 := ⟨Tryz.f74, _, kpL passing [] [[0, 1], [1, 2], [], []], Tryz.func74, rfl, by kernel_rfl, by kernel_rfl, by kernel_rfl, by kernel_rfl⟩
/- (seisin/book.number).waits -/
def m75 : M :=
 .seq (.reg [0, 1] [⟨(some 3), .box 148 (.tmp 1), none⟩,
 ⟨(some 4), .assign (.const (.bool false)), none⟩] 0)
 (.seq (.seq (.reg [0, 3] [⟨(some 5), .fieldAddr 148 (.tmp 3) 0, none⟩,
 ⟨(some 6), .load 4 (.tmp 5), none⟩,
 ⟨(some 7), .move (.tmp 6), none⟩,
 ⟨(some 8), .fieldAddr 148 (.tmp 3) 2, (some (7, false))⟩,
 ⟨(some 9), .load 5 (.tmp 8), (some (7, false))⟩,
 ⟨(some 10), .binOp .neq 5 (.tmp 9) (.const (.int .u8 0)) 5, (some (7, false))⟩,
 ⟨(some 11), .move (.tmp 10), (some (7, false))⟩,
 ⟨(some 12), .fieldAddr 148 (.tmp 3) 2, (some (11, true))⟩,
 ⟨(some 13), .load 5 (.tmp 12), (some (11, true))⟩,
 ⟨(some 14), .binOp .neq 5 (.tmp 13) (.const (.int .u8 1)) 5, (some (11, true))⟩,
 ⟨(some 15), .pick (.tmp 11) (.tmp 14) (.const (.bool false)), (some (7, false))⟩,
 ⟨(some 16), .move (.tmp 15), (some (7, false))⟩,
 ⟨(some 17), .fieldAddr 148 (.tmp 3) 2, (some (16, true))⟩,
 ⟨(some 18), .load 5 (.tmp 17), (some (16, true))⟩,
 ⟨(some 19), .binOp .neq 5 (.tmp 18) (.const (.int .u8 2)) 5, (some (16, true))⟩,
 ⟨(some 20), .pick (.tmp 16) (.tmp 19) (.const (.bool false)), (some (7, false))⟩,
 ⟨(some 21), .pick (.tmp 7) (.const (.bool true)) (.tmp 20), none⟩] 0)
 (.cond (.tmp 21) (.seq (.reg [] [⟨(some 4), .assign (.const (.bool false)), none⟩] 0)
 (.ret))
 (.skip)))
 (.seq (.seq (.reg [0, 3] [⟨(some 22), .fieldAddr 148 (.tmp 3) 1, none⟩,
 ⟨(some 23), .load 5 (.tmp 22), none⟩] 0)
 (.block 0 (.seq (.seq (.reg [0, 23] [⟨(some 25), .binOp .eql 5 (.tmp 23) (.const (.int .u8 5)) 5, none⟩,
 ⟨(some 24), .assign (.tmp 25), none⟩] 0)
 (.cond (.tmp 24) (.skip)
 (.seq (.reg [0, 23] [⟨(some 26), .binOp .eql 5 (.tmp 23) (.const (.int .u8 6)) 5, none⟩,
 ⟨(some 24), .assign (.tmp 26), none⟩] 0)
 (.cond (.tmp 24) (.skip)
 (.seq (.reg [0, 23] [⟨(some 27), .binOp .eql 5 (.tmp 23) (.const (.int .u8 7)) 5, none⟩,
 ⟨(some 24), .assign (.tmp 27), none⟩] 0)
 (.cond (.tmp 24) (.skip)
 (.seq (.reg [0, 23] [⟨(some 28), .binOp .eql 5 (.tmp 23) (.const (.int .u8 9)) 5, none⟩,
 ⟨(some 24), .assign (.tmp 28), none⟩] 0)
 (.cond (.tmp 24) (.skip)
 (.seq (.reg [0, 23] [⟨(some 29), .binOp .eql 5 (.tmp 23) (.const (.int .u8 10)) 5, none⟩,
 ⟨(some 24), .assign (.tmp 29), none⟩] 0)
 (.cond (.tmp 24) (.skip)
 (.reg [0, 23] [⟨(some 30), .binOp .eql 5 (.tmp 23) (.const (.int .u8 11)) 5, none⟩,
 ⟨(some 24), .assign (.tmp 30), none⟩] 0)))))))))))
 (.cond (.tmp 24) (.seq (.reg [] [⟨(some 4), .assign (.const (.bool true)), none⟩] 0)
 (.ret))
 (.seq (.reg [0, 23] [⟨(some 32), .binOp .eql 5 (.tmp 23) (.const (.int .u8 8)) 5, none⟩,
 ⟨(some 31), .assign (.tmp 32), none⟩] 0)
 (.cond (.tmp 31) (.seq (.reg [0] [⟨(some 33), .move (.tmp 0), none⟩,
 ⟨(some 34), .binOp .eql 5 (.tmp 33) (.const (.int .u8 3)) 5, none⟩,
 ⟨(some 4), .assign (.tmp 34), none⟩] 0)
 (.ret))
 (.skip)))))))
 (.seq (.reg [] [⟨(some 4), .assign (.const (.bool false)), none⟩] 0)
 (.ret))))
def fn75 : MFn := ⟨35, [.tmp 4], m75, .shut⟩
theorem fnOk75 : FnOk Tryz.prog 75 fn75 := ⟨Tryz.f75, _, kpL passing [] [[0, 1], [0, 3], [], [0, 3], [0, 23], [0, 23], [0, 23], [0, 23], [0, 23], [0, 23], [], [0, 23], [0], []], Tryz.func75, rfl, by kernel_rfl, by kernel_rfl, by kernel_rfl, by kernel_rfl⟩
/- seisin/sys.Right -/
def m76 : M :=
 .seq (.reg [0] [⟨(some 1), .box 44 (.tmp 0), none⟩,
 ⟨(some 2), .assign (.const (.bool false)), none⟩] 0)
 (.seq (.reg [1] [⟨(some 3), .assign (.func 111), none⟩] 0)
 (.seq (.reg [1, 3] [⟨(some 4), .fieldAddr 44 (.tmp 1) 0, none⟩,
 ⟨(some 5), .load 29 (.tmp 4), none⟩,
 ⟨(some 6), .call ⟨.value (.func 112), #[(.tmp 5)], #[29]⟩, none⟩,
 ⟨(some 7), .binOp .eql 100 (.tmp 6) (.const (.int .i64 0)) 100, none⟩,
 ⟨(some 8), .move (.tmp 7), none⟩,
 ⟨(some 9), .fieldAddr 44 (.tmp 1) 1, (some (8, true))⟩,
 ⟨(some 10), .load 31 (.tmp 9), (some (8, true))⟩,
 ⟨(some 11), .call ⟨.value (.func 28), #[(.tmp 10)], #[31]⟩, (some (8, true))⟩,
 ⟨(some 12), .pick (.tmp 8) (.tmp 11) (.const (.bool false)), none⟩,
 ⟨(some 13), .move (.tmp 12), none⟩,
 ⟨(some 14), .fieldAddr 44 (.tmp 1) 0, (some (13, true))⟩,
 ⟨(some 15), .fieldAddr 29 (.tmp 14) 3, (some (13, true))⟩,
 ⟨(some 16), .load 24 (.tmp 15), (some (13, true))⟩,
 ⟨(some 17), .call ⟨.builtin .len, #[(.tmp 16)], #[24]⟩, (some (13, true))⟩,
 ⟨(some 18), .fieldAddr 44 (.tmp 1) 1, (some (13, true))⟩,
 ⟨(some 19), .fieldAddr 31 (.tmp 18) 0, (some (13, true))⟩,
 ⟨(some 20), .load 3 (.tmp 19), (some (13, true))⟩,
 ⟨(some 21), .binOp .leq 3 (.tmp 17) (.tmp 20) 3, (some (13, true))⟩,
 ⟨(some 22), .pick (.tmp 13) (.tmp 21) (.const (.bool false)), none⟩,
 ⟨(some 23), .move (.tmp 22), none⟩,
 ⟨(some 24), .move (.tmp 3), (some (23, true))⟩,
 ⟨(some 25), .fieldAddr 44 (.tmp 1) 2, (some (23, true))⟩,
 ⟨(some 26), .fieldAddr 33 (.tmp 25) 0, (some (23, true))⟩,
 ⟨(some 27), .load 5 (.tmp 26), (some (23, true))⟩,
 ⟨(some 28), .call ⟨.value (.tmp 24), #[(.tmp 27), (.const (.int .u8 1)), (.const (.int .u8 3))], #[5, 5, 5]⟩, (some (23, true))⟩,
 ⟨(some 29), .pick (.tmp 23) (.tmp 28) (.const (.bool false)), none⟩,
 ⟨(some 30), .move (.tmp 29), none⟩,
 ⟨(some 31), .move (.tmp 3), (some (30, true))⟩,
 ⟨(some 32), .fieldAddr 44 (.tmp 1) 2, (some (30, true))⟩,
 ⟨(some 33), .fieldAddr 33 (.tmp 32) 1, (some (30, true))⟩,
 ⟨(some 34), .load 5 (.tmp 33), (some (30, true))⟩,
 ⟨(some 35), .call ⟨.value (.tmp 31), #[(.tmp 34), (.const (.int .u8 1)), (.const (.int .u8 3))], #[5, 5, 5]⟩, (some (30, true))⟩,
 ⟨(some 36), .pick (.tmp 30) (.tmp 35) (.const (.bool false)), none⟩,
 ⟨(some 37), .move (.tmp 36), none⟩,
 ⟨(some 38), .move (.tmp 3), (some (37, true))⟩,
 ⟨(some 39), .fieldAddr 44 (.tmp 1) 2, (some (37, true))⟩,
 ⟨(some 40), .fieldAddr 33 (.tmp 39) 2, (some (37, true))⟩,
 ⟨(some 41), .load 5 (.tmp 40), (some (37, true))⟩,
 ⟨(some 42), .call ⟨.value (.tmp 38), #[(.tmp 41), (.const (.int .u8 1)), (.const (.int .u8 4))], #[5, 5, 5]⟩, (some (37, true))⟩,
 ⟨(some 43), .pick (.tmp 37) (.tmp 42) (.const (.bool false)), none⟩,
 ⟨(some 44), .move (.tmp 43), none⟩,
 ⟨(some 45), .fieldAddr 44 (.tmp 1) 2, (some (44, true))⟩,
 ⟨(some 46), .fieldAddr 33 (.tmp 45) 3, (some (44, true))⟩,
 ⟨(some 47), .load 3 (.tmp 46), (some (44, true))⟩,
 ⟨(some 48), .binOp .geq 3 (.tmp 47) (.const (.int .i64 0)) 3, (some (44, true))⟩,
 ⟨(some 49), .pick (.tmp 44) (.tmp 48) (.const (.bool false)), none⟩,
 ⟨(some 50), .move (.tmp 49), none⟩,
 ⟨(some 51), .fieldAddr 44 (.tmp 1) 2, (some (50, true))⟩,
 ⟨(some 52), .fieldAddr 33 (.tmp 51) 3, (some (50, true))⟩,
 ⟨(some 53), .load 3 (.tmp 52), (some (50, true))⟩,
 ⟨(some 54), .binOp .leq 3 (.tmp 53) (.const (.int .i64 12)) 3, (some (50, true))⟩,
 ⟨(some 55), .pick (.tmp 50) (.tmp 54) (.const (.bool false)), none⟩,
 ⟨(some 56), .move (.tmp 55), none⟩,
 ⟨(some 57), .fieldAddr 44 (.tmp 1) 3, (some (56, true))⟩,
 ⟨(some 58), .load 42 (.tmp 57), (some (56, true))⟩,
 ⟨(some 59), .call ⟨.value (.func 113), #[(.tmp 58)], #[42]⟩, (some (56, true))⟩,
 ⟨(some 60), .pick (.tmp 56) (.tmp 59) (.const (.bool false)), none⟩,
 ⟨(some 2), .assign (.tmp 60), none⟩] 0)
 (.ret)))
def fn76 : MFn := ⟨61, [.tmp 2], m76, .shut⟩
theorem fnOk76 : FnOk Tryz.prog 76 fn76 := ⟨Tryz.f76, _, kpL passing [] [[0], [1], [1, 3]], Tryz.func76, rfl, by kernel_rfl, by kernel_rfl, by kernel_rfl, by kernel_rfl⟩
/- seisin/core.New -/
def m77 : M :=
 .seq (.reg [] [⟨(some 0), .alloc 155, none⟩] 0)
 (.seq (.reg [0] [⟨(some 1), .build 155 #[], none⟩,
 ⟨none, .store 155 (.tmp 0) (.tmp 1), none⟩] 0)
 (.ret))
def fn77 : MFn := ⟨2, [.cell 0 155], m77, .pass⟩
theorem fnOk77 : FnOk Tryz.prog 77 fn77 := ⟨Tryz.f77, _, kpL passing [] [[], [0]], Tryz.func77, rfl, by kernel_rfl, by kernel_rfl, by kernel_rfl, by kernel_rfl⟩
/- seisin/cache.New -/
def m78 : M :=
 .seq (.reg [0, 1] [⟨(some 2), .box 31 (.tmp 0), none⟩,
 ⟨(some 4), .alloc 90, none⟩] 0)
 (.seq (.reg [1, 2, 4] [⟨(some 8), .load 31 (.tmp 2), none⟩,
 ⟨(some 9), .move (.tmp 1), none⟩,
 ⟨(some 10), .call ⟨.value (.func 114), #[(.tmp 8), (.tmp 9)], #[31, 5]⟩, none⟩,
 ⟨(some 7), .move (.tmp 10), none⟩,
 ⟨(some 11), .extract (.tmp 7) 0, none⟩,
 ⟨(some 12), .extract (.tmp 7) 1, none⟩,
 ⟨(some 5), .alloc 90, none⟩,
 ⟨none, .store 90 (.tmp 5) (.tmp 11), none⟩,
 ⟨(some 6), .assign (.tmp 12), none⟩] 0)
 (.seq (.seq (.reg [4, 5, 6] [⟨(some 13), .move (.tmp 6), none⟩,
 ⟨(some 14), .binOp .neq 100 (.tmp 13) (.const (.int .i64 0)) 100, none⟩] 0)
 (.cond (.tmp 14) (.seq (.reg [4] [⟨(some 15), .build 90 #[], none⟩,
 ⟨none, .store 90 (.tmp 4) (.tmp 15), none⟩] 0)
 (.ret))
 (.skip)))
 (.seq (.reg [4, 5] [⟨(some 16), .load 90 (.tmp 5), none⟩,
 ⟨none, .store 90 (.tmp 4) (.tmp 16), none⟩] 0)
 (.ret))))
def fn78 : MFn := ⟨17, [.cell 4 90], m78, .pass⟩
theorem fnOk78 : FnOk Tryz.prog 78 fn78 := ⟨Tryz.f78, _, kpL passing [] [[0, 1], [1, 2, 4], [4, 5, 6], [4], [4, 5]], Tryz.func78, rfl, by kernel_rfl, by kernel_rfl, by kernel_rfl, by kernel_rfl⟩
/- seisin/geo.Locs -/
def m79_l0 : M :=
 .reg [7, 19] [⟨(some 8), .assign (.tmp 19), none⟩] 0
def m79_l1 : M :=
 .block 1 (.reg [7, 8] [⟨(some 20), .load 23 (.tmp 7), none⟩,
 ⟨(some 21), .move (.tmp 8), none⟩,
 ⟨(some 22), .buildSlice 23 1 #[(0, (.tmp 21))], none⟩,
 ⟨(some 23), .call ⟨.builtin .append, #[(.tmp 20), (.tmp 22)], #[23, 23]⟩, none⟩,
 ⟨none, .store 23 (.tmp 7) (.tmp 23), none⟩] 0)
def m79 : M :=
 .seq (.reg [0, 1] [⟨(some 2), .box 31 (.tmp 0), none⟩,
 ⟨(some 4), .assign (.const (.slice none 0 0)), none⟩] 0)
 (.seq (.reg [1, 2, 4] [⟨(some 10), .load 31 (.tmp 2), none⟩,
 ⟨(some 11), .call ⟨.value (.func 55), #[(.tmp 10)], #[31]⟩, none⟩,
 ⟨(some 9), .move (.tmp 11), none⟩,
 ⟨(some 12), .extract (.tmp 9) 0, none⟩,
 ⟨(some 13), .extract (.tmp 9) 1, none⟩,
 ⟨(some 5), .alloc 127, none⟩,
 ⟨none, .store 127 (.tmp 5) (.tmp 12), none⟩,
 ⟨(some 6), .assign (.tmp 13), none⟩] 0)
 (.seq (.seq (.reg [1, 4, 5, 6] [⟨(some 14), .move (.tmp 6), none⟩,
 ⟨(some 15), .unOp .not 4 (.tmp 14), none⟩] 0)
 (.cond (.tmp 15) (.seq (.reg [] [⟨(some 4), .assign (.const (.slice none 0 0)), none⟩] 0)
 (.ret))
 (.skip)))
 (.seq (.reg [1, 4, 5] [⟨(some 7), .alloc 23, none⟩] 0)
 (.seq (.seq (.reg [1, 4, 5, 7] [⟨(some 16), .load 127 (.tmp 5), none⟩,
 ⟨(some 17), .move (.tmp 1), none⟩,
 ⟨(some 18), .call ⟨.value (.func 115), #[(.tmp 16), (.tmp 17)], #[127, 5]⟩, none⟩] 0)
 (.block 0 (.rf (.tmp 18) 25 [19] [7] (m79_l0) (m79_l1))))
 (.seq (.reg [7] [⟨(some 24), .load 23 (.tmp 7), none⟩,
 ⟨(some 4), .assign (.tmp 24), none⟩] 0)
 (.ret))))))
def fn79 : MFn := ⟨25, [.tmp 4], m79, .shut⟩
theorem fnOk79 : FnOk Tryz.prog 79 fn79 := ⟨Tryz.f79, _, kpL passing [7] [[0, 1], [1, 2, 4], [1, 4, 5, 6], [], [1, 4, 5], [1, 4, 5, 7], [7, 19], [7, 8], [7]], Tryz.func79, rfl, by kernel_rfl, by kernel_rfl, by kernel_rfl, by kernel_rfl⟩
/- seisin/geo.Put -/
def m80 : M :=
 .seq (.reg [0, 1, 2, 3] [⟨(some 4), .box 31 (.tmp 0), none⟩,
 ⟨(some 5), .box 63 (.tmp 1), none⟩,
 ⟨(some 8), .alloc 63, none⟩] 0)
 (.seq (.seq (.reg [2, 3, 4, 5, 8] [⟨(some 12), .load 31 (.tmp 4), none⟩,
 ⟨(some 13), .call ⟨.value (.func 55), #[(.tmp 12)], #[31]⟩, none⟩,
 ⟨(some 11), .move (.tmp 13), none⟩,
 ⟨(some 14), .extract (.tmp 11) 0, none⟩,
 ⟨(some 15), .extract (.tmp 11) 1, none⟩,
 ⟨(some 9), .alloc 127, none⟩,
 ⟨none, .store 127 (.tmp 9) (.tmp 14), none⟩,
 ⟨(some 10), .assign (.tmp 15), none⟩] 0)
 (.seq (.reg [2, 3, 5, 8, 9, 10] [⟨(some 16), .move (.tmp 10), none⟩] 0)
 (.cond (.tmp 16) (.reg [2, 3, 5, 8, 9] [⟨(some 17), .load 127 (.tmp 9), none⟩,
 ⟨(some 18), .move (.tmp 2), none⟩,
 ⟨(some 19), .call ⟨.value (.func 116), #[(.tmp 17), (.tmp 18)], #[127, 5]⟩, none⟩,
 ⟨(some 20), .move (.tmp 3), none⟩,
 ⟨(some 21), .indexAddr 63 (.tmp 5) (.tmp 19), none⟩,
 ⟨none, .store 5 (.tmp 21) (.tmp 20), none⟩] 0)
 (.skip))))
 (.seq (.reg [5, 8] [⟨(some 22), .load 63 (.tmp 5), none⟩,
 ⟨none, .store 63 (.tmp 8) (.tmp 22), none⟩] 0)
 (.ret)))
def fn80 : MFn := ⟨23, [.cell 8 63], m80, .shut⟩
theorem fnOk80 : FnOk Tryz.prog 80 fn80 := ⟨Tryz.f80, _, kpL passing [] [[0, 1, 2, 3], [2, 3, 4, 5, 8], [2, 3, 5, 8, 9, 10], [2, 3, 5, 8, 9], [5, 8]], Tryz.func80, rfl, by kernel_rfl, by kernel_rfl, by kernel_rfl, by kernel_rfl⟩
/- seisin/home.New -/
def m81 : M :=
 .seq (.reg [0, 1, 2] [⟨(some 5), .box 63 (.tmp 2), none⟩,
 ⟨(some 6), .alloc 65, none⟩] 0)
 (.seq (.seq (.reg [0, 1, 5, 6] [⟨(some 7), .move (.tmp 0), none⟩,
 ⟨(some 8), .move (.tmp 1), none⟩,
 ⟨(some 10), .load 63 (.tmp 5), none⟩] 3)
 (.seq (.ops [⟨(some 9), .call ⟨.value (.func 117), #[(.tmp 7), (.tmp 8)], #[5, 3]⟩, none⟩])
 (.seq (.again [⟨(some 10), .load 63 (.tmp 5), none⟩])
 (.seq (.ops [⟨(some 11), .build 65 #[(0, (.const (.int .u8 0))), (1, (.const (.int .u8 255))), (2, (.tmp 9)), (5, (.tmp 10))], none⟩])
 (.seq (.again [])
 (.seq (.ops [⟨none, .store 65 (.tmp 6) (.tmp 11), none⟩])
 (.seq (.again [])
 (.skip))))))))
 (.ret))
def fn81 : MFn := ⟨12, [.cell 6 65], m81, .pass⟩
theorem fnOk81 : FnOk Tryz.prog 81 fn81 := ⟨Tryz.f81, _, kpL passing [] [[0, 1, 2], [0, 1, 5, 6]], Tryz.func81, rfl, by kernel_rfl, by kernel_rfl, by kernel_rfl, by kernel_rfl⟩
/- seisin/tags.Find -/
def m82 : M :=
 .seq (.reg [0, 1, 2] [⟨(some 3), .box 31 (.tmp 0), none⟩,
 ⟨(some 4), .box 90 (.tmp 1), none⟩,
 ⟨(some 6), .assign (.const (.int .i64 0)), none⟩,
 ⟨(some 7), .assign (.const (.int .i64 0)), none⟩,
 ⟨(some 8), .assign (.const (.bool false)), none⟩] 0)
 (.seq (.seq (.reg [2, 3, 4] [⟨(some 10), .load 31 (.tmp 3), none⟩,
 ⟨(some 11), .call ⟨.value (.func 28), #[(.tmp 10)], #[31]⟩, none⟩,
 ⟨(some 12), .unOp .not 4 (.tmp 11), none⟩] 0)
 (.cond (.tmp 12) (.seq (.reg [] [⟨(some 6), .assign (.const (.int .i64 0)), none⟩,
 ⟨(some 7), .assign (.const (.int .i64 0)), none⟩,
 ⟨(some 8), .assign (.const (.bool false)), none⟩] 0)
 (.ret))
 (.skip)))
 (.seq (.reg [2, 3, 4] [⟨(some 13), .load 31 (.tmp 3), none⟩,
 ⟨(some 14), .build 122 #[(0, (.tmp 13))], none⟩,
 ⟨(some 9), .alloc 122, none⟩,
 ⟨none, .store 122 (.tmp 9) (.tmp 14), none⟩] 0)
 (.seq (.reg [2, 4, 9] [⟨(some 15), .load 122 (.tmp 9), none⟩,
 ⟨(some 16), .move (.tmp 2), none⟩,
 ⟨(some 17), .call ⟨.value (.func 87), #[(.tmp 15), (.tmp 16)], #[122, 5]⟩, none⟩,
 ⟨(some 6), .assign (.tmp 17), none⟩] 0)
 (.seq (.reg [2, 4, 6, 9] [⟨(some 19), .load 122 (.tmp 9), none⟩,
 ⟨(some 20), .move (.tmp 6), none⟩,
 ⟨(some 21), .move (.tmp 2), none⟩,
 ⟨(some 22), .call ⟨.value (.func 119), #[(.tmp 21)], #[5]⟩, none⟩,
 ⟨(some 23), .call ⟨.value (.func 118), #[(.tmp 19), (.tmp 4), (.tmp 20), (.tmp 22)], #[122, 194, 3, 164]⟩, none⟩,
 ⟨(some 18), .move (.tmp 23), none⟩,
 ⟨(some 24), .extract (.tmp 18) 0, none⟩,
 ⟨(some 25), .extract (.tmp 18) 1, none⟩,
 ⟨(some 7), .assign (.tmp 24), none⟩,
 ⟨(some 8), .assign (.tmp 25), none⟩] 9)
 (.seq (.reg [6, 7, 8] [⟨(some 26), .move (.tmp 6), none⟩,
 ⟨(some 27), .move (.tmp 7), none⟩,
 ⟨(some 28), .move (.tmp 8), none⟩,
 ⟨(some 6), .assign (.tmp 26), none⟩,
 ⟨(some 7), .assign (.tmp 27), none⟩,
 ⟨(some 8), .assign (.tmp 28), none⟩] 0)
 (.ret))))))
def fn82 : MFn := ⟨29, [.tmp 6, .tmp 7, .tmp 8], m82, .shut⟩
theorem fnOk82 : FnOk Tryz.prog 82 fn82 := ⟨Tryz.f82, _, kpL passing [] [[0, 1, 2], [2, 3, 4], [], [2, 3, 4], [2, 4, 9], [2, 4, 6, 9], [6, 7, 8]], Tryz.func82, rfl, by kernel_rfl, by kernel_rfl, by kernel_rfl, by kernel_rfl⟩
/- (seisin/tags.frame).slots -/
def m85 : M :=
 .seq (.reg [0] [⟨(some 1), .box 122 (.tmp 0), none⟩,
 ⟨(some 2), .assign (.const .nilFunc), none⟩] 0)
 (.seq (.reg [1] [⟨(some 3), .makeFunc (.func 120) #[] #[(.tmp 1)], none⟩,
 ⟨(some 2), .assign (.tmp 3), none⟩] 0)
 (.ret))
def fn85 : MFn := ⟨4, [.tmp 2], m85, .shut⟩
theorem fnOk85 : FnOk Tryz.prog 85 fn85 := ⟨Tryz.f85, _, kpL passing [] [[0], [1]], Tryz.func85, rfl, by kernel_rfl, by kernel_rfl, by kernel_rfl, by kernel_rfl⟩
/- seisin/tags.free -/
def m86 : M :=
 .seq (.reg [0] [⟨(some 1), .box 83 (.tmp 0), none⟩,
 ⟨(some 2), .assign (.const (.bool false)), none⟩] 0)
 (.seq (.reg [1] [⟨(some 3), .fieldAddr 83 (.tmp 1) 1, none⟩,
 ⟨(some 4), .load 5 (.tmp 3), none⟩,
 ⟨(some 5), .binOp .eql 5 (.tmp 4) (.const (.int .u8 0)) 5, none⟩,
 ⟨(some 2), .assign (.tmp 5), none⟩] 0)
 (.ret))
def fn86 : MFn := ⟨6, [.tmp 2], m86, .shut⟩
theorem fnOk86 : FnOk Tryz.prog 86 fn86 := ⟨Tryz.f86, _, kpL passing [] [[0], [1]], Tryz.func86, rfl, by kernel_rfl, by kernel_rfl, by kernel_rfl, by kernel_rfl⟩
/- (seisin/tags.frame).set -/
def m87 : M :=
 .seq (.reg [0, 1] [⟨(some 2), .box 122 (.tmp 0), none⟩,
 ⟨(some 4), .assign (.const (.int .i64 0)), none⟩] 0)
 (.seq (.reg [1, 2] [⟨(some 5), .fieldAddr 122 (.tmp 2) 0, none⟩,
 ⟨(some 6), .load 31 (.tmp 5), none⟩,
 ⟨(some 7), .move (.tmp 1), none⟩,
 ⟨(some 8), .call ⟨.value (.func 121), #[(.tmp 6), (.tmp 7)], #[31, 5]⟩, none⟩,
 ⟨(some 9), .convert 5 3 (.tmp 8), none⟩,
 ⟨(some 4), .assign (.tmp 9), none⟩] 0)
 (.ret))
def fn87 : MFn := ⟨10, [.tmp 4], m87, .shut⟩
theorem fnOk87 : FnOk Tryz.prog 87 fn87 := ⟨Tryz.f87, _, kpL passing [] [[0, 1], [1, 2]], Tryz.func87, rfl, by kernel_rfl, by kernel_rfl, by kernel_rfl, by kernel_rfl⟩
/- seisin/repl.Right -/
def m88 : M :=
 .seq (.reg [0] [⟨(some 1), .box 87 (.tmp 0), none⟩,
 ⟨(some 2), .assign (.const (.bool false)), none⟩] 0)
 (.seq (.seq (.reg [1] [⟨(some 3), .fieldAddr 87 (.tmp 1) 1, none⟩,
 ⟨(some 4), .load 3 (.tmp 3), none⟩,
 ⟨(some 5), .binOp .lss 3 (.tmp 4) (.const (.int .i64 1)) 3, none⟩,
 ⟨(some 6), .move (.tmp 5), none⟩,
 ⟨(some 7), .fieldAddr 87 (.tmp 1) 1, (some (6, false))⟩,
 ⟨(some 8), .load 3 (.tmp 7), (some (6, false))⟩,
 ⟨(some 9), .binOp .gtr 3 (.tmp 8) (.const (.int .i64 4)) 3, (some (6, false))⟩,
 ⟨(some 10), .pick (.tmp 6) (.const (.bool true)) (.tmp 9), none⟩] 0)
 (.cond (.tmp 10) (.seq (.reg [] [⟨(some 2), .assign (.const (.bool false)), none⟩] 0)
 (.ret))
 (.skip)))
 (.seq (.seq (.reg [1] [⟨(some 11), .fieldAddr 87 (.tmp 1) 0, none⟩,
 ⟨(some 12), .load 5 (.tmp 11), none⟩] 0)
 (.block 0 (.seq (.reg [1, 12] [⟨(some 14), .binOp .eql 5 (.tmp 12) (.const (.int .u8 3)) 5, none⟩,
 ⟨(some 13), .assign (.tmp 14), none⟩] 0)
 (.cond (.tmp 13) (.seq (.reg [1] [⟨(some 15), .fieldAddr 87 (.tmp 1) 3, none⟩,
 ⟨(some 16), .load 5 (.tmp 15), none⟩,
 ⟨(some 17), .binOp .lss 5 (.tmp 16) (.const (.int .u8 8)) 5, none⟩,
 ⟨(some 18), .move (.tmp 17), none⟩,
 ⟨(some 19), .fieldAddr 87 (.tmp 1) 2, (some (18, true))⟩,
 ⟨(some 20), .load 62 (.tmp 19), (some (18, true))⟩,
 ⟨(some 21), .build 62 #[], (some (18, true))⟩,
 ⟨(some 22), .binOp .eql 62 (.tmp 20) (.tmp 21) 62, (some (18, true))⟩,
 ⟨(some 23), .pick (.tmp 18) (.tmp 22) (.const (.bool false)), none⟩,
 ⟨(some 2), .assign (.tmp 23), none⟩] 0)
 (.ret))
 (.seq (.seq (.reg [1, 12] [⟨(some 25), .binOp .eql 5 (.tmp 12) (.const (.int .u8 1)) 5, none⟩,
 ⟨(some 24), .assign (.tmp 25), none⟩] 0)
 (.cond (.tmp 24) (.skip)
 (.seq (.reg [1, 12] [⟨(some 26), .binOp .eql 5 (.tmp 12) (.const (.int .u8 2)) 5, none⟩,
 ⟨(some 24), .assign (.tmp 26), none⟩] 0)
 (.cond (.tmp 24) (.skip)
 (.reg [1, 12] [⟨(some 27), .binOp .eql 5 (.tmp 12) (.const (.int .u8 4)) 5, none⟩,
 ⟨(some 24), .assign (.tmp 27), none⟩] 0)))))
 (.cond (.tmp 24) (.seq (.reg [1] [⟨(some 28), .fieldAddr 87 (.tmp 1) 3, none⟩,
 ⟨(some 29), .load 5 (.tmp 28), none⟩,
 ⟨(some 30), .binOp .eql 5 (.tmp 29) (.const (.int .u8 0)) 5, none⟩,
 ⟨(some 31), .move (.tmp 30), none⟩,
 ⟨(some 32), .load 87 (.tmp 1), (some (31, true))⟩,
 ⟨(some 33), .call ⟨.value (.func 122), #[(.tmp 32)], #[87]⟩, (some (31, true))⟩,
 ⟨(some 34), .pick (.tmp 31) (.tmp 33) (.const (.bool false)), none⟩,
 ⟨(some 2), .assign (.tmp 34), none⟩] 0)
 (.ret))
 (.skip)))))))
 (.seq (.reg [] [⟨(some 2), .assign (.const (.bool false)), none⟩] 0)
 (.ret))))
def fn88 : MFn := ⟨35, [.tmp 2], m88, .shut⟩
theorem fnOk88 : FnOk Tryz.prog 88 fn88 := ⟨Tryz.f88, _, kpL passing [] [[0], [1], [], [1], [1, 12], [1], [1, 12], [1, 12], [1, 12], [1], []], Tryz.func88, rfl, by kernel_rfl, by kernel_rfl, by kernel_rfl, by kernel_rfl⟩
/- seisin/geo.Home -/
def m89 : M :=
 .seq (.reg [0, 1] [⟨(some 2), .box 31 (.tmp 0), none⟩,
 ⟨(some 4), .assign (.const (.int .u8 0)), none⟩] 0)
 (.seq (.reg [1, 2] [⟨(some 8), .load 31 (.tmp 2), none⟩,
 ⟨(some 9), .call ⟨.value (.func 55), #[(.tmp 8)], #[31]⟩, none⟩,
 ⟨(some 7), .move (.tmp 9), none⟩,
 ⟨(some 10), .extract (.tmp 7) 0, none⟩,
 ⟨(some 11), .extract (.tmp 7) 1, none⟩,
 ⟨(some 5), .alloc 127, none⟩,
 ⟨none, .store 127 (.tmp 5) (.tmp 10), none⟩,
 ⟨(some 6), .assign (.tmp 11), none⟩] 0)
 (.seq (.seq (.reg [1, 5, 6] [⟨(some 12), .move (.tmp 6), none⟩,
 ⟨(some 13), .unOp .not 4 (.tmp 12), none⟩] 0)
 (.cond (.tmp 13) (.seq (.reg [] [⟨(some 4), .assign (.const (.int .u8 0)), none⟩] 0)
 (.ret))
 (.skip)))
 (.seq (.reg [1, 5] [⟨(some 14), .fieldAddr 127 (.tmp 5) 0, none⟩,
 ⟨(some 15), .fieldAddr 31 (.tmp 14) 0, none⟩,
 ⟨(some 16), .load 3 (.tmp 15), none⟩,
 ⟨(some 17), .convert 3 5 (.tmp 16), none⟩,
 ⟨(some 18), .move (.tmp 1), none⟩,
 ⟨(some 19), .fieldAddr 127 (.tmp 5) 0, none⟩,
 ⟨(some 20), .fieldAddr 31 (.tmp 19) 1, none⟩,
 ⟨(some 21), .load 3 (.tmp 20), none⟩,
 ⟨(some 22), .convert 3 5 (.tmp 21), none⟩,
 ⟨(some 23), .binOp .rem 5 (.tmp 18) (.tmp 22) 5, none⟩,
 ⟨(some 24), .binOp .add 5 (.tmp 17) (.tmp 23) 5, none⟩,
 ⟨(some 4), .assign (.tmp 24), none⟩] 10)
 (.ret))))
def fn89 : MFn := ⟨25, [.tmp 4], m89, .shut⟩
theorem fnOk89 : FnOk Tryz.prog 89 fn89 := ⟨Tryz.f89, _, kpL passing [] [[0, 1], [1, 2], [1, 5, 6], [], [1, 5]], Tryz.func89, rfl, by kernel_rfl, by kernel_rfl, by kernel_rfl, by kernel_rfl⟩
/- (seisin/msg.letter).has -/
def m90 : M :=
 .seq (.reg [0, 1] [⟨(some 2), .box 126 (.tmp 0), none⟩,
 ⟨(some 4), .assign (.const (.bool false)), none⟩] 0)
 (.seq (.reg [1, 2] [⟨(some 5), .fieldAddr 126 (.tmp 2) 2, none⟩,
 ⟨(some 6), .load 5 (.tmp 5), none⟩,
 ⟨(some 7), .move (.tmp 1), none⟩,
 ⟨(some 8), .binOp .and 5 (.tmp 6) (.tmp 7) 5, none⟩,
 ⟨(some 9), .binOp .neq 5 (.tmp 8) (.const (.int .u8 0)) 5, none⟩,
 ⟨(some 4), .assign (.tmp 9), none⟩] 0)
 (.ret))
def fn90 : MFn := ⟨10, [.tmp 4], m90, .shut⟩
theorem fnOk90 : FnOk Tryz.prog 90 fn90 := ⟨Tryz.f90, _, kpL passing [] [[0, 1], [1, 2]], Tryz.func90, rfl, by kernel_rfl, by kernel_rfl, by kernel_rfl, by kernel_rfl⟩
/- seisin/geo.IsCache -/
def m91 : M :=
 .seq (.reg [0, 1] [⟨(some 2), .box 31 (.tmp 0), none⟩,
 ⟨(some 4), .assign (.const (.bool false)), none⟩] 0)
 (.seq (.reg [1, 2] [⟨(some 8), .load 31 (.tmp 2), none⟩,
 ⟨(some 9), .call ⟨.value (.func 55), #[(.tmp 8)], #[31]⟩, none⟩,
 ⟨(some 7), .move (.tmp 9), none⟩,
 ⟨(some 10), .extract (.tmp 7) 0, none⟩,
 ⟨(some 11), .extract (.tmp 7) 1, none⟩,
 ⟨(some 5), .alloc 127, none⟩,
 ⟨none, .store 127 (.tmp 5) (.tmp 10), none⟩,
 ⟨(some 6), .assign (.tmp 11), none⟩] 0)
 (.seq (.reg [1, 5, 6] [⟨(some 12), .move (.tmp 6), none⟩,
 ⟨(some 13), .move (.tmp 12), none⟩,
 ⟨(some 14), .load 127 (.tmp 5), (some (13, true))⟩,
 ⟨(some 15), .fieldAddr 127 (.tmp 5) 0, (some (13, true))⟩,
 ⟨(some 16), .fieldAddr 31 (.tmp 15) 0, (some (13, true))⟩,
 ⟨(some 17), .load 3 (.tmp 16), (some (13, true))⟩,
 ⟨(some 18), .call ⟨.value (.func 123), #[(.tmp 14), (.const (.int .i64 0)), (.tmp 17)], #[127, 3, 3]⟩, (some (13, true))⟩,
 ⟨(some 19), .move (.tmp 1), (some (13, true))⟩,
 ⟨(some 20), .call ⟨.value (.tmp 18), #[(.tmp 19)], #[5]⟩, (some (13, true))⟩,
 ⟨(some 21), .pick (.tmp 13) (.tmp 20) (.const (.bool false)), none⟩,
 ⟨(some 4), .assign (.tmp 21), none⟩] 0)
 (.ret)))
def fn91 : MFn := ⟨22, [.tmp 4], m91, .shut⟩
theorem fnOk91 : FnOk Tryz.prog 91 fn91 := ⟨Tryz.f91, _, kpL passing [] [[0, 1], [1, 2], [1, 5, 6]], Tryz.func91, rfl, by kernel_rfl, by kernel_rfl, by kernel_rfl, by kernel_rfl⟩
/- seisin/view.counts -/
def m92 : M :=
 .seq (.reg [0] [⟨(some 2), .assign (.const (.bool false)), none⟩] 0)
 (.seq (.reg [0] [⟨(some 3), .move (.tmp 0), none⟩,
 ⟨(some 4), .binOp .geq 3 (.tmp 3) (.const (.int .i64 1)) 3, none⟩,
 ⟨(some 5), .move (.tmp 4), none⟩,
 ⟨(some 6), .move (.tmp 0), (some (5, true))⟩,
 ⟨(some 7), .binOp .leq 3 (.tmp 6) (.const (.int .i64 4)) 3, (some (5, true))⟩,
 ⟨(some 8), .pick (.tmp 5) (.tmp 7) (.const (.bool false)), none⟩,
 ⟨(some 2), .assign (.tmp 8), none⟩] 0)
 (.ret))
def fn92 : MFn := ⟨9, [.tmp 2], m92, .shut⟩
theorem fnOk92 : FnOk Tryz.prog 92 fn92 := ⟨Tryz.f92, _, kpL passing [] [[0], [0]], Tryz.func92, rfl, by kernel_rfl, by kernel_rfl, by kernel_rfl, by kernel_rfl⟩
/- seisin/view.below -/
def m93 : M :=
 .seq (.reg [0] [⟨(some 2), .assign (.const (.int .u64 0)), none⟩] 0)
 (.seq (.reg [0] [⟨(some 3), .move (.tmp 0), none⟩,
 ⟨(some 4), .binOp .shl 59 (.const (.int .u64 1)) (.tmp 3) 3, none⟩,
 ⟨(some 5), .binOp .sub 59 (.tmp 4) (.const (.int .u64 1)) 59, none⟩,
 ⟨(some 2), .assign (.tmp 5), none⟩] 0)
 (.ret))
def fn93 : MFn := ⟨6, [.tmp 2], m93, .shut⟩
theorem fnOk93 : FnOk Tryz.prog 93 fn93 := ⟨Tryz.f93, _, kpL passing [] [[0], [0]], Tryz.func93, rfl, by kernel_rfl, by kernel_rfl, by kernel_rfl, by kernel_rfl⟩
/- seisin/inv.copied -/
def m96 : M :=
 .seq (.reg [0] [⟨(some 1), .box 83 (.tmp 0), none⟩,
 ⟨(some 2), .assign (.const (.bool false)), none⟩] 0)
 (.seq (.seq (.reg [1] [⟨(some 3), .fieldAddr 83 (.tmp 1) 1, none⟩,
 ⟨(some 4), .load 5 (.tmp 3), none⟩] 0)
 (.block 0 (.seq (.seq (.reg [4] [⟨(some 6), .binOp .eql 5 (.tmp 4) (.const (.int .u8 1)) 5, none⟩,
 ⟨(some 5), .assign (.tmp 6), none⟩] 0)
 (.cond (.tmp 5) (.skip)
 (.seq (.reg [4] [⟨(some 7), .binOp .eql 5 (.tmp 4) (.const (.int .u8 2)) 5, none⟩,
 ⟨(some 5), .assign (.tmp 7), none⟩] 0)
 (.cond (.tmp 5) (.skip)
 (.seq (.reg [4] [⟨(some 8), .binOp .eql 5 (.tmp 4) (.const (.int .u8 3)) 5, none⟩,
 ⟨(some 5), .assign (.tmp 8), none⟩] 0)
 (.cond (.tmp 5) (.skip)
 (.seq (.reg [4] [⟨(some 9), .binOp .eql 5 (.tmp 4) (.const (.int .u8 4)) 5, none⟩,
 ⟨(some 5), .assign (.tmp 9), none⟩] 0)
 (.cond (.tmp 5) (.skip)
 (.seq (.reg [4] [⟨(some 10), .binOp .eql 5 (.tmp 4) (.const (.int .u8 7)) 5, none⟩,
 ⟨(some 5), .assign (.tmp 10), none⟩] 0)
 (.cond (.tmp 5) (.skip)
 (.reg [4] [⟨(some 11), .binOp .eql 5 (.tmp 4) (.const (.int .u8 8)) 5, none⟩,
 ⟨(some 5), .assign (.tmp 11), none⟩] 0)))))))))))
 (.cond (.tmp 5) (.seq (.reg [] [⟨(some 2), .assign (.const (.bool true)), none⟩] 0)
 (.ret))
 (.skip)))))
 (.seq (.reg [] [⟨(some 2), .assign (.const (.bool false)), none⟩] 0)
 (.ret)))
def fn96 : MFn := ⟨12, [.tmp 2], m96, .shut⟩
theorem fnOk96 : FnOk Tryz.prog 96 fn96 := ⟨Tryz.f96, _, kpL passing [] [[0], [1], [4], [4], [4], [4], [4], [4], [], []], Tryz.func96, rfl, by kernel_rfl, by kernel_rfl, by kernel_rfl, by kernel_rfl⟩
/- seisin/inv.owned -/
def m97 : M :=
 .seq (.reg [0] [⟨(some 1), .box 83 (.tmp 0), none⟩,
 ⟨(some 2), .assign (.const (.bool false)), none⟩] 0)
 (.seq (.seq (.reg [1] [⟨(some 3), .fieldAddr 83 (.tmp 1) 1, none⟩,
 ⟨(some 4), .load 5 (.tmp 3), none⟩] 0)
 (.block 0 (.seq (.seq (.reg [4] [⟨(some 6), .binOp .eql 5 (.tmp 4) (.const (.int .u8 2)) 5, none⟩,
 ⟨(some 5), .assign (.tmp 6), none⟩] 0)
 (.cond (.tmp 5) (.skip)
 (.seq (.reg [4] [⟨(some 7), .binOp .eql 5 (.tmp 4) (.const (.int .u8 3)) 5, none⟩,
 ⟨(some 5), .assign (.tmp 7), none⟩] 0)
 (.cond (.tmp 5) (.skip)
 (.seq (.reg [4] [⟨(some 8), .binOp .eql 5 (.tmp 4) (.const (.int .u8 4)) 5, none⟩,
 ⟨(some 5), .assign (.tmp 8), none⟩] 0)
 (.cond (.tmp 5) (.skip)
 (.reg [4] [⟨(some 9), .binOp .eql 5 (.tmp 4) (.const (.int .u8 8)) 5, none⟩,
 ⟨(some 5), .assign (.tmp 9), none⟩] 0)))))))
 (.cond (.tmp 5) (.seq (.reg [] [⟨(some 2), .assign (.const (.bool true)), none⟩] 0)
 (.ret))
 (.skip)))))
 (.seq (.reg [] [⟨(some 2), .assign (.const (.bool false)), none⟩] 0)
 (.ret)))
def fn97 : MFn := ⟨10, [.tmp 2], m97, .shut⟩
theorem fnOk97 : FnOk Tryz.prog 97 fn97 := ⟨Tryz.f97, _, kpL passing [] [[0], [1], [4], [4], [4], [4], [], []], Tryz.func97, rfl, by kernel_rfl, by kernel_rfl, by kernel_rfl, by kernel_rfl⟩
/- seisin/view.Told -/
def m98_l0 : M :=
 .reg [6, 36] [⟨(some 7), .assign (.tmp 36), none⟩] 0
def m98_l1 : M :=
 .block 2 (.reg [6, 7] [⟨(some 37), .load 59 (.tmp 6), none⟩,
 ⟨(some 38), .move (.tmp 7), none⟩,
 ⟨(some 39), .binOp .mul 5 (.const (.int .u8 2)) (.tmp 38) 5, none⟩,
 ⟨(some 40), .binOp .shl 59 (.const (.int .u64 3)) (.tmp 39) 5, none⟩,
 ⟨(some 41), .binOp .or 59 (.tmp 37) (.tmp 40) 59, none⟩,
 ⟨none, .store 59 (.tmp 6) (.tmp 41), none⟩] 0)
def m98 : M :=
 .seq (.reg [0, 1] [⟨(some 2), .box 61 (.tmp 0), none⟩,
 ⟨(some 4), .assign (.const (.int .u64 0)), none⟩] 0)
 (.seq (.seq (.reg [1, 2, 4] [⟨(some 8), .fieldAddr 61 (.tmp 2) 0, none⟩,
 ⟨(some 9), .load 5 (.tmp 8), none⟩,
 ⟨(some 10), .call ⟨.value (.func 124), #[(.tmp 9)], #[5]⟩, none⟩,
 ⟨(some 11), .unOp .not 4 (.tmp 10), none⟩,
 ⟨(some 12), .move (.tmp 11), none⟩,
 ⟨(some 13), .move (.tmp 1), (some (12, false))⟩,
 ⟨(some 14), .call ⟨.value (.func 92), #[(.tmp 13)], #[3]⟩, (some (12, false))⟩,
 ⟨(some 15), .unOp .not 4 (.tmp 14), (some (12, false))⟩,
 ⟨(some 16), .pick (.tmp 12) (.const (.bool true)) (.tmp 15), none⟩] 0)
 (.cond (.tmp 16) (.seq (.reg [] [⟨(some 4), .assign (.const (.int .u64 0)), none⟩] 0)
 (.ret))
 (.skip)))
 (.seq (.reg [1, 2, 4] [⟨(some 17), .move (.tmp 1), none⟩,
 ⟨(some 18), .call ⟨.value (.func 93), #[(.tmp 17)], #[3]⟩, none⟩,
 ⟨(some 5), .assign (.tmp 18), none⟩] 0)
 (.seq (.block 0 (.seq (.reg [2, 4, 5] [⟨(some 20), .fieldAddr 61 (.tmp 2) 2, none⟩,
 ⟨(some 21), .load 4 (.tmp 20), none⟩,
 ⟨(some 19), .assign (.tmp 21), none⟩] 0)
 (.cond (.tmp 19) (.seq (.reg [5] [⟨(some 22), .move (.tmp 5), none⟩,
 ⟨(some 4), .assign (.tmp 22), none⟩] 0)
 (.ret))
 (.seq (.reg [2, 4, 5] [⟨(some 24), .fieldAddr 61 (.tmp 2) 0, none⟩,
 ⟨(some 25), .load 5 (.tmp 24), none⟩,
 ⟨(some 26), .binOp .neq 5 (.tmp 25) (.const (.int .u8 3)) 5, none⟩,
 ⟨(some 23), .assign (.tmp 26), none⟩] 0)
 (.cond (.tmp 23) (.seq (.reg [2, 5] [⟨(some 27), .fieldAddr 61 (.tmp 2) 1, none⟩,
 ⟨(some 28), .load 59 (.tmp 27), none⟩,
 ⟨(some 29), .move (.tmp 5), none⟩,
 ⟨(some 30), .binOp .and 59 (.tmp 28) (.tmp 29) 59, none⟩,
 ⟨(some 4), .assign (.tmp 30), none⟩] 0)
 (.ret))
 (.skip))))))
 (.seq (.reg [2, 4, 5] [⟨(some 6), .alloc 59, none⟩,
 ⟨none, .store 59 (.tmp 6) (.const (.int .u64 0)), none⟩] 0)
 (.seq (.seq (.reg [2, 4, 5, 6] [⟨(some 31), .fieldAddr 61 (.tmp 2) 1, none⟩,
 ⟨(some 32), .load 59 (.tmp 31), none⟩,
 ⟨(some 33), .call ⟨.value (.func 93), #[(.const (.int .i64 2))], #[3]⟩, none⟩,
 ⟨(some 34), .binOp .and 59 (.tmp 32) (.tmp 33) 59, none⟩,
 ⟨(some 35), .call ⟨.value (.func 125), #[(.tmp 34)], #[59]⟩, none⟩] 3)
 (.block 1 (.rf (.tmp 35) 45 [36] [6] (m98_l0) (m98_l1))))
 (.seq (.reg [5, 6] [⟨(some 42), .load 59 (.tmp 6), none⟩,
 ⟨(some 43), .move (.tmp 5), none⟩,
 ⟨(some 44), .binOp .and 59 (.tmp 42) (.tmp 43) 59, none⟩,
 ⟨(some 4), .assign (.tmp 44), none⟩] 0)
 (.ret)))))))
def fn98 : MFn := ⟨45, [.tmp 4], m98, .shut⟩
theorem fnOk98 : FnOk Tryz.prog 98 fn98 := ⟨Tryz.f98, _, kpL passing [6] [[0, 1], [1, 2, 4], [], [1, 2, 4], [2, 4, 5], [5], [2, 4, 5], [2, 5], [2, 4, 5], [2, 4, 5, 6], [6, 36], [6, 7], [5, 6]], Tryz.func98, rfl, by kernel_rfl, by kernel_rfl, by kernel_rfl, by kernel_rfl⟩
/- (*seisin/inv.scene).acks -/
def m99_l0 : M :=
 .seq (.reg [0, 3, 5, 20, 21, 22] [⟨(some 23), .binOp .lss 3 (.tmp 22) (.tmp 21) 3, none⟩] 0)
 (.seq (.cond (.tmp 23) (.skip)
 (.exit 0))
 (.seq (.block 1 (.seq (.reg [0, 3, 5, 20, 21, 22] [⟨(some 24), .indexAddr 67 (.tmp 20) (.tmp 22), none⟩,
 ⟨(some 25), .load 77 (.tmp 24), none⟩,
 ⟨(some 7), .alloc 77, none⟩,
 ⟨none, .store 77 (.tmp 7) (.tmp 25), none⟩] 0)
 (.block 2 (.seq (.seq (.reg [0, 3, 5, 7, 20, 21, 22] [⟨(some 27), .fieldAddr 77 (.tmp 7) 0, none⟩,
 ⟨(some 28), .load 5 (.tmp 27), none⟩,
 ⟨(some 29), .binOp .eql 5 (.tmp 28) (.const (.int .u8 10)) 5, none⟩,
 ⟨(some 30), .move (.tmp 29), none⟩,
 ⟨(some 31), .fieldAddr 77 (.tmp 7) 0, (some (30, false))⟩,
 ⟨(some 32), .load 5 (.tmp 31), (some (30, false))⟩,
 ⟨(some 33), .binOp .eql 5 (.tmp 32) (.const (.int .u8 11)) 5, (some (30, false))⟩,
 ⟨(some 34), .pick (.tmp 30) (.const (.bool true)) (.tmp 33), none⟩,
 ⟨(some 35), .move (.tmp 34), none⟩,
 ⟨(some 36), .fieldAddr 77 (.tmp 7) 2, (some (35, true))⟩,
 ⟨(some 37), .load 5 (.tmp 36), (some (35, true))⟩,
 ⟨(some 38), .load 5 (.tmp 3), (some (35, true))⟩,
 ⟨(some 39), .binOp .eql 5 (.tmp 37) (.tmp 38) 5, (some (35, true))⟩,
 ⟨(some 40), .pick (.tmp 35) (.tmp 39) (.const (.bool false)), none⟩,
 ⟨(some 26), .assign (.tmp 40), none⟩] 0)
 (.cond (.tmp 26) (.skip)
 (.reg [0, 3, 5, 7, 20, 21, 22] [⟨(some 41), .fieldAddr 77 (.tmp 7) 0, none⟩,
 ⟨(some 42), .load 5 (.tmp 41), none⟩,
 ⟨(some 43), .binOp .eql 5 (.tmp 42) (.const (.int .u8 7)) 5, none⟩,
 ⟨(some 44), .move (.tmp 43), none⟩,
 ⟨(some 45), .fieldAddr 77 (.tmp 7) 4, (some (44, true))⟩,
 ⟨(some 46), .load 5 (.tmp 45), (some (44, true))⟩,
 ⟨(some 47), .load 5 (.tmp 3), (some (44, true))⟩,
 ⟨(some 48), .binOp .eql 5 (.tmp 46) (.tmp 47) 5, (some (44, true))⟩,
 ⟨(some 49), .pick (.tmp 44) (.tmp 48) (.const (.bool false)), none⟩,
 ⟨(some 26), .assign (.tmp 49), none⟩] 0)))
 (.cond (.tmp 26) (.reg [0, 3, 5, 7, 20, 21, 22] [⟨(some 50), .move (.tmp 5), none⟩,
 ⟨(some 51), .fieldAddr 77 (.tmp 7) 5, none⟩,
 ⟨(some 52), .load 5 (.tmp 51), none⟩,
 ⟨(some 53), .convert 5 3 (.tmp 52), none⟩,
 ⟨(some 54), .binOp .add 3 (.tmp 50) (.tmp 53) 3, none⟩,
 ⟨(some 5), .assign (.tmp 54), none⟩] 0)
 (.skip))))))
 (.reg [0, 3, 5, 20, 21, 22] [⟨(some 55), .binOp .add 3 (.tmp 22) (.const (.int .i64 1)) 3, none⟩,
 ⟨(some 22), .move (.tmp 55), none⟩] 0)))
def m99 : M :=
 .seq (.reg [0, 1] [⟨(some 3), .box 5 (.tmp 1), none⟩,
 ⟨(some 4), .assign (.const (.bool false)), none⟩] 0)
 (.seq (.reg [0, 3] [⟨(some 8), .move (.tmp 0), none⟩,
 ⟨(some 9), .nilCheck (.tmp 8), none⟩,
 ⟨(some 10), .fieldAddr 108 (.tmp 9) 3, none⟩,
 ⟨(some 11), .load 106 (.tmp 10), none⟩,
 ⟨(some 12), .load 5 (.tmp 3), none⟩,
 ⟨(some 13), .indexAddr 106 (.tmp 11) (.tmp 12), none⟩,
 ⟨(some 14), .fieldAddr 83 (.tmp 13) 2, none⟩,
 ⟨(some 15), .load 81 (.tmp 14), none⟩,
 ⟨(some 16), .convert 81 3 (.tmp 15), none⟩,
 ⟨(some 5), .assign (.tmp 16), none⟩] 5)
 (.seq (.seq (.reg [0, 3, 5] [⟨(some 17), .move (.tmp 0), none⟩,
 ⟨(some 18), .nilCheck (.tmp 17), none⟩,
 ⟨(some 19), .fieldAddr 108 (.tmp 18) 4, none⟩,
 ⟨(some 20), .load 67 (.tmp 19), none⟩,
 ⟨(some 21), .call ⟨.builtin .len, #[(.tmp 20)], #[67]⟩, none⟩,
 ⟨(some 22), .move (.const (.int .i64 0)), none⟩] 0)
 (.block 0 (.loop (m99_l0))))
 (.seq (.reg [0, 3, 5] [⟨(some 56), .move (.tmp 5), none⟩,
 ⟨(some 57), .move (.tmp 0), none⟩,
 ⟨(some 58), .makeFunc (.func 127) #[] #[(.tmp 3)], none⟩,
 ⟨(some 59), .call ⟨.value (.func 126), #[(.tmp 57), (.tmp 58)], #[111, 200]⟩, none⟩,
 ⟨(some 60), .binOp .eql 3 (.tmp 56) (.tmp 59) 3, none⟩,
 ⟨(some 4), .assign (.tmp 60), none⟩] 0)
 (.ret))))
def fn99 : MFn := ⟨61, [.tmp 4], m99, .pass⟩
theorem fnOk99 : FnOk Tryz.prog 99 fn99 := ⟨Tryz.f99, _, kpL passing [] [[0, 1], [0, 3], [0, 3, 5], [0, 3, 5, 20, 21, 22], [0, 3, 5, 20, 21, 22], [0, 3, 5, 7, 20, 21, 22], [0, 3, 5, 7, 20, 21, 22], [0, 3, 5, 7, 20, 21, 22], [0, 3, 5, 20, 21, 22], [0, 3, 5]], Tryz.func99, rfl, by kernel_rfl, by kernel_rfl, by kernel_rfl, by kernel_rfl⟩
/- (*seisin/inv.scene).puts -/
def m100 : M :=
 .seq (.reg [0, 1] [⟨(some 3), .box 5 (.tmp 1), none⟩,
 ⟨(some 4), .assign (.const (.bool false)), none⟩] 0)
 (.seq (.reg [0, 3] [⟨(some 6), .move (.tmp 0), none⟩,
 ⟨(some 7), .nilCheck (.tmp 6), none⟩,
 ⟨(some 8), .fieldAddr 108 (.tmp 7) 3, none⟩,
 ⟨(some 9), .load 106 (.tmp 8), none⟩,
 ⟨(some 10), .load 5 (.tmp 3), none⟩,
 ⟨(some 11), .indexAddr 106 (.tmp 9) (.tmp 10), none⟩,
 ⟨(some 12), .fieldAddr 83 (.tmp 11) 1, none⟩,
 ⟨(some 13), .load 5 (.tmp 12), none⟩,
 ⟨(some 5), .assign (.tmp 13), none⟩] 5)
 (.seq (.reg [0, 3, 5] [⟨(some 14), .move (.tmp 5), none⟩,
 ⟨(some 15), .binOp .eql 5 (.tmp 14) (.const (.int .u8 10)) 5, none⟩,
 ⟨(some 16), .move (.tmp 15), none⟩,
 ⟨(some 17), .move (.tmp 5), (some (16, false))⟩,
 ⟨(some 18), .binOp .eql 5 (.tmp 17) (.const (.int .u8 11)) 5, (some (16, false))⟩,
 ⟨(some 19), .pick (.tmp 16) (.const (.bool true)) (.tmp 18), none⟩,
 ⟨(some 20), .call ⟨.value (.func 103), #[(.tmp 19)], #[4]⟩, none⟩,
 ⟨(some 21), .move (.tmp 0), none⟩,
 ⟨(some 22), .makeFunc (.func 128) #[] #[(.tmp 3)], none⟩,
 ⟨(some 23), .call ⟨.value (.func 126), #[(.tmp 21), (.tmp 22)], #[111, 200]⟩, none⟩,
 ⟨(some 24), .binOp .eql 3 (.tmp 20) (.tmp 23) 3, none⟩,
 ⟨(some 4), .assign (.tmp 24), none⟩] 0)
 (.ret)))
def fn100 : MFn := ⟨25, [.tmp 4], m100, .pass⟩
theorem fnOk100 : FnOk Tryz.prog 100 fn100 := ⟨Tryz.f100, _, kpL passing [] [[0, 1], [0, 3], [0, 3, 5]], Tryz.func100, rfl, by kernel_rfl, by kernel_rfl, by kernel_rfl, by kernel_rfl⟩
/- (*seisin/inv.scene).gets -/
def m101 : M :=
 .seq (.reg [0, 1] [⟨(some 2), .box 111 (.tmp 0), none⟩,
 ⟨(some 3), .box 5 (.tmp 1), none⟩,
 ⟨(some 4), .assign (.const (.bool false)), none⟩] 0)
 (.seq (.reg [2, 3] [⟨(some 9), .makeFunc (.func 129) #[] #[(.tmp 2), (.tmp 3)], none⟩,
 ⟨(some 5), .assign (.tmp 9), none⟩] 0)
 (.seq (.reg [2, 3, 5] [⟨(some 10), .load 111 (.tmp 2), none⟩,
 ⟨(some 11), .nilCheck (.tmp 10), none⟩,
 ⟨(some 12), .fieldAddr 108 (.tmp 11) 2, none⟩,
 ⟨(some 13), .fieldAddr 65 (.tmp 12) 3, none⟩,
 ⟨(some 14), .load 5 (.tmp 13), none⟩,
 ⟨(some 15), .binOp .and 5 (.tmp 14) (.const (.int .u8 1)) 5, none⟩,
 ⟨(some 16), .binOp .neq 5 (.tmp 15) (.const (.int .u8 0)) 5, none⟩,
 ⟨(some 17), .move (.tmp 16), none⟩,
 ⟨(some 18), .load 111 (.tmp 2), (some (17, true))⟩,
 ⟨(some 19), .nilCheck (.tmp 18), (some (17, true))⟩,
 ⟨(some 20), .fieldAddr 108 (.tmp 19) 2, (some (17, true))⟩,
 ⟨(some 21), .fieldAddr 65 (.tmp 20) 4, (some (17, true))⟩,
 ⟨(some 22), .load 5 (.tmp 21), (some (17, true))⟩,
 ⟨(some 23), .load 5 (.tmp 3), (some (17, true))⟩,
 ⟨(some 24), .binOp .eql 5 (.tmp 22) (.tmp 23) 5, (some (17, true))⟩,
 ⟨(some 25), .pick (.tmp 17) (.tmp 24) (.const (.bool false)), none⟩,
 ⟨(some 26), .move (.tmp 25), none⟩,
 ⟨(some 27), .move (.tmp 5), (some (26, true))⟩,
 ⟨(some 28), .call ⟨.value (.tmp 27), #[(.const (.int .u8 4))], #[5]⟩, (some (26, true))⟩,
 ⟨(some 29), .binOp .eql 3 (.tmp 28) (.const (.int .i64 0)) 3, (some (26, true))⟩,
 ⟨(some 30), .pick (.tmp 26) (.tmp 29) (.const (.bool false)), none⟩,
 ⟨(some 6), .assign (.tmp 30), none⟩] 14)
 (.seq (.reg [2, 3, 5, 6] [⟨(some 7), .assign (.const (.bool false)), none⟩,
 ⟨(some 8), .assign (.const (.bool false)), none⟩] 0)
 (.seq (.seq (.reg [2, 3, 5, 6, 7, 8] [⟨(some 31), .load 111 (.tmp 2), none⟩,
 ⟨(some 32), .nilCheck (.tmp 31), none⟩,
 ⟨(some 33), .fieldAddr 108 (.tmp 32) 3, none⟩,
 ⟨(some 34), .load 106 (.tmp 33), none⟩,
 ⟨(some 35), .load 5 (.tmp 3), none⟩,
 ⟨(some 36), .indexAddr 106 (.tmp 34) (.tmp 35), none⟩,
 ⟨(some 37), .fieldAddr 83 (.tmp 36) 1, none⟩,
 ⟨(some 38), .load 5 (.tmp 37), none⟩] 5)
 (.block 0 (.seq (.reg [5, 6, 7, 8, 38] [⟨(some 40), .binOp .eql 5 (.tmp 38) (.const (.int .u8 5)) 5, none⟩,
 ⟨(some 39), .assign (.tmp 40), none⟩] 0)
 (.cond (.tmp 39) (.reg [5, 6, 8] [⟨(some 41), .move (.tmp 6), none⟩,
 ⟨(some 42), .unOp .not 4 (.tmp 41), none⟩,
 ⟨(some 7), .assign (.tmp 42), none⟩] 0)
 (.seq (.seq (.reg [5, 6, 7, 8, 38] [⟨(some 44), .binOp .eql 5 (.tmp 38) (.const (.int .u8 6)) 5, none⟩,
 ⟨(some 43), .assign (.tmp 44), none⟩] 0)
 (.cond (.tmp 43) (.skip)
 (.seq (.reg [5, 6, 7, 8, 38] [⟨(some 45), .binOp .eql 5 (.tmp 38) (.const (.int .u8 7)) 5, none⟩,
 ⟨(some 43), .assign (.tmp 45), none⟩] 0)
 (.cond (.tmp 43) (.skip)
 (.reg [5, 6, 7, 8, 38] [⟨(some 46), .binOp .eql 5 (.tmp 38) (.const (.int .u8 8)) 5, none⟩,
 ⟨(some 43), .assign (.tmp 46), none⟩] 0)))))
 (.cond (.tmp 43) (.reg [5, 6, 7] [⟨(some 47), .move (.tmp 6), none⟩,
 ⟨(some 48), .unOp .not 4 (.tmp 47), none⟩,
 ⟨(some 8), .assign (.tmp 48), none⟩] 0)
 (.seq (.reg [5, 6, 7, 8, 38] [⟨(some 50), .binOp .eql 5 (.tmp 38) (.const (.int .u8 9)) 5, none⟩,
 ⟨(some 49), .assign (.tmp 50), none⟩] 0)
 (.cond (.tmp 49) (.seq (.reg [5, 6, 7, 8] [⟨(some 51), .move (.tmp 6), none⟩,
 ⟨(some 52), .unOp .not 4 (.tmp 51), none⟩] 0)
 (.cond (.tmp 52) (.seq (.reg [] [⟨(some 4), .assign (.const (.bool false)), none⟩] 0)
 (.ret))
 (.skip)))
 (.skip)))))))))
 (.seq (.reg [5, 7, 8] [⟨(some 53), .move (.tmp 5), none⟩,
 ⟨(some 54), .call ⟨.value (.tmp 53), #[(.const (.int .u8 1))], #[5]⟩, none⟩,
 ⟨(some 55), .move (.tmp 7), none⟩,
 ⟨(some 56), .call ⟨.value (.func 103), #[(.tmp 55)], #[4]⟩, none⟩,
 ⟨(some 57), .binOp .eql 3 (.tmp 54) (.tmp 56) 3, none⟩,
 ⟨(some 58), .move (.tmp 57), none⟩,
 ⟨(some 59), .move (.tmp 5), (some (58, true))⟩,
 ⟨(some 60), .call ⟨.value (.tmp 59), #[(.const (.int .u8 2))], #[5]⟩, (some (58, true))⟩,
 ⟨(some 61), .move (.tmp 8), (some (58, true))⟩,
 ⟨(some 62), .call ⟨.value (.func 103), #[(.tmp 61)], #[4]⟩, (some (58, true))⟩,
 ⟨(some 63), .binOp .eql 3 (.tmp 60) (.tmp 62) 3, (some (58, true))⟩,
 ⟨(some 64), .pick (.tmp 58) (.tmp 63) (.const (.bool false)), none⟩,
 ⟨(some 4), .assign (.tmp 64), none⟩] 0)
 (.ret))))))
def fn101 : MFn := ⟨65, [.tmp 4], m101, .pass⟩
theorem fnOk101 : FnOk Tryz.prog 101 fn101 := ⟨Tryz.f101, _, kpL passing [] [[0, 1], [2, 3], [2, 3, 5], [2, 3, 5, 6], [2, 3, 5, 6, 7, 8], [5, 6, 7, 8, 38], [5, 6, 8], [5, 6, 7, 8, 38], [5, 6, 7, 8, 38], [5, 6, 7, 8, 38], [5, 6, 7], [5, 6, 7, 8, 38], [5, 6, 7, 8], [], [5, 7, 8]], Tryz.func101, rfl, by kernel_rfl, by kernel_rfl, by kernel_rfl, by kernel_rfl⟩
/- (*seisin/inv.scene).kinds -/
def m102 : M :=
 .seq (.reg [0, 1] [⟨(some 3), .box 23 (.tmp 1), none⟩,
 ⟨(some 4), .assign (.const (.int .i64 0)), none⟩] 0)
 (.seq (.reg [0, 3] [⟨(some 5), .move (.tmp 0), none⟩,
 ⟨(some 6), .makeFunc (.func 131) #[] #[(.tmp 3)], none⟩,
 ⟨(some 7), .call ⟨.value (.func 126), #[(.tmp 5), (.tmp 6)], #[111, 200]⟩, none⟩,
 ⟨(some 4), .assign (.tmp 7), none⟩] 0)
 (.ret))
def fn102 : MFn := ⟨8, [.tmp 4], m102, .pass⟩
theorem fnOk102 : FnOk Tryz.prog 102 fn102 := ⟨Tryz.f102, _, kpL passing [] [[0, 1], [0, 3]], Tryz.func102, rfl, by kernel_rfl, by kernel_rfl, by kernel_rfl, by kernel_rfl⟩
/- seisin/inv.bit -/
def m103 : M :=
 .seq (.reg [0] [⟨(some 2), .assign (.const (.int .i64 0)), none⟩] 0)
 (.seq (.seq (.reg [0] [⟨(some 3), .move (.tmp 0), none⟩] 0)
 (.cond (.tmp 3) (.seq (.reg [] [⟨(some 2), .assign (.const (.int .i64 1)), none⟩] 0)
 (.ret))
 (.skip)))
 (.seq (.reg [] [⟨(some 2), .assign (.const (.int .i64 0)), none⟩] 0)
 (.ret)))
def fn103 : MFn := ⟨4, [.tmp 2], m103, .shut⟩
theorem fnOk103 : FnOk Tryz.prog 103 fn103 := ⟨Tryz.f103, _, kpL passing [] [[0], [0], [], []], Tryz.func103, rfl, by kernel_rfl, by kernel_rfl, by kernel_rfl, by kernel_rfl⟩
/- seisin/spec.rules -/
def m104 : M :=
 .seq (.reg [] [⟨(some 0), .assign (.const (.map none)), none⟩] 0)
 (.seq (.reg [] [⟨(some 1), .assign (.func 133), none⟩] 0)
 (.seq (.reg [1] [⟨(some 2), .makeMap 170 none, none⟩,
 ⟨(some 3), .move (.tmp 1), none⟩,
 ⟨(some 4), .call ⟨.value (.tmp 3), #[(.const (.int .u8 2))], #[5]⟩, none⟩,
 ⟨none, .insert 170 (.tmp 2) (.const (.string ⟨#[119, 97, 105, 116]⟩)) (.tmp 4), none⟩,
 ⟨(some 5), .move (.tmp 1), none⟩,
 ⟨(some 6), .call ⟨.value (.tmp 5), #[(.const (.int .u8 3))], #[5]⟩, none⟩,
 ⟨none, .insert 170 (.tmp 2) (.const (.string ⟨#[110, 101, 118, 101, 114]⟩)) (.tmp 6), none⟩,
 ⟨none, .insert 170 (.tmp 2) (.const (.string ⟨#[45, 62]⟩)) (.func 136), none⟩,
 ⟨(some 7), .move (.tmp 2), none⟩,
 ⟨(some 0), .assign (.tmp 7), none⟩] 0)
 (.ret)))
def fn104 : MFn := ⟨8, [.tmp 0], m104, .shut⟩
theorem fnOk104 : FnOk Tryz.prog 104 fn104 := ⟨Tryz.f104, _, kpL passing [] [[], [], [1]], Tryz.func104, rfl, by kernel_rfl, by kernel_rfl, by kernel_rfl, by kernel_rfl⟩
/- seisin/spec.lines -/
def m105 : M :=
 .seq (.reg [0] [⟨(some 1), .box 9 (.tmp 0), none⟩,
 ⟨(some 2), .assign (.const .nilFunc), none⟩] 0)
 (.seq (.reg [1] [⟨(some 3), .alloc 216, none⟩,
 ⟨none, .store 216 (.tmp 3) (.func 139), none⟩] 0)
 (.seq (.reg [1, 3] [⟨(some 4), .makeFunc (.func 140) #[] #[(.tmp 1), (.tmp 3)], none⟩,
 ⟨(some 2), .assign (.tmp 4), none⟩] 0)
 (.ret)))
def fn105 : MFn := ⟨5, [.tmp 2], m105, .pass⟩
theorem fnOk105 : FnOk Tryz.prog 105 fn105 := ⟨Tryz.f105, _, kpL passing [] [[0], [1], [1, 3]], Tryz.func105, rfl, by kernel_rfl, by kernel_rfl, by kernel_rfl, by kernel_rfl⟩
/- seisin/spec.named -/
def m106_l0 : M :=
 .seq (.reg [0, 14, 15] [⟨(some 16), .binOp .lss 3 (.tmp 15) (.tmp 14) 3, none⟩] 0)
 (.seq (.cond (.tmp 16) (.skip)
 (.exit 0))
 (.seq (.block 1 (.seq (.reg [0, 14, 15] [⟨(some 17), .move (.tmp 15), none⟩,
 ⟨(some 3), .assign (.tmp 17), none⟩] 0)
 (.seq (.reg [0, 3, 14, 15] [⟨(some 18), .move (.tmp 0), none⟩,
 ⟨(some 19), .move (.tmp 3), none⟩,
 ⟨(some 20), .index 9 (.tmp 18) (.tmp 19), none⟩,
 ⟨(some 4), .assign (.tmp 20), none⟩] 0)
 (.seq (.reg [0, 4, 14, 15] [⟨(some 21), .move (.tmp 4), none⟩,
 ⟨(some 22), .binOp .lss 5 (.tmp 21) (.const (.int .u8 33)) 5, none⟩,
 ⟨(some 23), .move (.tmp 22), none⟩,
 ⟨(some 24), .move (.tmp 4), (some (23, false))⟩,
 ⟨(some 25), .binOp .gtr 5 (.tmp 24) (.const (.int .u8 126)) 5, (some (23, false))⟩,
 ⟨(some 26), .pick (.tmp 23) (.const (.bool true)) (.tmp 25), none⟩,
 ⟨(some 27), .move (.tmp 26), none⟩,
 ⟨(some 28), .move (.tmp 4), (some (27, false))⟩,
 ⟨(some 29), .binOp .eql 5 (.tmp 28) (.const (.int .u8 35)) 5, (some (27, false))⟩,
 ⟨(some 30), .pick (.tmp 27) (.const (.bool true)) (.tmp 29), none⟩] 0)
 (.cond (.tmp 30) (.seq (.reg [] [⟨(some 2), .assign (.const (.bool false)), none⟩] 0)
 (.ret))
 (.skip))))))
 (.reg [0, 14, 15] [⟨(some 31), .binOp .add 3 (.tmp 15) (.const (.int .i64 1)) 3, none⟩,
 ⟨(some 15), .move (.tmp 31), none⟩] 0)))
def m106 : M :=
 .seq (.reg [0] [⟨(some 2), .assign (.const (.bool false)), none⟩] 0)
 (.seq (.seq (.reg [0] [⟨(some 5), .move (.tmp 0), none⟩,
 ⟨(some 6), .call ⟨.builtin .len, #[(.tmp 5)], #[9]⟩, none⟩,
 ⟨(some 7), .binOp .lss 3 (.tmp 6) (.const (.int .i64 1)) 3, none⟩,
 ⟨(some 8), .move (.tmp 7), none⟩,
 ⟨(some 9), .move (.tmp 0), (some (8, false))⟩,
 ⟨(some 10), .call ⟨.builtin .len, #[(.tmp 9)], #[9]⟩, (some (8, false))⟩,
 ⟨(some 11), .binOp .gtr 3 (.tmp 10) (.const (.int .i64 16)) 3, (some (8, false))⟩,
 ⟨(some 12), .pick (.tmp 8) (.const (.bool true)) (.tmp 11), none⟩] 0)
 (.cond (.tmp 12) (.seq (.reg [] [⟨(some 2), .assign (.const (.bool false)), none⟩] 0)
 (.ret))
 (.skip)))
 (.seq (.seq (.reg [0] [⟨(some 13), .move (.tmp 0), none⟩,
 ⟨(some 14), .call ⟨.builtin .len, #[(.tmp 13)], #[9]⟩, none⟩,
 ⟨(some 15), .move (.const (.int .i64 0)), none⟩] 0)
 (.block 0 (.loop (m106_l0))))
 (.seq (.reg [] [⟨(some 2), .assign (.const (.bool true)), none⟩] 0)
 (.ret))))
def fn106 : MFn := ⟨32, [.tmp 2], m106, .shut⟩
theorem fnOk106 : FnOk Tryz.prog 106 fn106 := ⟨Tryz.f106, _, kpL passing [] [[0], [0], [], [0], [0, 14, 15], [0, 14, 15], [0, 3, 14, 15], [0, 4, 14, 15], [], [0, 14, 15], []], Tryz.func106, rfl, by kernel_rfl, by kernel_rfl, by kernel_rfl, by kernel_rfl⟩
/- seisin/spec.define -/
def m107 : M :=
 .seq (.reg [0, 1, 2] [⟨(some 6), .assign (.const (.int .i64 0)), none⟩] 0)
 (.seq (.reg [0, 1, 2] [⟨(some 12), .move (.tmp 2), none⟩,
 ⟨(some 13), .build 209 #[(0, (.tmp 12))], none⟩,
 ⟨(some 14), .build 211 #[(0, (.tmp 13))], none⟩,
 ⟨(some 7), .alloc 211, none⟩,
 ⟨none, .store 211 (.tmp 7) (.tmp 14), none⟩] 0)
 (.seq (.reg [0, 1, 7] [⟨(some 16), .call ⟨.value (.func 144), #[(.tmp 7)], #[211]⟩, none⟩,
 ⟨(some 15), .move (.tmp 16), none⟩,
 ⟨(some 17), .extract (.tmp 15) 0, none⟩,
 ⟨(some 18), .extract (.tmp 15) 1, none⟩,
 ⟨(some 8), .alloc 225, none⟩,
 ⟨none, .store 225 (.tmp 8) (.tmp 17), none⟩,
 ⟨(some 9), .assign (.tmp 18), none⟩] 0)
 (.seq (.seq (.reg [0, 1, 7, 8, 9] [⟨(some 19), .move (.tmp 9), none⟩,
 ⟨(some 20), .unOp .not 4 (.tmp 19), none⟩] 0)
 (.cond (.tmp 20) (.seq (.reg [] [⟨(some 6), .assign (.const (.int .i64 241)), none⟩] 0)
 (.ret))
 (.skip)))
 (.seq (.reg [0, 1, 7, 8] [⟨(some 22), .move (.tmp 1), none⟩,
 ⟨(some 23), .fieldAddr 211 (.tmp 7) 0, none⟩,
 ⟨(some 24), .call ⟨.value (.func 145), #[(.tmp 23)], #[209]⟩, none⟩,
 ⟨(some 25), .lookup 170 (.tmp 22) (.tmp 24) true, none⟩,
 ⟨(some 21), .move (.tmp 25), none⟩,
 ⟨(some 26), .extract (.tmp 21) 0, none⟩,
 ⟨(some 27), .extract (.tmp 21) 1, none⟩,
 ⟨(some 10), .assign (.tmp 26), none⟩,
 ⟨(some 9), .assign (.tmp 27), none⟩] 0)
 (.seq (.seq (.reg [0, 7, 8, 9, 10] [⟨(some 28), .move (.tmp 9), none⟩,
 ⟨(some 29), .unOp .not 4 (.tmp 28), none⟩] 0)
 (.cond (.tmp 29) (.seq (.reg [] [⟨(some 6), .assign (.const (.int .i64 241)), none⟩] 0)
 (.ret))
 (.skip)))
 (.seq (.reg [0, 7, 8, 10] [⟨(some 31), .move (.tmp 10), none⟩,
 ⟨(some 32), .fieldAddr 225 (.tmp 8) 0, none⟩,
 ⟨(some 33), .load 206 (.tmp 32), none⟩,
 ⟨(some 34), .call ⟨.value (.tmp 31), #[(.tmp 33), (.tmp 7)], #[206, 207]⟩, none⟩,
 ⟨(some 30), .move (.tmp 34), none⟩,
 ⟨(some 35), .extract (.tmp 30) 0, none⟩,
 ⟨(some 36), .extract (.tmp 30) 1, none⟩,
 ⟨(some 11), .alloc 36, none⟩,
 ⟨none, .store 36 (.tmp 11) (.tmp 35), none⟩,
 ⟨(some 9), .assign (.tmp 36), none⟩] 0)
 (.seq (.seq (.reg [0, 8, 9, 11] [⟨(some 37), .move (.tmp 9), none⟩,
 ⟨(some 38), .unOp .not 4 (.tmp 37), none⟩] 0)
 (.cond (.tmp 38) (.seq (.reg [] [⟨(some 6), .assign (.const (.int .i64 241)), none⟩] 0)
 (.ret))
 (.skip)))
 (.seq (.seq (.reg [0, 8, 11] [⟨(some 39), .load 225 (.tmp 8), none⟩,
 ⟨(some 40), .move (.tmp 0), none⟩,
 ⟨(some 41), .call ⟨.value (.func 146), #[(.tmp 39), (.tmp 40)], #[225, 177]⟩, none⟩,
 ⟨(some 42), .nilCheck (.tmp 41), none⟩,
 ⟨(some 43), .fieldAddr 36 (.tmp 42) 0, none⟩,
 ⟨(some 44), .load 5 (.tmp 43), none⟩,
 ⟨(some 45), .binOp .neq 5 (.tmp 44) (.const (.int .u8 0)) 5, none⟩] 0)
 (.cond (.tmp 45) (.seq (.reg [] [⟨(some 6), .assign (.const (.int .i64 242)), none⟩] 0)
 (.ret))
 (.skip)))
 (.seq (.seq (.reg [0, 8, 11] [⟨(some 46), .load 225 (.tmp 8), none⟩,
 ⟨(some 47), .move (.tmp 0), none⟩,
 ⟨(some 49), .load 36 (.tmp 11), none⟩] 3)
 (.seq (.ops [⟨(some 48), .call ⟨.value (.func 146), #[(.tmp 46), (.tmp 47)], #[225, 177]⟩, none⟩])
 (.seq (.again [⟨(some 49), .load 36 (.tmp 11), none⟩])
 (.seq (.ops [⟨(some 50), .nilCheck (.tmp 48), none⟩])
 (.seq (.again [])
 (.seq (.ops [⟨none, .store 36 (.tmp 50) (.tmp 49), none⟩])
 (.seq (.again [])
 (.skip))))))))
 (.seq (.reg [] [⟨(some 6), .assign (.const (.int .i64 0)), none⟩] 0)
 (.ret)))))))))))
def fn107 : MFn := ⟨51, [.tmp 6], m107, .trim⟩
theorem fnOk107 : FnOk Tryz.prog 107 fn107 := ⟨Tryz.f107, _, kpL passing [] [[0, 1, 2], [0, 1, 2], [0, 1, 7], [0, 1, 7, 8, 9], [], [0, 1, 7, 8], [0, 7, 8, 9, 10], [], [0, 7, 8, 10], [0, 8, 9, 11], [], [0, 8, 11], [], [0, 8, 11], []], Tryz.func107, rfl, by kernel_rfl, by kernel_rfl, by kernel_rfl, by kernel_rfl⟩
/- seisin/book.special -/
def m108 : M :=
 .seq (.reg [] [⟨(some 0), .assign (.const (.map none)), none⟩] 0)
 (.seq (.reg [] [⟨(some 1), .makeMap 178 none, none⟩,
 ⟨none, .insert 178 (.tmp 1) (.const (.int .u8 1)) (.const (.string ⟨#[10, 99, 97, 99, 104, 101, 32, 77, 32, 102, 119, 100, 115, 32, 45, 62, 32, 83, 32, 58, 32, 103, 105, 118, 101, 32, 99, 111, 112, 121, 10, 99, 97, 99, 104, 101, 32, 77, 73, 32, 102, 119, 100, 115, 32, 45, 62, 32, 73, 73, 32, 58, 32, 103, 105, 118, 101, 32, 99, 111, 112, 121, 10, 104, 111, 109, 101, 32, 69, 120, 32, 103, 101, 116, 115, 32, 45, 62, 32, 83, 104, 32, 58, 32, 102, 119, 100, 115, 32, 110, 111, 116, 101, 32, 98, 111, 116, 104, 32, 98, 117, 115, 121, 32, 116, 119, 105, 99, 101, 10, 10, 104, 111, 109, 101, 32, 85, 110, 32, 103, 101, 116, 115, 32, 45, 62, 32, 83, 104, 32, 58, 32, 109, 101, 109, 32, 110, 111, 116, 101, 32, 98, 117, 115, 121, 10]⟩)), none⟩,
 ⟨none, .insert 178 (.tmp 1) (.const (.int .u8 2)) (.const (.string ⟨#[10, 99, 97, 99, 104, 101, 32, 69, 32, 108, 111, 97, 100, 32, 45, 62, 32, 69, 32, 58, 32, 100, 111, 10, 99, 97, 99, 104, 101, 32, 69, 32, 115, 116, 111, 114, 101, 32, 45, 62, 32, 77, 32, 58, 32, 100, 111, 10, 99, 97, 99, 104, 101, 32, 69, 32, 101, 118, 105, 99, 116, 32, 45, 62, 32, 77, 73, 32, 58, 32, 112, 117, 116, 10, 99, 97, 99, 104, 101, 32, 69, 32, 102, 119, 100, 109, 32, 45, 62, 32, 73, 32, 58, 32, 103, 105, 118, 101, 32, 100, 114, 111, 112, 10, 99, 97, 99, 104, 101, 32, 73, 83, 32, 97, 108, 111, 110, 101, 32, 45, 62, 32, 69, 32, 58, 32, 116, 97, 107, 101, 32, 100, 111, 110, 101, 32, 100, 111, 10, 104, 111, 109, 101, 32, 85, 110, 32, 103, 101, 116, 115, 32, 45, 62, 32, 69, 120, 32, 58, 32, 97, 108, 111, 110, 101, 32, 111, 119, 110, 32, 98, 117, 115, 121, 10, 10, 99, 97, 99, 104, 101, 32, 77, 32, 102, 119, 100, 115, 32, 45, 62, 32, 83, 32, 58, 32, 103, 105, 118, 101, 32, 99, 111, 112, 121, 10, 99, 97, 99, 104, 101, 32, 77, 73, 32, 102, 119, 100, 115, 32, 45, 62, 32, 73, 73, 32, 58, 32, 103, 105, 118, 101, 32, 99, 111, 112, 121, 10, 104, 111, 109, 101, 32, 69, 120, 32, 103, 101, 116, 115, 32, 45, 62, 32, 83, 104, 32, 58, 32, 102, 119, 100, 115, 32, 110, 111, 116, 101, 32, 98, 111, 116, 104, 32, 98, 117, 115, 121, 32, 116, 119, 105, 99, 101, 10, 10, 99, 97, 99, 104, 101, 32, 69, 32, 102, 119, 100, 115, 32, 45, 62, 32, 83, 32, 58, 32, 103, 105, 118, 101, 32, 99, 111, 112, 121, 10]⟩)), none⟩,
 ⟨none, .insert 178 (.tmp 1) (.const (.int .u8 3)) (.const (.string ⟨#[10, 99, 97, 99, 104, 101, 32, 69, 32, 108, 111, 97, 100, 32, 45, 62, 32, 69, 32, 58, 32, 100, 111, 10, 99, 97, 99, 104, 101, 32, 69, 32, 115, 116, 111, 114, 101, 32, 45, 62, 32, 77, 32, 58, 32, 100, 111, 10, 99, 97, 99, 104, 101, 32, 69, 32, 101, 118, 105, 99, 116, 32, 45, 62, 32, 77, 73, 32, 58, 32, 112, 117, 116, 10, 99, 97, 99, 104, 101, 32, 69, 32, 102, 119, 100, 109, 32, 45, 62, 32, 73, 32, 58, 32, 103, 105, 118, 101, 32, 100, 114, 111, 112, 10, 99, 97, 99, 104, 101, 32, 73, 83, 32, 97, 108, 111, 110, 101, 32, 45, 62, 32, 69, 32, 58, 32, 116, 97, 107, 101, 32, 100, 111, 110, 101, 32, 100, 111, 10, 104, 111, 109, 101, 32, 85, 110, 32, 103, 101, 116, 115, 32, 45, 62, 32, 69, 120, 32, 58, 32, 97, 108, 111, 110, 101, 32, 111, 119, 110, 32, 98, 117, 115, 121, 10, 10, 99, 97, 99, 104, 101, 32, 69, 32, 102, 119, 100, 115, 32, 45, 62, 32, 79, 32, 58, 32, 103, 105, 118, 101, 10, 99, 97, 99, 104, 101, 32, 79, 32, 108, 111, 97, 100, 32, 45, 62, 32, 79, 32, 58, 32, 100, 111, 10, 99, 97, 99, 104, 101, 32, 79, 32, 115, 116, 111, 114, 101, 32, 45, 62, 32, 79, 77, 32, 58, 32, 97, 115, 107, 109, 10, 99, 97, 99, 104, 101, 32, 79, 32, 101, 118, 105, 99, 116, 32, 45, 62, 32, 77, 73, 32, 58, 32, 112, 117, 116, 10, 99, 97, 99, 104, 101, 32, 79, 32, 102, 119, 100, 115, 32, 45, 62, 32, 79, 32, 58, 32, 103, 105, 118, 101, 10, 99, 97, 99, 104, 101, 32, 79, 32, 102, 119, 100, 109, 32, 45, 62, 32, 73, 32, 58, 32, 103, 105, 118, 101, 32, 100, 114, 111, 112, 10, 99, 97, 99, 104, 101, 32, 77, 32, 102, 119, 100, 115, 32, 45, 62, 32, 79, 32, 58, 32, 103, 105, 118, 101, 10, 99, 97, 99, 104, 101, 32, 79, 77, 32, 102, 119, 100, 115, 32, 45, 62, 32, 79, 77, 32, 58, 32, 103, 105, 118, 101, 10, 99, 97, 99, 104, 101, 32, 79, 77, 32, 102, 119, 100, 109, 32, 45, 62, 32, 73, 77, 32, 58, 32, 103, 105, 118, 101, 10, 99, 97, 99, 104, 101, 32, 79, 77, 32, 103, 114, 97, 110, 116, 32, 45, 62, 32, 77, 32, 58, 32, 100, 111, 110, 101, 32, 100, 111, 10, 99, 97, 99, 104, 101, 32, 79, 77, 32, 115, 111, 111, 110, 32, 45, 62, 32, 73, 65, 10, 99, 97, 99, 104, 101, 32, 79, 77, 32, 97, 99, 107, 32, 45, 62, 32, 79, 77, 10, 99, 97, 99, 104, 101, 32, 77, 73, 32, 102, 119, 100, 115, 32, 45, 62, 32, 77, 73, 32, 58, 32, 103, 105, 118, 101, 10, 104, 111, 109, 101, 32, 69, 120, 32, 103, 101, 116, 115, 32, 45, 62, 32, 79, 119, 32, 58, 32, 102, 119, 100, 115, 32, 110, 111, 116, 101, 32, 98, 117, 115, 121, 10, 104, 111, 109, 101, 32, 79, 119, 32, 103, 101, 116, 115, 32, 45, 62, 32, 79, 119, 32, 58, 32, 102, 119, 100, 115, 32, 110, 111, 116, 101, 32, 98, 117, 115, 121, 10, 104, 111, 109, 101, 32, 79, 119, 32, 103, 101, 116, 109, 32, 45, 62, 32, 69, 120, 32, 58, 32, 105, 110, 118, 115, 32, 102, 119, 100, 109, 32, 99, 108, 101, 97, 114, 32, 111, 119, 110, 32, 98, 117, 115, 121, 10, 104, 111, 109, 101, 32, 79, 119, 32, 117, 112, 32, 45, 62, 32, 69, 120, 32, 58, 32, 105, 110, 118, 115, 32, 103, 114, 97, 110, 116, 32, 99, 108, 101, 97, 114, 32, 111, 119, 110, 32, 98, 117, 115, 121, 10, 104, 111, 109, 101, 32, 79, 119, 32, 98, 97, 99, 107, 32, 45, 62, 32, 83, 104, 32, 58, 32, 119, 114, 105, 116, 101, 32, 98, 97, 99, 107, 32, 102, 114, 101, 101, 10, 104, 111, 109, 101, 32, 79, 119, 32, 115, 116, 97, 108, 101, 32, 45, 62, 32, 79, 119, 32, 58, 32, 98, 97, 99, 107, 10]⟩)), none⟩,
 ⟨(some 2), .move (.tmp 1), none⟩,
 ⟨(some 0), .assign (.tmp 2), none⟩] 0)
 (.ret))
def fn108 : MFn := ⟨3, [.tmp 0], m108, .shut⟩
theorem fnOk108 : FnOk Tryz.prog 108 fn108 := ⟨Tryz.f108, _, kpL passing [] [[], []], Tryz.func108, rfl, by kernel_rfl, by kernel_rfl, by kernel_rfl, by kernel_rfl⟩
/- seisin/table.Holes -/
def m109_l0 : M :=
 .seq (.reg [3, 10, 11] [⟨(some 4), .alloc 148, none⟩,
 ⟨none, .store 148 (.tmp 4) (.tmp 10), none⟩] 0)
 (.reg [3, 4, 11] [⟨(some 5), .assign (.tmp 11), none⟩] 0)
def m109_l1 : M :=
 .block 1 (.seq (.reg [3, 4, 5] [⟨(some 12), .move (.tmp 5), none⟩,
 ⟨(some 13), .nilCheck (.tmp 12), none⟩,
 ⟨(some 14), .load 36 (.tmp 13), none⟩,
 ⟨(some 15), .build 36 #[], none⟩,
 ⟨(some 16), .binOp .eql 36 (.tmp 14) (.tmp 15) 36, none⟩] 0)
 (.cond (.tmp 16) (.reg [3, 4] [⟨(some 17), .load 181 (.tmp 3), none⟩,
 ⟨(some 18), .load 148 (.tmp 4), none⟩,
 ⟨(some 19), .buildSlice 181 1 #[(0, (.tmp 18))], none⟩,
 ⟨(some 20), .call ⟨.builtin .append, #[(.tmp 17), (.tmp 19)], #[181, 181]⟩, none⟩,
 ⟨none, .store 181 (.tmp 3) (.tmp 20), none⟩] 0)
 (.skip)))
def m109 : M :=
 .seq (.reg [0] [⟨(some 1), .box 42 (.tmp 0), none⟩,
 ⟨(some 2), .assign (.const (.slice none 0 0)), none⟩] 0)
 (.seq (.seq (.reg [1, 2] [⟨(some 6), .load 42 (.tmp 1), none⟩,
 ⟨(some 7), .call ⟨.value (.func 113), #[(.tmp 6)], #[42]⟩, none⟩,
 ⟨(some 8), .unOp .not 4 (.tmp 7), none⟩] 0)
 (.cond (.tmp 8) (.seq (.reg [] [⟨(some 2), .assign (.const (.slice none 0 0)), none⟩] 0)
 (.ret))
 (.skip)))
 (.seq (.reg [1, 2] [⟨(some 3), .alloc 181, none⟩] 0)
 (.seq (.seq (.reg [1, 2, 3] [⟨(some 9), .call ⟨.value (.func 147), #[(.tmp 1)], #[177]⟩, none⟩] 0)
 (.block 0 (.rf (.tmp 9) 22 [10, 11] [3] (m109_l0) (m109_l1))))
 (.seq (.reg [3] [⟨(some 21), .load 181 (.tmp 3), none⟩,
 ⟨(some 2), .assign (.tmp 21), none⟩] 0)
 (.ret)))))
def fn109 : MFn := ⟨22, [.tmp 2], m109, .shut⟩
theorem fnOk109 : FnOk Tryz.prog 109 fn109 := ⟨Tryz.f109, _, kpL passing [3] [[0], [1, 2], [], [1, 2], [1, 2, 3], [3, 10, 11], [3, 4, 11], [3, 4, 5], [3, 4], [3]], Tryz.func109, rfl, by kernel_rfl, by kernel_rfl, by kernel_rfl, by kernel_rfl⟩
/- seisin/table.Set -/
def m110_l0 : M :=
 .seq (.reg [3, 4, 5, 6, 7, 11, 12] [⟨(some 8), .alloc 148, none⟩,
 ⟨none, .store 148 (.tmp 8) (.tmp 11), none⟩] 0)
 (.reg [3, 4, 5, 6, 7, 8, 12] [⟨(some 9), .assign (.tmp 12), none⟩] 0)
def m110_l1 : M :=
 .block 1 (.seq (.reg [3, 4, 5, 6, 7, 8, 9] [⟨(some 13), .load 148 (.tmp 8), none⟩,
 ⟨(some 14), .load 148 (.tmp 4), none⟩,
 ⟨(some 15), .binOp .eql 148 (.tmp 13) (.tmp 14) 148, none⟩] 0)
 (.cond (.tmp 15) (.seq (.reg [3, 5, 6, 7, 9] [⟨(some 16), .move (.tmp 9), none⟩,
 ⟨(some 17), .load 36 (.tmp 5), none⟩,
 ⟨(some 18), .nilCheck (.tmp 16), none⟩,
 ⟨none, .store 36 (.tmp 18) (.tmp 17), none⟩] 0)
 (.seq (.reg [3, 6, 7] [⟨(some 19), .load 42 (.tmp 3), none⟩,
 ⟨none, .store 42 (.tmp 6) (.tmp 19), none⟩,
 ⟨none, .store 100 (.tmp 7) (.const (.int .i64 0)), none⟩] 0)
 (.ret)))
 (.skip)))
theorem u110_l0 {C : Ctx} {k : List It} {st : St} {Q : Ex → St → Prop} : RunK C (.code m110_l0 :: k) st Q ↔ RunK C (.code (.seq (.reg [3, 4, 5, 6, 7, 11, 12] [⟨(some 8), .alloc 148, none⟩,
 ⟨none, .store 148 (.tmp 8) (.tmp 11), none⟩] 0)
 (.reg [3, 4, 5, 6, 7, 8, 12] [⟨(some 9), .assign (.tmp 12), none⟩] 0)) :: k) st Q := Iff.rfl
theorem u110_l1 {C : Ctx} {k : List It} {st : St} {Q : Ex → St → Prop} : RunK C (.code m110_l1 :: k) st Q ↔ RunK C (.code (.block 1 (.seq (.reg [3, 4, 5, 6, 7, 8, 9] [⟨(some 13), .load 148 (.tmp 8), none⟩,
 ⟨(some 14), .load 148 (.tmp 4), none⟩,
 ⟨(some 15), .binOp .eql 148 (.tmp 13) (.tmp 14) 148, none⟩] 0)
 (.cond (.tmp 15) (.seq (.reg [3, 5, 6, 7, 9] [⟨(some 16), .move (.tmp 9), none⟩,
 ⟨(some 17), .load 36 (.tmp 5), none⟩,
 ⟨(some 18), .nilCheck (.tmp 16), none⟩,
 ⟨none, .store 36 (.tmp 18) (.tmp 17), none⟩] 0)
 (.seq (.reg [3, 6, 7] [⟨(some 19), .load 42 (.tmp 3), none⟩,
 ⟨none, .store 42 (.tmp 6) (.tmp 19), none⟩,
 ⟨none, .store 100 (.tmp 7) (.const (.int .i64 0)), none⟩] 0)
 (.ret)))
 (.skip)))) :: k) st Q := Iff.rfl
def m110 : M :=
 .seq (.reg [0, 1, 2] [⟨(some 3), .box 42 (.tmp 0), none⟩,
 ⟨(some 4), .box 148 (.tmp 1), none⟩,
 ⟨(some 5), .box 36 (.tmp 2), none⟩,
 ⟨(some 6), .alloc 42, none⟩,
 ⟨(some 7), .alloc 100, none⟩] 0)
 (.seq (.seq (.reg [3, 4, 5, 6, 7] [⟨(some 10), .call ⟨.value (.func 147), #[(.tmp 3)], #[177]⟩, none⟩] 0)
 (.block 0 (.rf (.tmp 10) 21 [11, 12] [3, 4, 5, 6, 7] (m110_l0) (m110_l1))))
 (.seq (.reg [6, 7] [⟨(some 20), .build 42 #[], none⟩,
 ⟨none, .store 42 (.tmp 6) (.tmp 20), none⟩,
 ⟨none, .store 100 (.tmp 7) (.const (.int .i64 2)), none⟩] 0)
 (.ret)))
def fn110 : MFn := ⟨21, [.cell 6 42, .cell 7 100], m110, .shut⟩
theorem fnOk110 : FnOk Tryz.prog 110 fn110 := ⟨Tryz.f110, _, kpL passing [3, 4, 5, 6, 7] [[0, 1, 2], [3, 4, 5, 6, 7], [3, 4, 5, 6, 7, 11, 12], [3, 4, 5, 6, 7, 8, 12], [3, 4, 5, 6, 7, 8, 9], [3, 5, 6, 7, 9], [3, 6, 7], [6, 7]], Tryz.func110, rfl, by kernel_rfl, by kernel_rfl, by kernel_rfl, by kernel_rfl⟩
/- seisin/sys.Right$1 -/
def m111 : M :=
 .seq (.reg [0, 1, 2] [⟨(some 6), .assign (.const (.bool false)), none⟩] 0)
 (.seq (.reg [0, 1, 2] [⟨(some 7), .move (.tmp 1), none⟩,
 ⟨(some 8), .move (.tmp 0), none⟩,
 ⟨(some 9), .binOp .leq 5 (.tmp 7) (.tmp 8) 5, none⟩,
 ⟨(some 10), .move (.tmp 9), none⟩,
 ⟨(some 11), .move (.tmp 0), (some (10, true))⟩,
 ⟨(some 12), .move (.tmp 2), (some (10, true))⟩,
 ⟨(some 13), .binOp .leq 5 (.tmp 11) (.tmp 12) 5, (some (10, true))⟩,
 ⟨(some 14), .pick (.tmp 10) (.tmp 13) (.const (.bool false)), none⟩,
 ⟨(some 6), .assign (.tmp 14), none⟩] 0)
 (.ret))
def fn111 : MFn := ⟨15, [.tmp 6], m111, .pass⟩
theorem fnOk111 : FnOk Tryz.prog 111 fn111 := ⟨Tryz.f111, _, kpL passing [] [[0, 1, 2], [0, 1, 2]], Tryz.func111, rfl, by kernel_rfl, by kernel_rfl, by kernel_rfl, by kernel_rfl⟩
/- seisin/check.Right -/
def m112_l0 : M :=
 .seq (.reg [5, 6, 7] [⟨(some 8), .binOp .lss 3 (.tmp 7) (.tmp 6) 3, none⟩] 0)
 (.seq (.cond (.tmp 8) (.skip)
 (.exit 0))
 (.seq (.block 1 (.seq (.reg [5, 6, 7] [⟨(some 9), .indexAddr 235 (.tmp 5) (.tmp 7), none⟩,
 ⟨(some 10), .load 239 (.tmp 9), none⟩,
 ⟨(some 4), .alloc 239, none⟩,
 ⟨none, .store 239 (.tmp 4) (.tmp 10), none⟩] 0)
 (.seq (.reg [4, 5, 6, 7] [⟨(some 11), .fieldAddr 239 (.tmp 4) 1, none⟩,
 ⟨(some 12), .load 47 (.tmp 11), none⟩,
 ⟨(some 13), .call ⟨.value (.tmp 12), #[], #[]⟩, none⟩,
 ⟨(some 14), .unOp .not 4 (.tmp 13), none⟩] 0)
 (.cond (.tmp 14) (.seq (.reg [4] [⟨(some 15), .fieldAddr 239 (.tmp 4) 0, none⟩,
 ⟨(some 16), .load 100 (.tmp 15), none⟩,
 ⟨(some 2), .assign (.tmp 16), none⟩] 0)
 (.ret))
 (.skip)))))
 (.reg [5, 6, 7] [⟨(some 17), .binOp .add 3 (.tmp 7) (.const (.int .i64 1)) 3, none⟩,
 ⟨(some 7), .move (.tmp 17), none⟩] 0)))
def m112 : M :=
 .seq (.reg [0] [⟨(some 1), .box 29 (.tmp 0), none⟩,
 ⟨(some 2), .assign (.const (.int .i64 0)), none⟩] 0)
 (.seq (.seq (.reg [1] [⟨(some 5), .call ⟨.value (.func 148), #[(.tmp 1)], #[237]⟩, none⟩,
 ⟨(some 6), .call ⟨.builtin .len, #[(.tmp 5)], #[235]⟩, none⟩,
 ⟨(some 7), .move (.const (.int .i64 0)), none⟩] 0)
 (.block 0 (.loop (m112_l0))))
 (.seq (.reg [] [⟨(some 2), .assign (.const (.int .i64 0)), none⟩] 0)
 (.ret)))
def fn112 : MFn := ⟨18, [.tmp 2], m112, .shut⟩
theorem fnOk112 : FnOk Tryz.prog 112 fn112 := ⟨Tryz.f112, _, kpL passing [] [[0], [1], [5, 6, 7], [5, 6, 7], [4, 5, 6, 7], [4], [5, 6, 7], []], Tryz.func112, rfl, by kernel_rfl, by kernel_rfl, by kernel_rfl, by kernel_rfl⟩
/- seisin/spec.Right -/
def m113_l0 : M :=
 .reg [1, 2, 9] [⟨(some 3), .alloc 225, none⟩,
 ⟨none, .store 225 (.tmp 3) (.tmp 9), none⟩] 0
def m113_l1 : M :=
 .block 1 (.seq (.seq (.reg [1, 2, 3] [⟨(some 10), .fieldAddr 225 (.tmp 3) 0, none⟩,
 ⟨(some 11), .load 206 (.tmp 10), none⟩] 2)
 (.seq (.ops [⟨(some 12), .load 225 (.tmp 3), none⟩])
 (.seq (.again [⟨(some 11), .load 206 (.tmp 10), none⟩])
 (.seq (.ops [⟨(some 13), .call ⟨.value (.func 146), #[(.tmp 12), (.tmp 1)], #[225, 177]⟩, none⟩])
 (.seq (.again [⟨(some 11), .load 206 (.tmp 10), none⟩])
 (.seq (.ops [⟨(some 14), .nilCheck (.tmp 13), none⟩])
 (.seq (.again [⟨(some 11), .load 206 (.tmp 10), none⟩])
 (.seq (.ops [⟨(some 15), .load 36 (.tmp 14), none⟩])
 (.seq (.again [⟨(some 11), .load 206 (.tmp 10), none⟩])
 (.seq (.ops [⟨(some 16), .call ⟨.value (.func 150), #[(.tmp 11), (.tmp 15)], #[206, 36]⟩, none⟩])
 (.seq (.again [])
 (.seq (.ops [⟨(some 17), .unOp .not 4 (.tmp 16), none⟩])
 (.seq (.again [])
 (.skip))))))))))))))
 (.cond (.tmp 17) (.seq (.reg [2] [⟨none, .store 4 (.tmp 2) (.const (.bool false)), none⟩] 0)
 (.ret))
 (.skip)))
def m113 : M :=
 .seq (.reg [0] [⟨(some 1), .box 42 (.tmp 0), none⟩,
 ⟨(some 2), .alloc 4, none⟩] 0)
 (.seq (.seq (.reg [1, 2] [⟨(some 4), .fieldAddr 42 (.tmp 1) 0, none⟩,
 ⟨(some 5), .load 9 (.tmp 4), none⟩,
 ⟨(some 6), .call ⟨.value (.func 106), #[(.tmp 5)], #[9]⟩, none⟩,
 ⟨(some 7), .unOp .not 4 (.tmp 6), none⟩] 0)
 (.cond (.tmp 7) (.seq (.reg [2] [⟨none, .store 4 (.tmp 2) (.const (.bool false)), none⟩] 0)
 (.ret))
 (.skip)))
 (.seq (.seq (.reg [1, 2] [⟨(some 8), .call ⟨.value (.func 149), #[], #[]⟩, none⟩] 0)
 (.block 0 (.rf (.tmp 8) 18 [9] [1, 2] (m113_l0) (m113_l1))))
 (.seq (.reg [2] [⟨none, .store 4 (.tmp 2) (.const (.bool true)), none⟩] 0)
 (.ret))))
def fn113 : MFn := ⟨18, [.cell 2 4], m113, .shut⟩
theorem fnOk113 : FnOk Tryz.prog 113 fn113 := ⟨Tryz.f113, _, kpL passing [1, 2] [[0], [1, 2], [2], [1, 2], [1, 2, 9], [1, 2, 3], [2], [2]], Tryz.func113, rfl, by kernel_rfl, by kernel_rfl, by kernel_rfl, by kernel_rfl⟩
/- seisin/tags.New -/
def m114_l0 : M :=
 .seq (.reg [4, 6, 7, 22, 23] [⟨(some 24), .binOp .lss 3 (.tmp 23) (.tmp 22) 3, none⟩] 0)
 (.seq (.cond (.tmp 24) (.skip)
 (.exit 0))
 (.seq (.block 1 (.seq (.reg [4, 6, 7, 22, 23] [⟨(some 25), .move (.tmp 23), none⟩,
 ⟨(some 8), .assign (.tmp 25), none⟩] 0)
 (.reg [4, 6, 7, 8, 22, 23] [⟨(some 26), .move (.tmp 8), none⟩,
 ⟨(some 27), .load 87 (.tmp 6), none⟩,
 ⟨(some 28), .fieldAddr 90 (.tmp 7) 1, none⟩,
 ⟨(some 29), .indexAddr 88 (.tmp 28) (.tmp 26), none⟩,
 ⟨none, .store 87 (.tmp 29) (.tmp 27), none⟩] 0)))
 (.reg [4, 6, 7, 22, 23] [⟨(some 30), .binOp .add 3 (.tmp 23) (.const (.int .i64 1)) 3, none⟩,
 ⟨(some 23), .move (.tmp 30), none⟩] 0)))
def m114 : M :=
 .seq (.reg [0, 1] [⟨(some 2), .box 31 (.tmp 0), none⟩,
 ⟨(some 4), .alloc 90, none⟩,
 ⟨(some 5), .assign (.const (.int .i64 0)), none⟩] 0)
 (.seq (.seq (.reg [1, 2, 4] [⟨(some 9), .load 31 (.tmp 2), none⟩,
 ⟨(some 10), .call ⟨.value (.func 28), #[(.tmp 9)], #[31]⟩, none⟩,
 ⟨(some 11), .unOp .not 4 (.tmp 10), none⟩] 0)
 (.cond (.tmp 11) (.seq (.reg [4] [⟨(some 12), .build 90 #[], none⟩,
 ⟨none, .store 90 (.tmp 4) (.tmp 12), none⟩,
 ⟨(some 5), .assign (.const (.int .i64 160)), none⟩] 0)
 (.ret))
 (.skip)))
 (.seq (.reg [1, 2, 4] [⟨(some 13), .move (.tmp 1), none⟩,
 ⟨(some 14), .fieldAddr 31 (.tmp 2) 4, none⟩,
 ⟨(some 15), .load 3 (.tmp 14), none⟩,
 ⟨(some 16), .call ⟨.value (.func 151), #[(.tmp 13), (.tmp 15)], #[5, 3]⟩, none⟩,
 ⟨(some 6), .alloc 87, none⟩,
 ⟨none, .store 87 (.tmp 6) (.tmp 16), none⟩] 0)
 (.seq (.seq (.reg [2, 4, 6] [⟨(some 17), .load 87 (.tmp 6), none⟩,
 ⟨(some 18), .build 87 #[], none⟩,
 ⟨(some 19), .binOp .eql 87 (.tmp 17) (.tmp 18) 87, none⟩] 0)
 (.cond (.tmp 19) (.seq (.reg [4] [⟨(some 20), .build 90 #[], none⟩,
 ⟨none, .store 90 (.tmp 4) (.tmp 20), none⟩,
 ⟨(some 5), .assign (.const (.int .i64 2)), none⟩] 0)
 (.ret))
 (.skip)))
 (.seq (.reg [2, 4, 6] [⟨(some 7), .alloc 90, none⟩] 0)
 (.seq (.seq (.reg [2, 4, 6, 7] [⟨(some 21), .fieldAddr 31 (.tmp 2) 3, none⟩,
 ⟨(some 22), .load 3 (.tmp 21), none⟩,
 ⟨(some 23), .move (.const (.int .i64 0)), none⟩] 0)
 (.block 0 (.loop (m114_l0))))
 (.seq (.reg [4, 7] [⟨(some 31), .load 90 (.tmp 7), none⟩,
 ⟨none, .store 90 (.tmp 4) (.tmp 31), none⟩,
 ⟨(some 5), .assign (.const (.int .i64 0)), none⟩] 0)
 (.ret)))))))
def fn114 : MFn := ⟨32, [.cell 4 90, .tmp 5], m114, .pass⟩
theorem fnOk114 : FnOk Tryz.prog 114 fn114 := ⟨Tryz.f114, _, kpL passing [] [[0, 1], [1, 2, 4], [4], [1, 2, 4], [2, 4, 6], [4], [2, 4, 6], [2, 4, 6, 7], [4, 6, 7, 22, 23], [4, 6, 7, 22, 23], [4, 6, 7, 8, 22, 23], [4, 6, 7, 22, 23], [4, 7]], Tryz.func114, rfl, by kernel_rfl, by kernel_rfl, by kernel_rfl, by kernel_rfl⟩
/- (seisin/geo.place).locs -/
def m115 : M :=
 .seq (.reg [0, 1] [⟨(some 2), .box 127 (.tmp 0), none⟩,
 ⟨(some 3), .box 5 (.tmp 1), none⟩,
 ⟨(some 4), .assign (.const .nilFunc), none⟩] 0)
 (.seq (.reg [2, 3] [⟨(some 5), .makeFunc (.func 152) #[] #[(.tmp 2), (.tmp 3)], none⟩,
 ⟨(some 4), .assign (.tmp 5), none⟩] 0)
 (.ret))
def fn115 : MFn := ⟨6, [.tmp 4], m115, .shut⟩
theorem fnOk115 : FnOk Tryz.prog 115 fn115 := ⟨Tryz.f115, _, kpL passing [] [[0, 1], [2, 3]], Tryz.func115, rfl, by kernel_rfl, by kernel_rfl, by kernel_rfl, by kernel_rfl⟩
/- (seisin/geo.place).word -/
def m116 : M :=
 .seq (.reg [0, 1] [⟨(some 2), .box 127 (.tmp 0), none⟩,
 ⟨(some 4), .assign (.const (.int .u8 0)), none⟩] 0)
 (.seq (.reg [1, 2] [⟨(some 5), .move (.tmp 1), none⟩,
 ⟨(some 6), .fieldAddr 127 (.tmp 2) 0, none⟩,
 ⟨(some 7), .fieldAddr 31 (.tmp 6) 2, none⟩,
 ⟨(some 8), .load 3 (.tmp 7), none⟩,
 ⟨(some 9), .convert 3 5 (.tmp 8), none⟩,
 ⟨(some 10), .binOp .rem 5 (.tmp 5) (.tmp 9) 5, none⟩,
 ⟨(some 4), .assign (.tmp 10), none⟩] 0)
 (.ret))
def fn116 : MFn := ⟨11, [.tmp 4], m116, .shut⟩
theorem fnOk116 : FnOk Tryz.prog 116 fn116 := ⟨Tryz.f116, _, kpL passing [] [[0, 1], [1, 2]], Tryz.func116, rfl, by kernel_rfl, by kernel_rfl, by kernel_rfl, by kernel_rfl⟩
/- seisin/view.New -/
def m117 : M :=
 .seq (.reg [0, 1] [⟨(some 4), .alloc 61, none⟩] 0)
 (.seq (.seq (.reg [0, 1, 4] [⟨(some 5), .move (.tmp 0), none⟩,
 ⟨(some 6), .call ⟨.value (.func 124), #[(.tmp 5)], #[5]⟩, none⟩,
 ⟨(some 7), .unOp .not 4 (.tmp 6), none⟩,
 ⟨(some 8), .move (.tmp 7), none⟩,
 ⟨(some 9), .move (.tmp 1), (some (8, false))⟩,
 ⟨(some 10), .call ⟨.value (.func 92), #[(.tmp 9)], #[3]⟩, (some (8, false))⟩,
 ⟨(some 11), .unOp .not 4 (.tmp 10), (some (8, false))⟩,
 ⟨(some 12), .pick (.tmp 8) (.const (.bool true)) (.tmp 11), none⟩] 0)
 (.cond (.tmp 12) (.seq (.reg [4] [⟨(some 13), .build 61 #[], none⟩,
 ⟨none, .store 61 (.tmp 4) (.tmp 13), none⟩] 0)
 (.ret))
 (.skip)))
 (.seq (.reg [0, 4] [⟨(some 14), .move (.tmp 0), none⟩,
 ⟨(some 15), .build 61 #[(0, (.tmp 14))], none⟩,
 ⟨none, .store 61 (.tmp 4) (.tmp 15), none⟩] 0)
 (.ret)))
def fn117 : MFn := ⟨16, [.cell 4 61], m117, .pass⟩
theorem fnOk117 : FnOk Tryz.prog 117 fn117 := ⟨Tryz.f117, _, kpL passing [] [[0, 1], [0, 1, 4], [4], [0, 4]], Tryz.func117, rfl, by kernel_rfl, by kernel_rfl, by kernel_rfl, by kernel_rfl⟩
/- (seisin/tags.frame).first -/
def m118_l0 : M :=
 .seq (.reg [7, 8, 9, 16, 17] [⟨(some 10), .assign (.tmp 16), none⟩] 0)
 (.reg [7, 8, 9, 10, 17] [⟨(some 11), .alloc 83, none⟩,
 ⟨none, .store 83 (.tmp 11) (.tmp 17), none⟩] 0)
def m118_l1 : M :=
 .block 1 (.seq (.reg [7, 8, 9, 10, 11] [⟨(some 18), .load 164 (.tmp 7), none⟩,
 ⟨(some 19), .load 83 (.tmp 11), none⟩,
 ⟨(some 20), .call ⟨.value (.tmp 18), #[(.tmp 19)], #[83]⟩, none⟩] 0)
 (.cond (.tmp 20) (.seq (.reg [8, 9, 10] [⟨(some 21), .move (.tmp 10), none⟩,
 ⟨none, .store 3 (.tmp 8) (.tmp 21), none⟩,
 ⟨none, .store 4 (.tmp 9) (.const (.bool true)), none⟩] 0)
 (.ret))
 (.skip)))
def m118 : M :=
 .seq (.reg [0, 1, 2, 3] [⟨(some 4), .box 122 (.tmp 0), none⟩,
 ⟨(some 7), .box 164 (.tmp 3), none⟩,
 ⟨(some 8), .alloc 3, none⟩,
 ⟨(some 9), .alloc 4, none⟩] 0)
 (.seq (.seq (.reg [1, 2, 4, 7, 8, 9] [⟨(some 12), .load 122 (.tmp 4), none⟩,
 ⟨(some 13), .move (.tmp 1), none⟩,
 ⟨(some 14), .move (.tmp 2), none⟩,
 ⟨(some 15), .call ⟨.value (.func 153), #[(.tmp 12), (.tmp 13), (.tmp 14)], #[122, 194, 3]⟩, none⟩] 0)
 (.block 0 (.rf (.tmp 15) 22 [16, 17] [7, 8, 9] (m118_l0) (m118_l1))))
 (.seq (.reg [8, 9] [⟨none, .store 3 (.tmp 8) (.const (.int .i64 0)), none⟩,
 ⟨none, .store 4 (.tmp 9) (.const (.bool false)), none⟩] 0)
 (.ret)))
def fn118 : MFn := ⟨22, [.cell 8 3, .cell 9 4], m118, .shut⟩
theorem fnOk118 : FnOk Tryz.prog 118 fn118 := ⟨Tryz.f118, _, kpL passing [7, 8, 9] [[0, 1, 2, 3], [1, 2, 4, 7, 8, 9], [7, 8, 9, 16, 17], [7, 8, 9, 10, 17], [7, 8, 9, 10, 11], [8, 9, 10], [8, 9]], Tryz.func118, rfl, by kernel_rfl, by kernel_rfl, by kernel_rfl, by kernel_rfl⟩
/- seisin/tags.holds -/
def m119 : M :=
 .seq (.reg [0] [⟨(some 1), .box 5 (.tmp 0), none⟩,
 ⟨(some 2), .assign (.const .nilFunc), none⟩] 0)
 (.seq (.reg [1] [⟨(some 3), .makeFunc (.func 154) #[] #[(.tmp 1)], none⟩,
 ⟨(some 2), .assign (.tmp 3), none⟩] 0)
 (.ret))
def fn119 : MFn := ⟨4, [.tmp 2], m119, .shut⟩
theorem fnOk119 : FnOk Tryz.prog 119 fn119 := ⟨Tryz.f119, _, kpL passing [] [[0], [1]], Tryz.func119, rfl, by kernel_rfl, by kernel_rfl, by kernel_rfl, by kernel_rfl⟩
/- (seisin/tags.frame).slots$1 -/
def m120_l1 : M :=
 .seq (.reg [0, 1, 3, 7, 8, 13, 14] [⟨(some 15), .binOp .lss 3 (.tmp 14) (.tmp 13) 3, none⟩] 0)
 (.seq (.cond (.tmp 15) (.skip)
 (.exit 2))
 (.seq (.block 3 (.seq (.reg [0, 1, 3, 7, 8, 13, 14] [⟨(some 16), .move (.tmp 14), none⟩,
 ⟨(some 4), .assign (.tmp 16), none⟩] 0)
 (.seq (.reg [0, 1, 3, 4, 7, 8, 13, 14] [⟨(some 17), .move (.tmp 0), none⟩,
 ⟨(some 18), .move (.tmp 3), none⟩,
 ⟨(some 19), .move (.tmp 4), none⟩,
 ⟨(some 20), .call ⟨.value (.tmp 17), #[(.tmp 18), (.tmp 19)], #[3, 3]⟩, none⟩,
 ⟨(some 21), .unOp .not 4 (.tmp 20), none⟩] 0)
 (.cond (.tmp 21) (.ret)
 (.skip)))))
 (.reg [0, 1, 3, 7, 8, 13, 14] [⟨(some 22), .binOp .add 3 (.tmp 14) (.const (.int .i64 1)) 3, none⟩,
 ⟨(some 14), .move (.tmp 22), none⟩] 0)))
def m120_l0 : M :=
 .seq (.reg [0, 1, 7, 8] [⟨(some 9), .binOp .lss 3 (.tmp 8) (.tmp 7) 3, none⟩] 0)
 (.seq (.cond (.tmp 9) (.skip)
 (.exit 0))
 (.seq (.block 1 (.seq (.reg [0, 1, 7, 8] [⟨(some 10), .move (.tmp 8), none⟩,
 ⟨(some 3), .assign (.tmp 10), none⟩] 0)
 (.seq (.reg [0, 1, 3, 7, 8] [⟨(some 11), .fieldAddr 122 (.tmp 1) 0, none⟩,
 ⟨(some 12), .fieldAddr 31 (.tmp 11) 4, none⟩,
 ⟨(some 13), .load 3 (.tmp 12), none⟩,
 ⟨(some 14), .move (.const (.int .i64 0)), none⟩] 0)
 (.block 2 (.loop (m120_l1))))))
 (.reg [0, 1, 7, 8] [⟨(some 23), .binOp .add 3 (.tmp 8) (.const (.int .i64 1)) 3, none⟩,
 ⟨(some 8), .move (.tmp 23), none⟩] 0)))
def m120 : M :=
 .seq (.reg [0, 1] [⟨(some 5), .fieldAddr 122 (.tmp 1) 0, none⟩,
 ⟨(some 6), .fieldAddr 31 (.tmp 5) 3, none⟩,
 ⟨(some 7), .load 3 (.tmp 6), none⟩,
 ⟨(some 8), .move (.const (.int .i64 0)), none⟩] 0)
 (.block 0 (.loop (m120_l0)))
def fn120 : MFn := ⟨24, [], m120, .pass⟩
theorem fnOk120 : FnOk Tryz.prog 120 fn120 := ⟨Tryz.f120, _, kpL passing [] [[0, 1], [0, 1, 7, 8], [0, 1, 7, 8], [0, 1, 3, 7, 8], [0, 1, 3, 7, 8, 13, 14], [0, 1, 3, 7, 8, 13, 14], [0, 1, 3, 4, 7, 8, 13, 14], [0, 1, 3, 7, 8, 13, 14], [0, 1, 7, 8]], Tryz.func120, rfl, by kernel_rfl, by kernel_rfl, by kernel_rfl, by kernel_rfl⟩
/- seisin/geo.Set -/
def m121 : M :=
 .seq (.reg [0, 1] [⟨(some 2), .box 31 (.tmp 0), none⟩,
 ⟨(some 4), .assign (.const (.int .u8 0)), none⟩] 0)
 (.seq (.reg [1, 2] [⟨(some 8), .load 31 (.tmp 2), none⟩,
 ⟨(some 9), .call ⟨.value (.func 55), #[(.tmp 8)], #[31]⟩, none⟩,
 ⟨(some 7), .move (.tmp 9), none⟩,
 ⟨(some 10), .extract (.tmp 7) 0, none⟩,
 ⟨(some 11), .extract (.tmp 7) 1, none⟩,
 ⟨(some 5), .alloc 127, none⟩,
 ⟨none, .store 127 (.tmp 5) (.tmp 10), none⟩,
 ⟨(some 6), .assign (.tmp 11), none⟩] 0)
 (.seq (.seq (.reg [1, 5, 6] [⟨(some 12), .move (.tmp 6), none⟩,
 ⟨(some 13), .unOp .not 4 (.tmp 12), none⟩] 0)
 (.cond (.tmp 13) (.seq (.reg [] [⟨(some 4), .assign (.const (.int .u8 0)), none⟩] 0)
 (.ret))
 (.skip)))
 (.seq (.reg [1, 5] [⟨(some 14), .move (.tmp 1), none⟩,
 ⟨(some 15), .fieldAddr 127 (.tmp 5) 0, none⟩,
 ⟨(some 16), .fieldAddr 31 (.tmp 15) 3, none⟩,
 ⟨(some 17), .load 3 (.tmp 16), none⟩,
 ⟨(some 18), .convert 3 5 (.tmp 17), none⟩,
 ⟨(some 19), .binOp .rem 5 (.tmp 14) (.tmp 18) 5, none⟩,
 ⟨(some 4), .assign (.tmp 19), none⟩] 0)
 (.ret))))
def fn121 : MFn := ⟨20, [.tmp 4], m121, .shut⟩
theorem fnOk121 : FnOk Tryz.prog 121 fn121 := ⟨Tryz.f121, _, kpL passing [] [[0, 1], [1, 2], [1, 5, 6], [], [1, 5]], Tryz.func121, rfl, by kernel_rfl, by kernel_rfl, by kernel_rfl, by kernel_rfl⟩
/- seisin/repl.ordered -/
def m122_l0 : M :=
 .seq (.reg [1, 3, 7, 8] [⟨(some 9), .binOp .lss 3 (.tmp 8) (.const (.int .i64 4)) 3, none⟩] 0)
 (.seq (.cond (.tmp 9) (.skip)
 (.exit 0))
 (.seq (.block 1 (.seq (.reg [1, 3, 7, 8] [⟨(some 10), .move (.tmp 8), none⟩,
 ⟨(some 11), .index 62 (.tmp 7) (.tmp 8), none⟩,
 ⟨(some 4), .assign (.tmp 10), none⟩,
 ⟨(some 5), .assign (.tmp 11), none⟩] 0)
 (.block 2 (.seq (.reg [1, 3, 4, 5, 7, 8] [⟨(some 17), .move (.tmp 4), none⟩,
 ⟨(some 18), .fieldAddr 87 (.tmp 1) 1, none⟩,
 ⟨(some 19), .load 3 (.tmp 18), none⟩,
 ⟨(some 20), .binOp .geq 3 (.tmp 17) (.tmp 19) 3, none⟩,
 ⟨(some 16), .assign (.tmp 20), none⟩] 0)
 (.cond (.tmp 16) (.seq (.reg [1, 3, 5, 7, 8] [⟨(some 21), .move (.tmp 5), none⟩,
 ⟨(some 22), .binOp .neq 5 (.tmp 21) (.const (.int .u8 0)) 5, none⟩] 0)
 (.cond (.tmp 22) (.seq (.reg [] [⟨(some 2), .assign (.const (.bool false)), none⟩] 0)
 (.ret))
 (.skip)))
 (.seq (.reg [1, 3, 5, 7, 8] [⟨(some 24), .move (.tmp 5), none⟩,
 ⟨(some 25), .convert 5 3 (.tmp 24), none⟩,
 ⟨(some 26), .fieldAddr 87 (.tmp 1) 1, none⟩,
 ⟨(some 27), .load 3 (.tmp 26), none⟩,
 ⟨(some 28), .binOp .geq 3 (.tmp 25) (.tmp 27) 3, none⟩,
 ⟨(some 29), .move (.tmp 28), none⟩,
 ⟨(some 30), .move (.tmp 3), (some (29, false))⟩,
 ⟨(some 31), .move (.tmp 5), (some (29, false))⟩,
 ⟨(some 32), .binOp .shl 59 (.const (.int .u64 1)) (.tmp 31) 5, (some (29, false))⟩,
 ⟨(some 33), .binOp .and 59 (.tmp 30) (.tmp 32) 59, (some (29, false))⟩,
 ⟨(some 34), .binOp .neq 59 (.tmp 33) (.const (.int .u64 0)) 59, (some (29, false))⟩,
 ⟨(some 35), .pick (.tmp 29) (.const (.bool true)) (.tmp 34), none⟩,
 ⟨(some 23), .assign (.tmp 35), none⟩] 0)
 (.cond (.tmp 23) (.seq (.reg [] [⟨(some 2), .assign (.const (.bool false)), none⟩] 0)
 (.ret))
 (.reg [1, 3, 5, 7, 8] [⟨(some 12), .move (.tmp 3), none⟩,
 ⟨(some 13), .move (.tmp 5), none⟩,
 ⟨(some 14), .binOp .shl 59 (.const (.int .u64 1)) (.tmp 13) 5, none⟩,
 ⟨(some 15), .binOp .or 59 (.tmp 12) (.tmp 14) 59, none⟩,
 ⟨(some 3), .assign (.tmp 15), none⟩] 0))))))))
 (.reg [1, 3, 7, 8] [⟨(some 36), .binOp .add 3 (.tmp 8) (.const (.int .i64 1)) 3, none⟩,
 ⟨(some 8), .move (.tmp 36), none⟩] 0)))
def m122 : M :=
 .seq (.reg [0] [⟨(some 1), .box 87 (.tmp 0), none⟩,
 ⟨(some 2), .assign (.const (.bool false)), none⟩] 0)
 (.seq (.reg [1] [⟨(some 3), .assign (.const (.int .u64 0)), none⟩] 0)
 (.seq (.seq (.reg [1, 3] [⟨(some 6), .fieldAddr 87 (.tmp 1) 2, none⟩,
 ⟨(some 7), .load 62 (.tmp 6), none⟩,
 ⟨(some 8), .move (.const (.int .i64 0)), none⟩] 0)
 (.block 0 (.loop (m122_l0))))
 (.seq (.reg [] [⟨(some 2), .assign (.const (.bool true)), none⟩] 0)
 (.ret))))
def fn122 : MFn := ⟨37, [.tmp 2], m122, .shut⟩
theorem fnOk122 : FnOk Tryz.prog 122 fn122 := ⟨Tryz.f122, _, kpL passing [] [[0], [1], [1, 3], [1, 3, 7, 8], [1, 3, 7, 8], [1, 3, 5, 7, 8], [1, 3, 4, 5, 7, 8], [1, 3, 5, 7, 8], [], [1, 3, 5, 7, 8], [], [1, 3, 7, 8], []], Tryz.func122, rfl, by kernel_rfl, by kernel_rfl, by kernel_rfl, by kernel_rfl⟩
/- (seisin/geo.place).among -/
def m123 : M :=
 .seq (.reg [0, 1, 2] [⟨(some 3), .box 127 (.tmp 0), none⟩,
 ⟨(some 4), .box 3 (.tmp 1), none⟩,
 ⟨(some 5), .box 3 (.tmp 2), none⟩,
 ⟨(some 6), .assign (.const .nilFunc), none⟩] 0)
 (.seq (.reg [4, 5] [⟨(some 7), .makeFunc (.func 155) #[] #[(.tmp 4), (.tmp 5)], none⟩,
 ⟨(some 6), .assign (.tmp 7), none⟩] 0)
 (.ret))
def fn123 : MFn := ⟨8, [.tmp 6], m123, .shut⟩
theorem fnOk123 : FnOk Tryz.prog 123 fn123 := ⟨Tryz.f123, _, kpL passing [] [[0, 1, 2], [4, 5]], Tryz.func123, rfl, by kernel_rfl, by kernel_rfl, by kernel_rfl, by kernel_rfl⟩
/- seisin/view.known -/
def m124 : M :=
 .seq (.reg [0] [⟨(some 2), .assign (.const (.bool false)), none⟩] 0)
 (.seq (.reg [0] [⟨(some 3), .move (.tmp 0), none⟩,
 ⟨(some 4), .binOp .eql 5 (.tmp 3) (.const (.int .u8 1)) 5, none⟩,
 ⟨(some 5), .move (.tmp 4), none⟩,
 ⟨(some 6), .move (.tmp 0), (some (5, false))⟩,
 ⟨(some 7), .binOp .eql 5 (.tmp 6) (.const (.int .u8 2)) 5, (some (5, false))⟩,
 ⟨(some 8), .pick (.tmp 5) (.const (.bool true)) (.tmp 7), none⟩,
 ⟨(some 9), .move (.tmp 8), none⟩,
 ⟨(some 10), .move (.tmp 0), (some (9, false))⟩,
 ⟨(some 11), .binOp .eql 5 (.tmp 10) (.const (.int .u8 3)) 5, (some (9, false))⟩,
 ⟨(some 12), .pick (.tmp 9) (.const (.bool true)) (.tmp 11), none⟩,
 ⟨(some 2), .assign (.tmp 12), none⟩] 0)
 (.ret))
def fn124 : MFn := ⟨13, [.tmp 2], m124, .shut⟩
theorem fnOk124 : FnOk Tryz.prog 124 fn124 := ⟨Tryz.f124, _, kpL passing [] [[0], [0]], Tryz.func124, rfl, by kernel_rfl, by kernel_rfl, by kernel_rfl, by kernel_rfl⟩
/- (*seisin/inv.scene).count -/
def m126_l0 : M :=
 .seq (.reg [1, 5, 11, 12, 13] [⟨(some 14), .binOp .lss 3 (.tmp 13) (.tmp 12) 3, none⟩] 0)
 (.seq (.cond (.tmp 14) (.skip)
 (.exit 0))
 (.seq (.block 1 (.seq (.reg [1, 5, 11, 12, 13] [⟨(some 15), .indexAddr 67 (.tmp 11) (.tmp 13), none⟩,
 ⟨(some 16), .load 77 (.tmp 15), none⟩,
 ⟨(some 7), .alloc 77, none⟩,
 ⟨none, .store 77 (.tmp 7) (.tmp 16), none⟩] 0)
 (.seq (.reg [1, 5, 7, 11, 12, 13] [⟨(some 17), .move (.tmp 1), none⟩,
 ⟨(some 18), .load 77 (.tmp 7), none⟩,
 ⟨(some 19), .call ⟨.value (.tmp 17), #[(.tmp 18)], #[77]⟩, none⟩] 0)
 (.cond (.tmp 19) (.reg [1, 5, 11, 12, 13] [⟨(some 20), .move (.tmp 5), none⟩,
 ⟨(some 21), .binOp .add 3 (.tmp 20) (.const (.int .i64 1)) 3, none⟩,
 ⟨(some 5), .assign (.tmp 21), none⟩] 0)
 (.skip)))))
 (.reg [1, 5, 11, 12, 13] [⟨(some 22), .binOp .add 3 (.tmp 13) (.const (.int .i64 1)) 3, none⟩,
 ⟨(some 13), .move (.tmp 22), none⟩] 0)))
def m126 : M :=
 .seq (.reg [0, 1] [⟨(some 4), .assign (.const (.int .i64 0)), none⟩] 0)
 (.seq (.reg [0, 1] [⟨(some 5), .assign (.const (.int .i64 0)), none⟩] 0)
 (.seq (.seq (.reg [0, 1, 5] [⟨(some 8), .move (.tmp 0), none⟩,
 ⟨(some 9), .nilCheck (.tmp 8), none⟩,
 ⟨(some 10), .fieldAddr 108 (.tmp 9) 4, none⟩,
 ⟨(some 11), .load 67 (.tmp 10), none⟩,
 ⟨(some 12), .call ⟨.builtin .len, #[(.tmp 11)], #[67]⟩, none⟩,
 ⟨(some 13), .move (.const (.int .i64 0)), none⟩] 0)
 (.block 0 (.loop (m126_l0))))
 (.seq (.reg [5] [⟨(some 23), .move (.tmp 5), none⟩,
 ⟨(some 4), .assign (.tmp 23), none⟩] 0)
 (.ret))))
def fn126 : MFn := ⟨24, [.tmp 4], m126, .pass⟩
theorem fnOk126 : FnOk Tryz.prog 126 fn126 := ⟨Tryz.f126, _, kpL passing [] [[0, 1], [0, 1], [0, 1, 5], [1, 5, 11, 12, 13], [1, 5, 11, 12, 13], [1, 5, 7, 11, 12, 13], [1, 5, 11, 12, 13], [1, 5, 11, 12, 13], [5]], Tryz.func126, rfl, by kernel_rfl, by kernel_rfl, by kernel_rfl, by kernel_rfl⟩
/- (*seisin/inv.scene).acks$1 -/
def m127 : M :=
 .seq (.reg [0, 1] [⟨(some 2), .box 77 (.tmp 0), none⟩,
 ⟨(some 3), .assign (.const (.bool false)), none⟩] 0)
 (.seq (.reg [1, 2] [⟨(some 4), .fieldAddr 77 (.tmp 2) 0, none⟩,
 ⟨(some 5), .load 5 (.tmp 4), none⟩,
 ⟨(some 6), .binOp .eql 5 (.tmp 5) (.const (.int .u8 8)) 5, none⟩,
 ⟨(some 7), .move (.tmp 6), none⟩,
 ⟨(some 8), .fieldAddr 77 (.tmp 2) 4, (some (7, true))⟩,
 ⟨(some 9), .load 5 (.tmp 8), (some (7, true))⟩,
 ⟨(some 10), .load 5 (.tmp 1), (some (7, true))⟩,
 ⟨(some 11), .binOp .eql 5 (.tmp 9) (.tmp 10) 5, (some (7, true))⟩,
 ⟨(some 12), .pick (.tmp 7) (.tmp 11) (.const (.bool false)), none⟩,
 ⟨(some 13), .move (.tmp 12), none⟩,
 ⟨(some 14), .fieldAddr 77 (.tmp 2) 0, (some (13, false))⟩,
 ⟨(some 15), .load 5 (.tmp 14), (some (13, false))⟩,
 ⟨(some 16), .binOp .eql 5 (.tmp 15) (.const (.int .u8 12)) 5, (some (13, false))⟩,
 ⟨(some 17), .move (.tmp 16), (some (13, false))⟩,
 ⟨(some 18), .fieldAddr 77 (.tmp 2) 2, (some (17, true))⟩,
 ⟨(some 19), .load 5 (.tmp 18), (some (17, true))⟩,
 ⟨(some 20), .load 5 (.tmp 1), (some (17, true))⟩,
 ⟨(some 21), .binOp .eql 5 (.tmp 19) (.tmp 20) 5, (some (17, true))⟩,
 ⟨(some 22), .pick (.tmp 17) (.tmp 21) (.const (.bool false)), (some (13, false))⟩,
 ⟨(some 23), .pick (.tmp 13) (.const (.bool true)) (.tmp 22), none⟩,
 ⟨(some 3), .assign (.tmp 23), none⟩] 0)
 (.ret))
def fn127 : MFn := ⟨24, [.tmp 3], m127, .pass⟩
theorem fnOk127 : FnOk Tryz.prog 127 fn127 := ⟨Tryz.f127, _, kpL passing [] [[0, 1], [1, 2]], Tryz.func127, rfl, by kernel_rfl, by kernel_rfl, by kernel_rfl, by kernel_rfl⟩
/- (*seisin/inv.scene).puts$1 -/
def m128 : M :=
 .seq (.reg [0, 1] [⟨(some 2), .box 77 (.tmp 0), none⟩,
 ⟨(some 3), .assign (.const (.bool false)), none⟩] 0)
 (.seq (.reg [1, 2] [⟨(some 4), .fieldAddr 77 (.tmp 2) 0, none⟩,
 ⟨(some 5), .load 5 (.tmp 4), none⟩,
 ⟨(some 6), .binOp .eql 5 (.tmp 5) (.const (.int .u8 3)) 5, none⟩,
 ⟨(some 7), .move (.tmp 6), none⟩,
 ⟨(some 8), .fieldAddr 77 (.tmp 2) 1, (some (7, true))⟩,
 ⟨(some 9), .load 5 (.tmp 8), (some (7, true))⟩,
 ⟨(some 10), .load 5 (.tmp 1), (some (7, true))⟩,
 ⟨(some 11), .binOp .eql 5 (.tmp 9) (.tmp 10) 5, (some (7, true))⟩,
 ⟨(some 12), .pick (.tmp 7) (.tmp 11) (.const (.bool false)), none⟩,
 ⟨(some 13), .move (.tmp 12), none⟩,
 ⟨(some 14), .fieldAddr 77 (.tmp 2) 0, (some (13, false))⟩,
 ⟨(some 15), .load 5 (.tmp 14), (some (13, false))⟩,
 ⟨(some 16), .binOp .eql 5 (.tmp 15) (.const (.int .u8 9)) 5, (some (13, false))⟩,
 ⟨(some 17), .move (.tmp 16), (some (13, false))⟩,
 ⟨(some 18), .fieldAddr 77 (.tmp 2) 2, (some (17, true))⟩,
 ⟨(some 19), .load 5 (.tmp 18), (some (17, true))⟩,
 ⟨(some 20), .load 5 (.tmp 1), (some (17, true))⟩,
 ⟨(some 21), .binOp .eql 5 (.tmp 19) (.tmp 20) 5, (some (17, true))⟩,
 ⟨(some 22), .pick (.tmp 17) (.tmp 21) (.const (.bool false)), (some (13, false))⟩,
 ⟨(some 23), .pick (.tmp 13) (.const (.bool true)) (.tmp 22), none⟩,
 ⟨(some 3), .assign (.tmp 23), none⟩] 0)
 (.ret))
def fn128 : MFn := ⟨24, [.tmp 3], m128, .pass⟩
theorem fnOk128 : FnOk Tryz.prog 128 fn128 := ⟨Tryz.f128, _, kpL passing [] [[0, 1], [1, 2]], Tryz.func128, rfl, by kernel_rfl, by kernel_rfl, by kernel_rfl, by kernel_rfl⟩
/- (*seisin/inv.scene).gets$1 -/
def m129 : M :=
 .seq (.reg [0, 1, 2] [⟨(some 3), .box 5 (.tmp 0), none⟩,
 ⟨(some 4), .assign (.const (.int .i64 0)), none⟩] 0)
 (.seq (.reg [1, 2, 3] [⟨(some 5), .load 111 (.tmp 1), none⟩,
 ⟨(some 6), .makeFunc (.func 130) #[] #[(.tmp 3), (.tmp 2)], none⟩,
 ⟨(some 7), .call ⟨.value (.func 126), #[(.tmp 5), (.tmp 6)], #[111, 200]⟩, none⟩,
 ⟨(some 4), .assign (.tmp 7), none⟩] 0)
 (.ret))
def fn129 : MFn := ⟨8, [.tmp 4], m129, .pass⟩
theorem fnOk129 : FnOk Tryz.prog 129 fn129 := ⟨Tryz.f129, _, kpL passing [] [[0, 1, 2], [1, 2, 3]], Tryz.func129, rfl, by kernel_rfl, by kernel_rfl, by kernel_rfl, by kernel_rfl⟩
/- (*seisin/inv.scene).gets$1$1 -/
def m130 : M :=
 .seq (.reg [0, 1, 2] [⟨(some 3), .box 77 (.tmp 0), none⟩,
 ⟨(some 4), .assign (.const (.bool false)), none⟩] 0)
 (.seq (.reg [1, 2, 3] [⟨(some 5), .fieldAddr 77 (.tmp 3) 0, none⟩,
 ⟨(some 6), .load 5 (.tmp 5), none⟩,
 ⟨(some 7), .load 5 (.tmp 1), none⟩,
 ⟨(some 8), .binOp .eql 5 (.tmp 6) (.tmp 7) 5, none⟩,
 ⟨(some 9), .move (.tmp 8), none⟩,
 ⟨(some 10), .fieldAddr 77 (.tmp 3) 1, (some (9, true))⟩,
 ⟨(some 11), .load 5 (.tmp 10), (some (9, true))⟩,
 ⟨(some 12), .load 5 (.tmp 2), (some (9, true))⟩,
 ⟨(some 13), .binOp .eql 5 (.tmp 11) (.tmp 12) 5, (some (9, true))⟩,
 ⟨(some 14), .pick (.tmp 9) (.tmp 13) (.const (.bool false)), none⟩,
 ⟨(some 4), .assign (.tmp 14), none⟩] 0)
 (.ret))
def fn130 : MFn := ⟨15, [.tmp 4], m130, .pass⟩
theorem fnOk130 : FnOk Tryz.prog 130 fn130 := ⟨Tryz.f130, _, kpL passing [] [[0, 1, 2], [1, 2, 3]], Tryz.func130, rfl, by kernel_rfl, by kernel_rfl, by kernel_rfl, by kernel_rfl⟩
/- (*seisin/inv.scene).kinds$1 -/
def m131 : M :=
 .seq (.reg [0, 1] [⟨(some 2), .box 77 (.tmp 0), none⟩,
 ⟨(some 3), .assign (.const (.bool false)), none⟩] 0)
 (.seq (.reg [1, 2] [⟨(some 4), .load 23 (.tmp 1), none⟩,
 ⟨(some 5), .fieldAddr 77 (.tmp 2) 0, none⟩,
 ⟨(some 6), .load 5 (.tmp 5), none⟩,
 ⟨(some 7), .call ⟨.value (.func 132), #[(.tmp 4), (.tmp 6)], #[23, 5]⟩, none⟩,
 ⟨(some 3), .assign (.tmp 7), none⟩] 0)
 (.ret))
def fn131 : MFn := ⟨8, [.tmp 3], m131, .pass⟩
theorem fnOk131 : FnOk Tryz.prog 131 fn131 := ⟨Tryz.f131, _, kpL passing [] [[0, 1], [1, 2]], Tryz.func131, rfl, by kernel_rfl, by kernel_rfl, by kernel_rfl, by kernel_rfl⟩
/- slices.Contains[[]uint8,uint8] -/
def m132 : M :=
 .seq (.reg [0, 1] [⟨(some 4), .assign (.const (.bool false)), none⟩] 0)
 (.seq (.reg [0, 1] [⟨(some 5), .move (.tmp 0), none⟩,
 ⟨(some 6), .move (.tmp 1), none⟩,
 ⟨(some 7), .call ⟨.value (.func 158), #[(.tmp 5), (.tmp 6)], #[23, 5]⟩, none⟩,
 ⟨(some 8), .binOp .geq 3 (.tmp 7) (.const (.int .i64 0)) 3, none⟩,
 ⟨(some 4), .assign (.tmp 8), none⟩] 0)
 (.ret))
def fn132 : MFn := ⟨9, [.tmp 4], m132, .shut⟩
theorem fnOk132 : FnOk Tryz.prog 132 fn132 := ⟨Tryz.f132, _, kpL passing [] [[0, 1], [0, 1]], Tryz.func132, rfl, by kernel_rfl, by kernel_rfl, by kernel_rfl, by kernel_rfl⟩
/- seisin/spec.rules$1 -/
def m133 : M :=
 .seq (.reg [0] [⟨(some 1), .box 5 (.tmp 0), none⟩,
 ⟨(some 2), .assign (.const .nilFunc), none⟩] 0)
 (.seq (.reg [1] [⟨(some 3), .makeFunc (.func 134) #[] #[(.tmp 1)], none⟩,
 ⟨(some 2), .assign (.tmp 3), none⟩] 0)
 (.ret))
def fn133 : MFn := ⟨4, [.tmp 2], m133, .pass⟩
theorem fnOk133 : FnOk Tryz.prog 133 fn133 := ⟨Tryz.f133, _, kpL passing [] [[0], [1]], Tryz.func133, rfl, by kernel_rfl, by kernel_rfl, by kernel_rfl, by kernel_rfl⟩
/- (*seisin/spec.words).empty -/
def m135 : M :=
 .seq (.reg [0] [⟨(some 2), .assign (.const (.bool false)), none⟩] 0)
 (.seq (.reg [0] [⟨(some 3), .move (.tmp 0), none⟩,
 ⟨(some 4), .nilCheck (.tmp 3), none⟩,
 ⟨(some 5), .fieldAddr 209 (.tmp 4) 0, none⟩,
 ⟨(some 6), .load 22 (.tmp 5), none⟩,
 ⟨(some 7), .call ⟨.builtin .len, #[(.tmp 6)], #[22]⟩, none⟩,
 ⟨(some 8), .binOp .eql 3 (.tmp 7) (.const (.int .i64 0)) 3, none⟩,
 ⟨(some 2), .assign (.tmp 8), none⟩] 0)
 (.ret))
def fn135 : MFn := ⟨9, [.tmp 2], m135, .pass⟩
theorem fnOk135 : FnOk Tryz.prog 135 fn135 := ⟨Tryz.f135, _, kpL passing [] [[0], [0]], Tryz.func135, rfl, by kernel_rfl, by kernel_rfl, by kernel_rfl, by kernel_rfl⟩
/- seisin/spec.rules$2 -/
end Go.Proofs.YtnhknhniemfnjaaGreatDoor.Ev
