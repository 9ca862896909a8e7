/- The evaluator's context: types and bodies, and that they are the program's. Printed by wip/ev/gen/ctx.py. -/
import Derived.Test.YtnhknhniemfnjaaGreatDoorX0
import Derived.Test.YtnhknhniemfnjaaGreatDoorChecked
set_option linter.unusedSimpArgs false
set_option linter.unusedVariables false
namespace Go.Proofs.YtnhknhniemfnjaaGreatDoor.Ev
open Go Go.RowKit
set_option maxRecDepth 100000

def ty3 : Ty := ⟨(.int .i64), 1, 8, [(.int .i64 0)], true⟩
theorem tyOk3 : tyOf Tryz.prog 3 = some ty3 := by kernel_rfl
def ty4 : Ty := ⟨.bool, 1, 1, [(.bool false)], true⟩
theorem tyOk4 : tyOf Tryz.prog 4 = some ty4 := by kernel_rfl
def ty5 : Ty := ⟨(.int .u8), 1, 1, [(.int .u8 0)], true⟩
theorem tyOk5 : tyOf Tryz.prog 5 = some ty5 := by kernel_rfl
def ty9 : Ty := ⟨.str, 1, 16, [(.string ⟨#[]⟩)], true⟩
theorem tyOk9 : tyOf Tryz.prog 9 = some ty9 := by kernel_rfl
def ty21 : Ty := ⟨(.int .i32), 1, 4, [(.int .i32 0)], true⟩
theorem tyOk21 : tyOf Tryz.prog 21 = some ty21 := by kernel_rfl
def ty22 : Ty := ⟨(.slice 9), 1, 24, [(.slice none 0 0)], true⟩
theorem tyOk22 : tyOf Tryz.prog 22 = some ty22 := by kernel_rfl
def ty23 : Ty := ⟨(.slice 5), 1, 24, [(.slice none 0 0)], true⟩
theorem tyOk23 : tyOf Tryz.prog 23 = some ty23 := by kernel_rfl
def ty24 : Ty := ⟨(.slice 103), 1, 24, [(.slice none 0 0)], true⟩
theorem tyOk24 : tyOf Tryz.prog 24 = some ty24 := by kernel_rfl
def ty25 : Ty := ⟨(.slice 27), 1, 24, [(.slice none 0 0)], true⟩
theorem tyOk25 : tyOf Tryz.prog 25 = some ty25 := by kernel_rfl
def ty27 : Ty := ⟨(.struct [(5, 0, true), (5, 1, true), (5, 2, true), (5, 3, true), (25, 4, true)]), 5, 32, [(.int .u8 0), (.int .u8 0), (.int .u8 0), (.int .u8 0), (.slice none 0 0)], true⟩
theorem tyOk27 : tyOf Tryz.prog 27 = some ty27 := by kernel_rfl
def ty29 : Ty := ⟨(.struct [(9, 0, true), (22, 1, true), (23, 2, true), (24, 3, true), (5, 4, true), (27, 5, true)]), 10, 128, [(.string ⟨#[]⟩), (.slice none 0 0), (.slice none 0 0), (.slice none 0 0), (.int .u8 0), (.int .u8 0), (.int .u8 0), (.int .u8 0), (.int .u8 0), (.slice none 0 0)], true⟩
theorem tyOk29 : tyOf Tryz.prog 29 = some ty29 := by kernel_rfl
def ty31 : Ty := ⟨(.struct [(3, 0, true), (3, 1, true), (3, 2, true), (3, 3, true), (3, 4, true)]), 5, 40, [(.int .i64 0), (.int .i64 0), (.int .i64 0), (.int .i64 0), (.int .i64 0)], true⟩
theorem tyOk31 : tyOf Tryz.prog 31 = some ty31 := by kernel_rfl
def ty33 : Ty := ⟨(.struct [(5, 0, true), (5, 1, true), (5, 2, true), (3, 3, true), (4, 4, true)]), 5, 24, [(.int .u8 0), (.int .u8 0), (.int .u8 0), (.int .i64 0), (.bool false)], true⟩
theorem tyOk33 : tyOf Tryz.prog 33 = some ty33 := by kernel_rfl
def ty34 : Ty := ⟨(.int .u16), 1, 2, [(.int .u16 0)], true⟩
theorem tyOk34 : tyOf Tryz.prog 34 = some ty34 := by kernel_rfl
def ty36 : Ty := ⟨(.struct [(5, 0, true), (5, 1, true), (34, 2, true)]), 3, 4, [(.int .u8 0), (.int .u8 0), (.int .u16 0)], true⟩
theorem tyOk36 : tyOf Tryz.prog 36 = some ty36 := by kernel_rfl
def ty37 : Ty := ⟨(.array 14 36), 42, 56, (List.replicate 14 ([(.int .u8 0), (.int .u8 0), (.int .u16 0)] : List Value)).flatten, true⟩
theorem tyOk37 : tyOf Tryz.prog 37 = some ty37 := by kernel_rfl
def ty38 : Ty := ⟨(.array 12 37), 504, 672, (List.replicate 168 ([(.int .u8 0), (.int .u8 0), (.int .u16 0)] : List Value)).flatten, true⟩
theorem tyOk38 : tyOf Tryz.prog 38 = some ty38 := by kernel_rfl
def ty39 : Ty := ⟨(.array 5 36), 15, 20, [(.int .u8 0), (.int .u8 0), (.int .u16 0), (.int .u8 0), (.int .u8 0), (.int .u16 0), (.int .u8 0), (.int .u8 0), (.int .u16 0), (.int .u8 0), (.int .u8 0), (.int .u16 0), (.int .u8 0), (.int .u8 0), (.int .u16 0)], true⟩
theorem tyOk39 : tyOf Tryz.prog 39 = some ty39 := by kernel_rfl
def ty40 : Ty := ⟨(.array 4 39), 60, 80, (List.replicate 20 ([(.int .u8 0), (.int .u8 0), (.int .u16 0)] : List Value)).flatten, true⟩
theorem tyOk40 : tyOf Tryz.prog 40 = some ty40 := by kernel_rfl
def ty42 : Ty := ⟨(.struct [(9, 0, true), (38, 1, true), (40, 505, true)]), 565, 768, [(.string ⟨#[]⟩)] ++ (List.replicate 188 ([(.int .u8 0), (.int .u8 0), (.int .u16 0)] : List Value)).flatten, true⟩
theorem tyOk42 : tyOf Tryz.prog 42 = some ty42 := by kernel_rfl
def ty44 : Ty := ⟨(.struct [(29, 0, true), (31, 10, true), (33, 15, true), (42, 20, true)]), 585, 960, [(.string ⟨#[]⟩), (.slice none 0 0), (.slice none 0 0), (.slice none 0 0), (.int .u8 0), (.int .u8 0), (.int .u8 0), (.int .u8 0), (.int .u8 0), (.slice none 0 0), (.int .i64 0), (.int .i64 0), (.int .i64 0), (.int .i64 0), (.int .i64 0), (.int .u8 0), (.int .u8 0), (.int .u8 0), (.int .i64 0), (.bool false), (.string ⟨#[]⟩)] ++ (List.replicate 188 ([(.int .u8 0), (.int .u8 0), (.int .u16 0)] : List Value)).flatten, true⟩
theorem tyOk44 : tyOf Tryz.prog 44 = some ty44 := by kernel_rfl
def ty45 : Ty := ⟨(.slice 52), 1, 24, [(.slice none 0 0)], true⟩
theorem tyOk45 : tyOf Tryz.prog 45 = some ty45 := by kernel_rfl
def ty47 : Ty := ⟨.func, 1, 8, [.nilFunc], true⟩
theorem tyOk47 : tyOf Tryz.prog 47 = some ty47 := by kernel_rfl
def ty48 : Ty := ⟨(.array 6 5), 6, 6, [(.int .u8 0), (.int .u8 0), (.int .u8 0), (.int .u8 0), (.int .u8 0), (.int .u8 0)], true⟩
theorem tyOk48 : tyOf Tryz.prog 48 = some ty48 := by kernel_rfl
def ty50 : Ty := ⟨(.struct [(5, 0, true), (5, 1, true), (5, 2, true), (5, 3, true)]), 4, 4, [(.int .u8 0), (.int .u8 0), (.int .u8 0), (.int .u8 0)], true⟩
theorem tyOk50 : tyOf Tryz.prog 50 = some ty50 := by kernel_rfl
def ty52 : Ty := ⟨(.struct [(5, 0, true), (50, 1, true), (5, 5, true), (5, 6, true)]), 7, 7, [(.int .u8 0), (.int .u8 0), (.int .u8 0), (.int .u8 0), (.int .u8 0), (.int .u8 0), (.int .u8 0)], true⟩
theorem tyOk52 : tyOf Tryz.prog 52 = some ty52 := by kernel_rfl
def ty53 : Ty := ⟨(.array 5 5), 5, 5, [(.int .u8 0), (.int .u8 0), (.int .u8 0), (.int .u8 0), (.int .u8 0)], true⟩
theorem tyOk53 : tyOf Tryz.prog 53 = some ty53 := by kernel_rfl
def ty56 : Ty := ⟨(.slice 155), 1, 24, [(.slice none 0 0)], true⟩
theorem tyOk56 : tyOf Tryz.prog 56 = some ty56 := by kernel_rfl
def ty57 : Ty := ⟨(.slice 90), 1, 24, [(.slice none 0 0)], true⟩
theorem tyOk57 : tyOf Tryz.prog 57 = some ty57 := by kernel_rfl
def ty58 : Ty := ⟨(.int .u64), 1, 8, [(.int .u64 0)], true⟩
theorem tyOk58 : tyOf Tryz.prog 58 = some ty58 := by kernel_rfl
def ty59 : Ty := ⟨(.int .u64), 1, 8, [(.int .u64 0)], true⟩
theorem tyOk59 : tyOf Tryz.prog 59 = some ty59 := by kernel_rfl
def ty61 : Ty := ⟨(.struct [(5, 0, true), (59, 1, true), (4, 2, true)]), 3, 24, [(.int .u8 0), (.int .u64 0), (.bool false)], true⟩
theorem tyOk61 : tyOf Tryz.prog 61 = some ty61 := by kernel_rfl
def ty62 : Ty := ⟨(.array 4 5), 4, 4, [(.int .u8 0), (.int .u8 0), (.int .u8 0), (.int .u8 0)], true⟩
theorem tyOk62 : tyOf Tryz.prog 62 = some ty62 := by kernel_rfl
def ty63 : Ty := ⟨(.array 4 5), 4, 4, [(.int .u8 0), (.int .u8 0), (.int .u8 0), (.int .u8 0)], true⟩
theorem tyOk63 : tyOf Tryz.prog 63 = some ty63 := by kernel_rfl
def ty65 : Ty := ⟨(.struct [(5, 0, true), (5, 1, true), (61, 2, true), (5, 5, true), (5, 6, true), (63, 7, true)]), 11, 40, [(.int .u8 0), (.int .u8 0), (.int .u8 0), (.int .u64 0), (.bool false), (.int .u8 0), (.int .u8 0), (.int .u8 0), (.int .u8 0), (.int .u8 0), (.int .u8 0)], true⟩
theorem tyOk65 : tyOf Tryz.prog 65 = some ty65 := by kernel_rfl
def ty66 : Ty := ⟨(.array 6 65), 66, 240, [(.int .u8 0), (.int .u8 0), (.int .u8 0), (.int .u64 0), (.bool false), (.int .u8 0), (.int .u8 0), (.int .u8 0), (.int .u8 0), (.int .u8 0), (.int .u8 0), (.int .u8 0), (.int .u8 0), (.int .u8 0), (.int .u64 0), (.bool false), (.int .u8 0), (.int .u8 0), (.int .u8 0), (.int .u8 0), (.int .u8 0), (.int .u8 0), (.int .u8 0), (.int .u8 0), (.int .u8 0), (.int .u64 0), (.bool false), (.int .u8 0), (.int .u8 0), (.int .u8 0), (.int .u8 0), (.int .u8 0), (.int .u8 0), (.int .u8 0), (.int .u8 0), (.int .u8 0), (.int .u64 0), (.bool false), (.int .u8 0), (.int .u8 0), (.int .u8 0), (.int .u8 0), (.int .u8 0), (.int .u8 0), (.int .u8 0), (.int .u8 0), (.int .u8 0), (.int .u64 0), (.bool false), (.int .u8 0), (.int .u8 0), (.int .u8 0), (.int .u8 0), (.int .u8 0), (.int .u8 0), (.int .u8 0), (.int .u8 0), (.int .u8 0), (.int .u64 0), (.bool false)] ++ (List.replicate 6 ([(.int .u8 0)] : List Value)).flatten, true⟩
theorem tyOk66 : tyOf Tryz.prog 66 = some ty66 := by kernel_rfl
def ty67 : Ty := ⟨(.slice 77), 1, 24, [(.slice none 0 0)], true⟩
theorem tyOk67 : tyOf Tryz.prog 67 = some ty67 := by kernel_rfl
def ty69 : Ty := ⟨(.struct [(56, 0, true), (57, 1, true), (66, 2, true), (67, 68, true)]), 69, 312, [(.slice none 0 0), (.slice none 0 0), (.int .u8 0), (.int .u8 0), (.int .u8 0), (.int .u64 0), (.bool false), (.int .u8 0), (.int .u8 0), (.int .u8 0), (.int .u8 0), (.int .u8 0), (.int .u8 0), (.int .u8 0), (.int .u8 0), (.int .u8 0), (.int .u64 0), (.bool false), (.int .u8 0), (.int .u8 0), (.int .u8 0), (.int .u8 0), (.int .u8 0), (.int .u8 0), (.int .u8 0), (.int .u8 0), (.int .u8 0), (.int .u64 0), (.bool false), (.int .u8 0), (.int .u8 0), (.int .u8 0), (.int .u8 0), (.int .u8 0), (.int .u8 0), (.int .u8 0), (.int .u8 0), (.int .u8 0), (.int .u64 0), (.bool false), (.int .u8 0), (.int .u8 0), (.int .u8 0), (.int .u8 0), (.int .u8 0), (.int .u8 0), (.int .u8 0), (.int .u8 0), (.int .u8 0), (.int .u64 0), (.bool false), (.int .u8 0), (.int .u8 0), (.int .u8 0), (.int .u8 0), (.int .u8 0), (.int .u8 0), (.int .u8 0), (.int .u8 0), (.int .u8 0), (.int .u64 0), (.bool false), (.int .u8 0), (.int .u8 0), (.int .u8 0), (.int .u8 0), (.int .u8 0), (.int .u8 0), (.slice none 0 0)], true⟩
theorem tyOk69 : tyOf Tryz.prog 69 = some ty69 := by kernel_rfl
def ty77 : Ty := ⟨(.struct [(5, 0, true), (5, 1, true), (5, 2, true), (5, 3, true), (5, 4, true), (5, 5, true), (4, 6, true), (63, 7, true)]), 11, 11, [(.int .u8 0), (.int .u8 0), (.int .u8 0), (.int .u8 0), (.int .u8 0), (.int .u8 0), (.bool false), (.int .u8 0), (.int .u8 0), (.int .u8 0), (.int .u8 0)], true⟩
theorem tyOk77 : tyOf Tryz.prog 77 = some ty77 := by kernel_rfl
def ty81 : Ty := ⟨(.int .i8), 1, 1, [(.int .i8 0)], true⟩
theorem tyOk81 : tyOf Tryz.prog 81 = some ty81 := by kernel_rfl
def ty83 : Ty := ⟨(.struct [(5, 0, true), (5, 1, true), (81, 2, true), (4, 3, true), (63, 4, true)]), 8, 8, [(.int .u8 0), (.int .u8 0), (.int .i8 0), (.bool false), (.int .u8 0), (.int .u8 0), (.int .u8 0), (.int .u8 0)], true⟩
theorem tyOk83 : tyOf Tryz.prog 83 = some ty83 := by kernel_rfl
def ty84 : Ty := ⟨(.array 4 83), 32, 32, [(.int .u8 0), (.int .u8 0), (.int .i8 0), (.bool false), (.int .u8 0), (.int .u8 0), (.int .u8 0), (.int .u8 0), (.int .u8 0), (.int .u8 0), (.int .i8 0), (.bool false), (.int .u8 0), (.int .u8 0), (.int .u8 0), (.int .u8 0), (.int .u8 0), (.int .u8 0), (.int .i8 0), (.bool false), (.int .u8 0), (.int .u8 0), (.int .u8 0), (.int .u8 0), (.int .u8 0), (.int .u8 0), (.int .i8 0), (.bool false)] ++ (List.replicate 4 ([(.int .u8 0)] : List Value)).flatten, true⟩
theorem tyOk84 : tyOf Tryz.prog 84 = some ty84 := by kernel_rfl
def ty85 : Ty := ⟨(.array 4 84), 128, 128, [(.int .u8 0), (.int .u8 0), (.int .i8 0), (.bool false), (.int .u8 0), (.int .u8 0), (.int .u8 0), (.int .u8 0), (.int .u8 0), (.int .u8 0), (.int .i8 0), (.bool false), (.int .u8 0), (.int .u8 0), (.int .u8 0), (.int .u8 0), (.int .u8 0), (.int .u8 0), (.int .i8 0), (.bool false), (.int .u8 0), (.int .u8 0), (.int .u8 0), (.int .u8 0), (.int .u8 0), (.int .u8 0), (.int .i8 0), (.bool false), (.int .u8 0), (.int .u8 0), (.int .u8 0), (.int .u8 0), (.int .u8 0), (.int .u8 0), (.int .i8 0), (.bool false), (.int .u8 0), (.int .u8 0), (.int .u8 0), (.int .u8 0), (.int .u8 0), (.int .u8 0), (.int .i8 0), (.bool false), (.int .u8 0), (.int .u8 0), (.int .u8 0), (.int .u8 0), (.int .u8 0), (.int .u8 0), (.int .i8 0), (.bool false), (.int .u8 0), (.int .u8 0), (.int .u8 0), (.int .u8 0), (.int .u8 0), (.int .u8 0), (.int .i8 0), (.bool false), (.int .u8 0), (.int .u8 0), (.int .u8 0), (.int .u8 0), (.int .u8 0), (.int .u8 0), (.int .i8 0), (.bool false), (.int .u8 0), (.int .u8 0), (.int .u8 0), (.int .u8 0), (.int .u8 0), (.int .u8 0), (.int .i8 0), (.bool false), (.int .u8 0), (.int .u8 0), (.int .u8 0), (.int .u8 0), (.int .u8 0), (.int .u8 0), (.int .i8 0), (.bool false), (.int .u8 0), (.int .u8 0), (.int .u8 0), (.int .u8 0), (.int .u8 0), (.int .u8 0), (.int .i8 0), (.bool false), (.int .u8 0), (.int .u8 0), (.int .u8 0), (.int .u8 0), (.int .u8 0), (.int .u8 0), (.int .i8 0), (.bool false), (.int .u8 0), (.int .u8 0), (.int .u8 0), (.int .u8 0), (.int .u8 0), (.int .u8 0), (.int .i8 0), (.bool false), (.int .u8 0), (.int .u8 0), (.int .u8 0), (.int .u8 0), (.int .u8 0), (.int .u8 0), (.int .i8 0), (.bool false), (.int .u8 0), (.int .u8 0), (.int .u8 0), (.int .u8 0), (.int .u8 0), (.int .u8 0), (.int .i8 0), (.bool false)] ++ (List.replicate 4 ([(.int .u8 0)] : List Value)).flatten, true⟩
theorem tyOk85 : tyOf Tryz.prog 85 = some ty85 := by kernel_rfl
def ty87 : Ty := ⟨(.struct [(5, 0, true), (3, 1, true), (62, 2, true), (5, 6, true)]), 7, 24, [(.int .u8 0), (.int .i64 0), (.int .u8 0), (.int .u8 0), (.int .u8 0), (.int .u8 0), (.int .u8 0)], true⟩
theorem tyOk87 : tyOf Tryz.prog 87 = some ty87 := by kernel_rfl
def ty88 : Ty := ⟨(.array 4 87), 28, 96, [(.int .u8 0), (.int .i64 0), (.int .u8 0), (.int .u8 0), (.int .u8 0), (.int .u8 0), (.int .u8 0), (.int .u8 0), (.int .i64 0), (.int .u8 0), (.int .u8 0), (.int .u8 0), (.int .u8 0), (.int .u8 0), (.int .u8 0), (.int .i64 0), (.int .u8 0), (.int .u8 0), (.int .u8 0), (.int .u8 0), (.int .u8 0), (.int .u8 0), (.int .i64 0), (.int .u8 0), (.int .u8 0), (.int .u8 0), (.int .u8 0), (.int .u8 0)], true⟩
theorem tyOk88 : tyOf Tryz.prog 88 = some ty88 := by kernel_rfl
def ty90 : Ty := ⟨(.struct [(85, 0, true), (88, 128, true), (50, 156, true)]), 160, 232, [(.int .u8 0), (.int .u8 0), (.int .i8 0), (.bool false), (.int .u8 0), (.int .u8 0), (.int .u8 0), (.int .u8 0), (.int .u8 0), (.int .u8 0), (.int .i8 0), (.bool false), (.int .u8 0), (.int .u8 0), (.int .u8 0), (.int .u8 0), (.int .u8 0), (.int .u8 0), (.int .i8 0), (.bool false), (.int .u8 0), (.int .u8 0), (.int .u8 0), (.int .u8 0), (.int .u8 0), (.int .u8 0), (.int .i8 0), (.bool false), (.int .u8 0), (.int .u8 0), (.int .u8 0), (.int .u8 0), (.int .u8 0), (.int .u8 0), (.int .i8 0), (.bool false), (.int .u8 0), (.int .u8 0), (.int .u8 0), (.int .u8 0), (.int .u8 0), (.int .u8 0), (.int .i8 0), (.bool false), (.int .u8 0), (.int .u8 0), (.int .u8 0), (.int .u8 0), (.int .u8 0), (.int .u8 0), (.int .i8 0), (.bool false), (.int .u8 0), (.int .u8 0), (.int .u8 0), (.int .u8 0), (.int .u8 0), (.int .u8 0), (.int .i8 0), (.bool false), (.int .u8 0), (.int .u8 0), (.int .u8 0), (.int .u8 0), (.int .u8 0), (.int .u8 0), (.int .i8 0), (.bool false), (.int .u8 0), (.int .u8 0), (.int .u8 0), (.int .u8 0), (.int .u8 0), (.int .u8 0), (.int .i8 0), (.bool false), (.int .u8 0), (.int .u8 0), (.int .u8 0), (.int .u8 0), (.int .u8 0), (.int .u8 0), (.int .i8 0), (.bool false), (.int .u8 0), (.int .u8 0), (.int .u8 0), (.int .u8 0), (.int .u8 0), (.int .u8 0), (.int .i8 0), (.bool false), (.int .u8 0), (.int .u8 0), (.int .u8 0), (.int .u8 0), (.int .u8 0), (.int .u8 0), (.int .i8 0), (.bool false), (.int .u8 0), (.int .u8 0), (.int .u8 0), (.int .u8 0), (.int .u8 0), (.int .u8 0), (.int .i8 0), (.bool false), (.int .u8 0), (.int .u8 0), (.int .u8 0), (.int .u8 0), (.int .u8 0), (.int .u8 0), (.int .i8 0), (.bool false), (.int .u8 0), (.int .u8 0), (.int .u8 0), (.int .u8 0), (.int .u8 0), (.int .u8 0), (.int .i8 0), (.bool false), (.int .u8 0), (.int .u8 0), (.int .u8 0), (.int .u8 0), (.int .u8 0), (.int .i64 0), (.int .u8 0), (.int .u8 0), (.int .u8 0), (.int .u8 0), (.int .u8 0), (.int .u8 0), (.int .i64 0), (.int .u8 0), (.int .u8 0), (.int .u8 0), (.int .u8 0), (.int .u8 0), (.int .u8 0), (.int .i64 0), (.int .u8 0), (.int .u8 0), (.int .u8 0), (.int .u8 0), (.int .u8 0), (.int .u8 0), (.int .i64 0)] ++ (List.replicate 9 ([(.int .u8 0)] : List Value)).flatten, true⟩
theorem tyOk90 : tyOf Tryz.prog 90 = some ty90 := by kernel_rfl
def ty95 : Ty := ⟨.func, 1, 8, [.nilFunc], true⟩
theorem tyOk95 : tyOf Tryz.prog 95 = some ty95 := by kernel_rfl
def ty97 : Ty := ⟨(.struct [(95, 0, true)]), 1, 8, [.nilFunc], true⟩
theorem tyOk97 : tyOf Tryz.prog 97 = some ty97 := by kernel_rfl
def ty98 : Ty := ⟨(.array 4 97), 4, 32, [.nilFunc, .nilFunc, .nilFunc, .nilFunc], true⟩
theorem tyOk98 : tyOf Tryz.prog 98 = some ty98 := by kernel_rfl
def ty100 : Ty := ⟨(.int .i64), 1, 8, [(.int .i64 0)], true⟩
theorem tyOk100 : tyOf Tryz.prog 100 = some ty100 := by kernel_rfl
def ty103 : Ty := ⟨(.slice 280), 1, 24, [(.slice none 0 0)], true⟩
theorem tyOk103 : tyOf Tryz.prog 103 = some ty103 := by kernel_rfl
def ty106 : Ty := ⟨(.slice 83), 1, 24, [(.slice none 0 0)], true⟩
theorem tyOk106 : tyOf Tryz.prog 106 = some ty106 := by kernel_rfl
def ty108 : Ty := ⟨(.struct [(31, 0, true), (5, 5, true), (65, 6, true), (106, 17, true), (67, 18, true)]), 19, 136, [(.int .i64 0), (.int .i64 0), (.int .i64 0), (.int .i64 0), (.int .i64 0), (.int .u8 0), (.int .u8 0), (.int .u8 0), (.int .u8 0), (.int .u64 0), (.bool false), (.int .u8 0), (.int .u8 0), (.int .u8 0), (.int .u8 0), (.int .u8 0), (.int .u8 0), (.slice none 0 0), (.slice none 0 0)], true⟩
theorem tyOk108 : tyOf Tryz.prog 108 = some ty108 := by kernel_rfl
def ty111 : Ty := ⟨(.ptr 108), 1, 8, [(.pointer none)], true⟩
theorem tyOk111 : tyOf Tryz.prog 111 = some ty111 := by kernel_rfl
def ty120 : Ty := ⟨(.array 5 3), 5, 40, [(.int .i64 0), (.int .i64 0), (.int .i64 0), (.int .i64 0), (.int .i64 0)], true⟩
theorem tyOk120 : tyOf Tryz.prog 120 = some ty120 := by kernel_rfl
def ty122 : Ty := ⟨(.struct [(31, 0, true)]), 5, 40, [(.int .i64 0), (.int .i64 0), (.int .i64 0), (.int .i64 0), (.int .i64 0)], true⟩
theorem tyOk122 : tyOf Tryz.prog 122 = some ty122 := by kernel_rfl
def ty124 : Ty := ⟨(.array 13 5), 13, 13, [(.int .u8 0), (.int .u8 0), (.int .u8 0), (.int .u8 0), (.int .u8 0), (.int .u8 0), (.int .u8 0), (.int .u8 0), (.int .u8 0), (.int .u8 0), (.int .u8 0), (.int .u8 0), (.int .u8 0)], true⟩
theorem tyOk124 : tyOf Tryz.prog 124 = some ty124 := by kernel_rfl
def ty126 : Ty := ⟨(.struct [(77, 0, true), (31, 11, true), (5, 16, true)]), 17, 64, [(.int .u8 0), (.int .u8 0), (.int .u8 0), (.int .u8 0), (.int .u8 0), (.int .u8 0), (.bool false), (.int .u8 0), (.int .u8 0), (.int .u8 0), (.int .u8 0), (.int .i64 0), (.int .i64 0), (.int .i64 0), (.int .i64 0), (.int .i64 0), (.int .u8 0)], true⟩
theorem tyOk126 : tyOf Tryz.prog 126 = some ty126 := by kernel_rfl
def ty127 : Ty := ⟨(.struct [(31, 0, true)]), 5, 40, [(.int .i64 0), (.int .i64 0), (.int .i64 0), (.int .i64 0), (.int .i64 0)], true⟩
theorem tyOk127 : tyOf Tryz.prog 127 = some ty127 := by kernel_rfl
def ty140 : Ty := ⟨(.int .u8), 1, 1, [(.int .u8 0)], true⟩
theorem tyOk140 : tyOf Tryz.prog 140 = some ty140 := by kernel_rfl
def ty142 : Ty := ⟨(.struct [(140, 0, true), (42, 1, true)]), 566, 776, [(.int .u8 0), (.string ⟨#[]⟩)] ++ (List.replicate 188 ([(.int .u8 0), (.int .u8 0), (.int .u16 0)] : List Value)).flatten, true⟩
theorem tyOk142 : tyOf Tryz.prog 142 = some ty142 := by kernel_rfl
def ty148 : Ty := ⟨(.struct [(4, 0, true), (5, 1, true), (5, 2, true)]), 3, 3, [(.bool false), (.int .u8 0), (.int .u8 0)], true⟩
theorem tyOk148 : tyOf Tryz.prog 148 = some ty148 := by kernel_rfl
def ty150 : Ty := ⟨.func, 1, 8, [.nilFunc], true⟩
theorem tyOk150 : tyOf Tryz.prog 150 = some ty150 := by kernel_rfl
def ty152 : Ty := ⟨(.array 8 5), 8, 8, [(.int .u8 0), (.int .u8 0), (.int .u8 0), (.int .u8 0), (.int .u8 0), (.int .u8 0), (.int .u8 0), (.int .u8 0)], true⟩
theorem tyOk152 : tyOf Tryz.prog 152 = some ty152 := by kernel_rfl
def ty153 : Ty := ⟨(.slice 345), 1, 24, [(.slice none 0 0)], true⟩
theorem tyOk153 : tyOf Tryz.prog 153 = some ty153 := by kernel_rfl
def ty155 : Ty := ⟨(.struct [(5, 0, true), (152, 1, true), (153, 9, true), (4, 10, true), (4, 11, true)]), 12, 48, [(.int .u8 0), (.int .u8 0), (.int .u8 0), (.int .u8 0), (.int .u8 0), (.int .u8 0), (.int .u8 0), (.int .u8 0), (.int .u8 0), (.slice none 0 0), (.bool false), (.bool false)], true⟩
theorem tyOk155 : tyOf Tryz.prog 155 = some ty155 := by kernel_rfl
def ty164 : Ty := ⟨.func, 1, 8, [.nilFunc], true⟩
theorem tyOk164 : tyOf Tryz.prog 164 = some ty164 := by kernel_rfl
def ty168 : Ty := ⟨(.slice 63), 1, 24, [(.slice none 0 0)], true⟩
theorem tyOk168 : tyOf Tryz.prog 168 = some ty168 := by kernel_rfl
def ty170 : Ty := ⟨(.map 9 203), 1, 8, [(.map none)], true⟩
theorem tyOk170 : tyOf Tryz.prog 170 = some ty170 := by kernel_rfl
def ty177 : Ty := ⟨(.ptr 42), 1, 8, [(.pointer none)], true⟩
theorem tyOk177 : tyOf Tryz.prog 177 = some ty177 := by kernel_rfl
def ty178 : Ty := ⟨(.map 5 9), 1, 8, [(.map none)], true⟩
theorem tyOk178 : tyOf Tryz.prog 178 = some ty178 := by kernel_rfl
def ty181 : Ty := ⟨(.slice 148), 1, 24, [(.slice none 0 0)], true⟩
theorem tyOk181 : tyOf Tryz.prog 181 = some ty181 := by kernel_rfl
def ty194 : Ty := ⟨(.ptr 90), 1, 8, [(.pointer none)], true⟩
theorem tyOk194 : tyOf Tryz.prog 194 = some ty194 := by kernel_rfl
def ty200 : Ty := ⟨.func, 1, 8, [.nilFunc], true⟩
theorem tyOk200 : tyOf Tryz.prog 200 = some ty200 := by kernel_rfl
def ty203 : Ty := ⟨.func, 1, 8, [.nilFunc], true⟩
theorem tyOk203 : tyOf Tryz.prog 203 = some ty203 := by kernel_rfl
def ty204 : Ty := ⟨(.int .i64), 1, 8, [(.int .i64 0)], true⟩
theorem tyOk204 : tyOf Tryz.prog 204 = some ty204 := by kernel_rfl
def ty206 : Ty := ⟨(.struct [(9, 0, true), (204, 1, true), (204, 2, true), (204, 3, true)]), 4, 40, [(.string ⟨#[]⟩), (.int .i64 0), (.int .i64 0), (.int .i64 0)], true⟩
theorem tyOk206 : tyOf Tryz.prog 206 = some ty206 := by kernel_rfl
def ty207 : Ty := ⟨(.ptr 211), 1, 8, [(.pointer none)], true⟩
theorem tyOk207 : tyOf Tryz.prog 207 = some ty207 := by kernel_rfl
def ty209 : Ty := ⟨(.struct [(22, 0, true)]), 1, 24, [(.slice none 0 0)], true⟩
theorem tyOk209 : tyOf Tryz.prog 209 = some ty209 := by kernel_rfl
def ty211 : Ty := ⟨(.struct [(209, 0, true)]), 1, 24, [(.slice none 0 0)], true⟩
theorem tyOk211 : tyOf Tryz.prog 211 = some ty211 := by kernel_rfl
def ty216 : Ty := ⟨.func, 1, 8, [.nilFunc], true⟩
theorem tyOk216 : tyOf Tryz.prog 216 = some ty216 := by kernel_rfl
def ty217 : Ty := ⟨.func, 1, 8, [.nilFunc], true⟩
theorem tyOk217 : tyOf Tryz.prog 217 = some ty217 := by kernel_rfl
def ty225 : Ty := ⟨(.struct [(206, 0, true), (3, 4, true), (3, 5, true)]), 6, 56, [(.string ⟨#[]⟩), (.int .i64 0), (.int .i64 0), (.int .i64 0), (.int .i64 0), (.int .i64 0)], true⟩
theorem tyOk225 : tyOf Tryz.prog 225 = some ty225 := by kernel_rfl
def ty230 : Ty := ⟨(.ptr 36), 1, 8, [(.pointer none)], true⟩
theorem tyOk230 : tyOf Tryz.prog 230 = some ty230 := by kernel_rfl
def ty235 : Ty := ⟨(.slice 239), 1, 24, [(.slice none 0 0)], true⟩
theorem tyOk235 : tyOf Tryz.prog 235 = some ty235 := by kernel_rfl
def ty237 : Ty := ⟨(.ptr 29), 1, 8, [(.pointer none)], true⟩
theorem tyOk237 : tyOf Tryz.prog 237 = some ty237 := by kernel_rfl
def ty239 : Ty := ⟨(.struct [(100, 0, true), (47, 1, true)]), 2, 16, [(.int .i64 0), .nilFunc], true⟩
theorem tyOk239 : tyOf Tryz.prog 239 = some ty239 := by kernel_rfl
def ty249 : Ty := ⟨(.ptr 209), 1, 8, [(.pointer none)], true⟩
theorem tyOk249 : tyOf Tryz.prog 249 = some ty249 := by kernel_rfl
def ty252 : Ty := ⟨(.slice 254), 1, 24, [(.slice none 0 0)], true⟩
theorem tyOk252 : tyOf Tryz.prog 252 = some ty252 := by kernel_rfl
def ty254 : Ty := ⟨(.struct [(3, 0, true), (3, 1, true)]), 2, 16, [(.int .i64 0), (.int .i64 0)], true⟩
theorem tyOk254 : tyOf Tryz.prog 254 = some ty254 := by kernel_rfl
def ty257 : Ty := ⟨.func, 1, 8, [.nilFunc], true⟩
theorem tyOk257 : tyOf Tryz.prog 257 = some ty257 := by kernel_rfl
def ty258 : Ty := ⟨.func, 1, 8, [.nilFunc], true⟩
theorem tyOk258 : tyOf Tryz.prog 258 = some ty258 := by kernel_rfl
def ty265 : Ty := ⟨(.array 15 9), 15, 240, [(.string ⟨#[]⟩), (.string ⟨#[]⟩), (.string ⟨#[]⟩), (.string ⟨#[]⟩), (.string ⟨#[]⟩), (.string ⟨#[]⟩), (.string ⟨#[]⟩), (.string ⟨#[]⟩), (.string ⟨#[]⟩), (.string ⟨#[]⟩), (.string ⟨#[]⟩), (.string ⟨#[]⟩), (.string ⟨#[]⟩), (.string ⟨#[]⟩), (.string ⟨#[]⟩)], true⟩
theorem tyOk265 : tyOf Tryz.prog 265 = some ty265 := by kernel_rfl
def ty266 : Ty := ⟨(.array 7 265), 105, 1680, (List.replicate 105 ([(.string ⟨#[]⟩)] : List Value)).flatten, true⟩
theorem tyOk266 : tyOf Tryz.prog 266 = some ty266 := by kernel_rfl
def ty270 : Ty := ⟨(.slice 275), 1, 24, [(.slice none 0 0)], true⟩
theorem tyOk270 : tyOf Tryz.prog 270 = some ty270 := by kernel_rfl
def ty273 : Ty := ⟨(.int .u8), 1, 1, [(.int .u8 0)], true⟩
theorem tyOk273 : tyOf Tryz.prog 273 = some ty273 := by kernel_rfl
def ty275 : Ty := ⟨(.struct [(273, 0, true), (9, 1, true), (3, 2, true)]), 3, 32, [(.int .u8 0), (.string ⟨#[]⟩), (.int .i64 0)], true⟩
theorem tyOk275 : tyOf Tryz.prog 275 = some ty275 := by kernel_rfl
def ty278 : Ty := ⟨(.struct [(4, 0, true), (5, 1, true)]), 2, 2, [(.bool false), (.int .u8 0)], true⟩
theorem tyOk278 : tyOf Tryz.prog 278 = some ty278 := by kernel_rfl
def ty280 : Ty := ⟨(.struct [(5, 0, true), (5, 1, true), (5, 2, true), (278, 3, true), (278, 5, true), (5, 7, true), (5, 8, true), (5, 9, true)]), 10, 10, [(.int .u8 0), (.int .u8 0), (.int .u8 0), (.bool false), (.int .u8 0), (.bool false), (.int .u8 0), (.int .u8 0), (.int .u8 0), (.int .u8 0)], true⟩
theorem tyOk280 : tyOf Tryz.prog 280 = some ty280 := by kernel_rfl
def ty282 : Ty := ⟨(.struct [(280, 0, true), (3, 10, true), (3, 11, true)]), 12, 32, [(.int .u8 0), (.int .u8 0), (.int .u8 0), (.bool false), (.int .u8 0), (.bool false), (.int .u8 0), (.int .u8 0), (.int .u8 0), (.int .u8 0), (.int .i64 0), (.int .i64 0)], true⟩
theorem tyOk282 : tyOf Tryz.prog 282 = some ty282 := by kernel_rfl
def ty283 : Ty := ⟨(.slice 47), 1, 24, [(.slice none 0 0)], true⟩
theorem tyOk283 : tyOf Tryz.prog 283 = some ty283 := by kernel_rfl
def ty286 : Ty := ⟨(.ptr 27), 1, 8, [(.pointer none)], true⟩
theorem tyOk286 : tyOf Tryz.prog 286 = some ty286 := by kernel_rfl
def ty287 : Ty := ⟨.func, 1, 8, [.nilFunc], true⟩
theorem tyOk287 : tyOf Tryz.prog 287 = some ty287 := by kernel_rfl
def ty288 : Ty := ⟨.func, 1, 8, [.nilFunc], true⟩
theorem tyOk288 : tyOf Tryz.prog 288 = some ty288 := by kernel_rfl
def ty290 : Ty := ⟨(.struct [(287, 0, true), (287, 1, true), (288, 2, true)]), 3, 24, [.nilFunc, .nilFunc, .nilFunc], true⟩
theorem tyOk290 : tyOf Tryz.prog 290 = some ty290 := by kernel_rfl
def ty292 : Ty := ⟨(.map 5 290), 1, 8, [(.map none)], true⟩
theorem tyOk292 : tyOf Tryz.prog 292 = some ty292 := by kernel_rfl
def ty297 : Ty := ⟨(.struct [(9, 0, true), (3, 1, true)]), 2, 24, [(.string ⟨#[]⟩), (.int .i64 0)], true⟩
theorem tyOk297 : tyOf Tryz.prog 297 = some ty297 := by kernel_rfl
def ty299 : Ty := ⟨(.struct [(297, 0, true), (4, 2, true)]), 3, 32, [(.string ⟨#[]⟩), (.int .i64 0), (.bool false)], true⟩
theorem tyOk299 : tyOf Tryz.prog 299 = some ty299 := by kernel_rfl
def ty304 : Ty := ⟨(.ptr 282), 1, 8, [(.pointer none)], true⟩
theorem tyOk304 : tyOf Tryz.prog 304 = some ty304 := by kernel_rfl
def ty318 : Ty := ⟨(.ptr 299), 1, 8, [(.pointer none)], true⟩
theorem tyOk318 : tyOf Tryz.prog 318 = some ty318 := by kernel_rfl
def ty328 : Ty := ⟨(.ptr 297), 1, 8, [(.pointer none)], true⟩
theorem tyOk328 : tyOf Tryz.prog 328 = some ty328 := by kernel_rfl
def ty345 : Ty := ⟨(.struct [(5, 0, true), (5, 1, true)]), 2, 2, [(.int .u8 0), (.int .u8 0)], true⟩
theorem tyOk345 : tyOf Tryz.prog 345 = some ty345 := by kernel_rfl
def passing : List Nat := [20, 21, 39, 66, 67, 68, 69, 73, 74, 77, 78, 81, 99, 100, 101, 102, 107, 111, 114, 117, 120, 126, 127, 128, 129, 130, 131, 133, 134, 135, 136, 137, 138, 139, 140, 144, 145, 146, 147, 151, 152, 154, 155, 156, 164, 165, 166, 168, 170, 171, 172, 173, 175, 176, 178, 179, 180, 181, 188, 196, 201, 202, 203, 204, 205, 206, 207, 209, 210, 211, 220, 221, 223, 224, 225, 226, 227, 229, 230, 231, 141, 160, 105, 148]
def kpL (a b : List Nat) (l : List (List Nat)) (i : Nat) : List Nat := bif Nat.beq i 1000000 then a else bif Nat.beq i 2000000 then b else l.getD i []
/-- A body in short, computed. -/
structure Got (a : M) where
 m : M
 h : a = m
def bodyOf (f : Func) : Code := f.body.getD .skip
/- seisin/seisinlaw32.InvMemory -/
def m3 : M :=
 .seq (.reg [0, 1] [⟨(some 2), .box 44 (.tmp 0), none⟩,
 ⟨(some 4), .assign (.const (.bool false)), none⟩] 0)
 (.seq (.reg [1, 2] [⟨(some 5), .move (.tmp 1), none⟩,
 ⟨(some 6), .call ⟨.builtin .len, #[(.tmp 5)], #[45]⟩, none⟩,
 ⟨(some 7), .binOp .gtr 3 (.tmp 6) (.const (.int .i64 60)) 3, none⟩,
 ⟨(some 8), .move (.tmp 7), none⟩,
 ⟨(some 9), .load 44 (.tmp 2), (some (8, false))⟩,
 ⟨(some 10), .move (.tmp 1), (some (8, false))⟩,
 ⟨(some 11), .call ⟨.value (.func 6), #[(.tmp 9), (.tmp 10)], #[44, 45]⟩, (some (8, false))⟩,
 ⟨(some 12), .load 44 (.tmp 2), (some (8, false))⟩,
 ⟨(some 13), .move (.tmp 1), (some (8, false))⟩,
 ⟨(some 14), .call ⟨.value (.func 7), #[(.tmp 12), (.tmp 13)], #[44, 45]⟩, (some (8, false))⟩,
 ⟨(some 15), .binOp .eql 4 (.tmp 11) (.tmp 14) 4, (some (8, false))⟩,
 ⟨(some 16), .pick (.tmp 8) (.const (.bool true)) (.tmp 15), none⟩,
 ⟨(some 17), .move (.tmp 16), none⟩,
 ⟨(some 18), .call ⟨.value (.func 8), #[], #[]⟩, (some (17, true))⟩,
 ⟨(some 19), .pick (.tmp 17) (.tmp 18) (.const (.bool false)), none⟩,
 ⟨(some 4), .assign (.tmp 19), none⟩] 9)
 (.ret))
def fn3 : MFn := ⟨20, [.tmp 4], m3, .shut⟩
theorem fnOk3 : FnOk Tryz.prog 3 fn3 := ⟨Tryz.f3, _, kpL passing [] [[0, 1], [1, 2]], Tryz.func3, rfl, by kernel_rfl, by kernel_rfl, by kernel_rfl, by kernel_rfl⟩
/- seisin/inv.Atomic -/
def m6_l0 : M :=
 .seq (.reg [2, 5, 13, 14, 15] [⟨(some 16), .binOp .lss 3 (.tmp 15) (.tmp 14) 3, none⟩] 0)
 (.seq (.cond (.tmp 16) (.skip)
 (.exit 0))
 (.seq (.block 1 (.seq (.reg [2, 5, 13, 14, 15] [⟨(some 17), .indexAddr 45 (.tmp 13) (.tmp 15), none⟩,
 ⟨(some 18), .load 52 (.tmp 17), none⟩,
 ⟨(some 7), .alloc 52, none⟩,
 ⟨none, .store 52 (.tmp 7) (.tmp 18), none⟩] 0)
 (.seq (.seq (.reg [2, 5, 7, 13, 14, 15] [⟨(some 19), .fieldAddr 52 (.tmp 7) 1, none⟩,
 ⟨(some 20), .fieldAddr 50 (.tmp 19) 0, none⟩,
 ⟨(some 21), .load 5 (.tmp 20), none⟩] 0)
 (.block 2 (.seq (.seq (.reg [2, 5, 7, 13, 14, 15, 21] [⟨(some 23), .binOp .eql 5 (.tmp 21) (.const (.int .u8 1)) 5, none⟩,
 ⟨(some 22), .assign (.tmp 23), none⟩] 0)
 (.cond (.tmp 22) (.skip)
 (.seq (.reg [2, 5, 7, 13, 14, 15, 21] [⟨(some 24), .binOp .eql 5 (.tmp 21) (.const (.int .u8 2)) 5, none⟩,
 ⟨(some 22), .assign (.tmp 24), none⟩] 0)
 (.cond (.tmp 22) (.skip)
 (.seq (.reg [2, 5, 7, 13, 14, 15, 21] [⟨(some 25), .binOp .eql 5 (.tmp 21) (.const (.int .u8 4)) 5, none⟩,
 ⟨(some 22), .assign (.tmp 25), none⟩] 0)
 (.cond (.tmp 22) (.skip)
 (.seq (.reg [2, 5, 7, 13, 14, 15, 21] [⟨(some 26), .binOp .eql 5 (.tmp 21) (.const (.int .u8 5)) 5, none⟩,
 ⟨(some 22), .assign (.tmp 26), none⟩] 0)
 (.cond (.tmp 22) (.skip)
 (.reg [2, 5, 7, 13, 14, 15, 21] [⟨(some 27), .binOp .eql 5 (.tmp 21) (.const (.int .u8 6)) 5, none⟩,
 ⟨(some 22), .assign (.tmp 27), none⟩] 0)))))))))
 (.cond (.tmp 22) (.skip)
 (.seq (.reg [] [⟨(some 4), .assign (.const (.bool false)), none⟩] 0)
 (.ret))))))
 (.seq (.seq (.reg [2, 5, 7, 13, 14, 15] [⟨(some 28), .fieldAddr 52 (.tmp 7) 0, none⟩,
 ⟨(some 29), .load 5 (.tmp 28), none⟩,
 ⟨(some 30), .convert 5 3 (.tmp 29), none⟩,
 ⟨(some 31), .fieldAddr 44 (.tmp 2) 1, none⟩,
 ⟨(some 32), .fieldAddr 31 (.tmp 31) 0, none⟩,
 ⟨(some 33), .load 3 (.tmp 32), none⟩,
 ⟨(some 34), .binOp .geq 3 (.tmp 30) (.tmp 33) 3, none⟩,
 ⟨(some 35), .move (.tmp 34), none⟩,
 ⟨(some 36), .fieldAddr 52 (.tmp 7) 1, (some (35, false))⟩,
 ⟨(some 37), .fieldAddr 50 (.tmp 36) 1, (some (35, false))⟩,
 ⟨(some 38), .load 5 (.tmp 37), (some (35, false))⟩,
 ⟨(some 39), .binOp .geq 5 (.tmp 38) (.const (.int .u8 6)) 5, (some (35, false))⟩,
 ⟨(some 40), .pick (.tmp 35) (.const (.bool true)) (.tmp 39), none⟩] 0)
 (.cond (.tmp 40) (.seq (.reg [] [⟨(some 4), .assign (.const (.bool false)), none⟩] 0)
 (.ret))
 (.skip)))
 (.seq (.seq (.reg [2, 5, 7, 13, 14, 15] [⟨(some 41), .fieldAddr 52 (.tmp 7) 2, none⟩,
 ⟨(some 42), .load 5 (.tmp 41), none⟩,
 ⟨(some 43), .fieldAddr 52 (.tmp 7) 1, none⟩,
 ⟨(some 44), .fieldAddr 50 (.tmp 43) 1, none⟩,
 ⟨(some 45), .load 5 (.tmp 44), none⟩,
 ⟨(some 46), .indexAddr 48 (.tmp 5) (.tmp 45), none⟩,
 ⟨(some 47), .load 5 (.tmp 46), none⟩,
 ⟨(some 48), .binOp .neq 5 (.tmp 42) (.tmp 47) 5, none⟩,
 ⟨(some 49), .move (.tmp 48), none⟩,
 ⟨(some 50), .fieldAddr 52 (.tmp 7) 3, (some (49, false))⟩,
 ⟨(some 51), .load 5 (.tmp 50), (some (49, false))⟩,
 ⟨(some 52), .fieldAddr 52 (.tmp 7) 1, (some (49, false))⟩,
 ⟨(some 53), .load 50 (.tmp 52), (some (49, false))⟩,
 ⟨(some 54), .fieldAddr 52 (.tmp 7) 2, (some (49, false))⟩,
 ⟨(some 55), .load 5 (.tmp 54), (some (49, false))⟩,
 ⟨(some 56), .call ⟨.value (.func 9), #[(.tmp 53), (.tmp 55)], #[50, 5]⟩, (some (49, false))⟩,
 ⟨(some 57), .binOp .neq 5 (.tmp 51) (.tmp 56) 5, (some (49, false))⟩,
 ⟨(some 58), .pick (.tmp 49) (.const (.bool true)) (.tmp 57), none⟩] 16)
 (.cond (.tmp 58) (.seq (.reg [] [⟨(some 4), .assign (.const (.bool false)), none⟩] 0)
 (.ret))
 (.skip)))
 (.reg [2, 5, 7, 13, 14, 15] [⟨(some 59), .fieldAddr 52 (.tmp 7) 1, none⟩,
 ⟨(some 60), .fieldAddr 50 (.tmp 59) 1, none⟩,
 ⟨(some 61), .load 5 (.tmp 60), none⟩,
 ⟨(some 62), .fieldAddr 52 (.tmp 7) 3, none⟩,
 ⟨(some 63), .load 5 (.tmp 62), none⟩,
 ⟨(some 64), .indexAddr 48 (.tmp 5) (.tmp 61), none⟩,
 ⟨none, .store 5 (.tmp 64) (.tmp 63), none⟩] 0))))))
 (.reg [2, 5, 13, 14, 15] [⟨(some 65), .binOp .add 3 (.tmp 15) (.const (.int .i64 1)) 3, none⟩,
 ⟨(some 15), .move (.tmp 65), none⟩] 0)))
theorem u6_l0 {C : Ctx} {k : List It} {st : St} {Q : Ex → St → Prop} : RunK C (.code m6_l0 :: k) st Q ↔ RunK C (.code (.seq (.reg [2, 5, 13, 14, 15] [⟨(some 16), .binOp .lss 3 (.tmp 15) (.tmp 14) 3, none⟩] 0)
 (.seq (.cond (.tmp 16) (.skip)
 (.exit 0))
 (.seq (.block 1 (.seq (.reg [2, 5, 13, 14, 15] [⟨(some 17), .indexAddr 45 (.tmp 13) (.tmp 15), none⟩,
 ⟨(some 18), .load 52 (.tmp 17), none⟩,
 ⟨(some 7), .alloc 52, none⟩,
 ⟨none, .store 52 (.tmp 7) (.tmp 18), none⟩] 0)
 (.seq (.seq (.reg [2, 5, 7, 13, 14, 15] [⟨(some 19), .fieldAddr 52 (.tmp 7) 1, none⟩,
 ⟨(some 20), .fieldAddr 50 (.tmp 19) 0, none⟩,
 ⟨(some 21), .load 5 (.tmp 20), none⟩] 0)
 (.block 2 (.seq (.seq (.reg [2, 5, 7, 13, 14, 15, 21] [⟨(some 23), .binOp .eql 5 (.tmp 21) (.const (.int .u8 1)) 5, none⟩,
 ⟨(some 22), .assign (.tmp 23), none⟩] 0)
 (.cond (.tmp 22) (.skip)
 (.seq (.reg [2, 5, 7, 13, 14, 15, 21] [⟨(some 24), .binOp .eql 5 (.tmp 21) (.const (.int .u8 2)) 5, none⟩,
 ⟨(some 22), .assign (.tmp 24), none⟩] 0)
 (.cond (.tmp 22) (.skip)
 (.seq (.reg [2, 5, 7, 13, 14, 15, 21] [⟨(some 25), .binOp .eql 5 (.tmp 21) (.const (.int .u8 4)) 5, none⟩,
 ⟨(some 22), .assign (.tmp 25), none⟩] 0)
 (.cond (.tmp 22) (.skip)
 (.seq (.reg [2, 5, 7, 13, 14, 15, 21] [⟨(some 26), .binOp .eql 5 (.tmp 21) (.const (.int .u8 5)) 5, none⟩,
 ⟨(some 22), .assign (.tmp 26), none⟩] 0)
 (.cond (.tmp 22) (.skip)
 (.reg [2, 5, 7, 13, 14, 15, 21] [⟨(some 27), .binOp .eql 5 (.tmp 21) (.const (.int .u8 6)) 5, none⟩,
 ⟨(some 22), .assign (.tmp 27), none⟩] 0)))))))))
 (.cond (.tmp 22) (.skip)
 (.seq (.reg [] [⟨(some 4), .assign (.const (.bool false)), none⟩] 0)
 (.ret))))))
 (.seq (.seq (.reg [2, 5, 7, 13, 14, 15] [⟨(some 28), .fieldAddr 52 (.tmp 7) 0, none⟩,
 ⟨(some 29), .load 5 (.tmp 28), none⟩,
 ⟨(some 30), .convert 5 3 (.tmp 29), none⟩,
 ⟨(some 31), .fieldAddr 44 (.tmp 2) 1, none⟩,
 ⟨(some 32), .fieldAddr 31 (.tmp 31) 0, none⟩,
 ⟨(some 33), .load 3 (.tmp 32), none⟩,
 ⟨(some 34), .binOp .geq 3 (.tmp 30) (.tmp 33) 3, none⟩,
 ⟨(some 35), .move (.tmp 34), none⟩,
 ⟨(some 36), .fieldAddr 52 (.tmp 7) 1, (some (35, false))⟩,
 ⟨(some 37), .fieldAddr 50 (.tmp 36) 1, (some (35, false))⟩,
 ⟨(some 38), .load 5 (.tmp 37), (some (35, false))⟩,
 ⟨(some 39), .binOp .geq 5 (.tmp 38) (.const (.int .u8 6)) 5, (some (35, false))⟩,
 ⟨(some 40), .pick (.tmp 35) (.const (.bool true)) (.tmp 39), none⟩] 0)
 (.cond (.tmp 40) (.seq (.reg [] [⟨(some 4), .assign (.const (.bool false)), none⟩] 0)
 (.ret))
 (.skip)))
 (.seq (.seq (.reg [2, 5, 7, 13, 14, 15] [⟨(some 41), .fieldAddr 52 (.tmp 7) 2, none⟩,
 ⟨(some 42), .load 5 (.tmp 41), none⟩,
 ⟨(some 43), .fieldAddr 52 (.tmp 7) 1, none⟩,
 ⟨(some 44), .fieldAddr 50 (.tmp 43) 1, none⟩,
 ⟨(some 45), .load 5 (.tmp 44), none⟩,
 ⟨(some 46), .indexAddr 48 (.tmp 5) (.tmp 45), none⟩,
 ⟨(some 47), .load 5 (.tmp 46), none⟩,
 ⟨(some 48), .binOp .neq 5 (.tmp 42) (.tmp 47) 5, none⟩,
 ⟨(some 49), .move (.tmp 48), none⟩,
 ⟨(some 50), .fieldAddr 52 (.tmp 7) 3, (some (49, false))⟩,
 ⟨(some 51), .load 5 (.tmp 50), (some (49, false))⟩,
 ⟨(some 52), .fieldAddr 52 (.tmp 7) 1, (some (49, false))⟩,
 ⟨(some 53), .load 50 (.tmp 52), (some (49, false))⟩,
 ⟨(some 54), .fieldAddr 52 (.tmp 7) 2, (some (49, false))⟩,
 ⟨(some 55), .load 5 (.tmp 54), (some (49, false))⟩,
 ⟨(some 56), .call ⟨.value (.func 9), #[(.tmp 53), (.tmp 55)], #[50, 5]⟩, (some (49, false))⟩,
 ⟨(some 57), .binOp .neq 5 (.tmp 51) (.tmp 56) 5, (some (49, false))⟩,
 ⟨(some 58), .pick (.tmp 49) (.const (.bool true)) (.tmp 57), none⟩] 16)
 (.cond (.tmp 58) (.seq (.reg [] [⟨(some 4), .assign (.const (.bool false)), none⟩] 0)
 (.ret))
 (.skip)))
 (.reg [2, 5, 7, 13, 14, 15] [⟨(some 59), .fieldAddr 52 (.tmp 7) 1, none⟩,
 ⟨(some 60), .fieldAddr 50 (.tmp 59) 1, none⟩,
 ⟨(some 61), .load 5 (.tmp 60), none⟩,
 ⟨(some 62), .fieldAddr 52 (.tmp 7) 3, none⟩,
 ⟨(some 63), .load 5 (.tmp 62), none⟩,
 ⟨(some 64), .indexAddr 48 (.tmp 5) (.tmp 61), none⟩,
 ⟨none, .store 5 (.tmp 64) (.tmp 63), none⟩] 0))))))
 (.reg [2, 5, 13, 14, 15] [⟨(some 65), .binOp .add 3 (.tmp 15) (.const (.int .i64 1)) 3, none⟩,
 ⟨(some 15), .move (.tmp 65), none⟩] 0)))) :: k) st Q := Iff.rfl
def m6 : M :=
 .seq (.reg [0, 1] [⟨(some 2), .box 44 (.tmp 0), none⟩,
 ⟨(some 4), .assign (.const (.bool false)), none⟩] 0)
 (.seq (.reg [1, 2] [⟨(some 5), .alloc 48, none⟩] 0)
 (.seq (.reg [1, 2, 5] [⟨(some 8), .slice 48 (.tmp 5) none none none, none⟩,
 ⟨(some 9), .fieldAddr 44 (.tmp 2) 0, none⟩,
 ⟨(some 10), .fieldAddr 29 (.tmp 9) 2, none⟩,
 ⟨(some 11), .load 23 (.tmp 10), none⟩,
 ⟨(some 12), .call ⟨.builtin .copy, #[(.tmp 8), (.tmp 11)], #[23, 23]⟩, none⟩] 4)
 (.seq (.seq (.reg [1, 2, 5] [⟨(some 13), .move (.tmp 1), none⟩,
 ⟨(some 14), .call ⟨.builtin .len, #[(.tmp 13)], #[45]⟩, none⟩,
 ⟨(some 15), .move (.const (.int .i64 0)), none⟩] 0)
 (.block 0 (.loop (m6_l0))))
 (.seq (.reg [] [⟨(some 4), .assign (.const (.bool true)), none⟩] 0)
 (.ret)))))
def fn6 : MFn := ⟨66, [.tmp 4], m6, .shut⟩
theorem fnOk6 : FnOk Tryz.prog 6 fn6 := ⟨Tryz.f6, _, kpL passing [] [[0, 1], [1, 2], [1, 2, 5], [1, 2, 5], [2, 5, 13, 14, 15], [2, 5, 13, 14, 15], [2, 5, 7, 13, 14, 15], [], [2, 5, 7, 13, 14, 15, 21], [2, 5, 7, 13, 14, 15, 21], [2, 5, 7, 13, 14, 15, 21], [2, 5, 7, 13, 14, 15, 21], [2, 5, 7, 13, 14, 15, 21], [2, 5, 7, 13, 14, 15], [], [2, 5, 7, 13, 14, 15], [], [2, 5, 7, 13, 14, 15], [2, 5, 13, 14, 15], []], Tryz.func6, rfl, by kernel_rfl, by kernel_rfl, by kernel_rfl, by kernel_rfl⟩
/- seisin/seisinref32.Atomic -/
def m7_l1 : M :=
 .seq (.seq (.reg [1, 2, 5, 6, 7, 8] [⟨(some 37), .move (.tmp 8), none⟩,
 ⟨(some 38), .move (.tmp 5), none⟩,
 ⟨(some 39), .binOp .lss 3 (.tmp 37) (.tmp 38) 3, none⟩] 0)
 (.cond (.tmp 39) (.skip)
 (.exit 2)))
 (.seq (.block 3 (.seq (.reg [1, 2, 5, 6, 7, 8] [⟨(some 42), .move (.tmp 1), none⟩,
 ⟨(some 43), .move (.tmp 8), none⟩,
 ⟨(some 44), .indexAddr 45 (.tmp 42) (.tmp 43), none⟩,
 ⟨(some 45), .fieldAddr 52 (.tmp 44) 1, none⟩,
 ⟨(some 46), .fieldAddr 50 (.tmp 45) 1, none⟩,
 ⟨(some 47), .load 5 (.tmp 46), none⟩,
 ⟨(some 48), .fieldAddr 52 (.tmp 6) 1, none⟩,
 ⟨(some 49), .fieldAddr 50 (.tmp 48) 1, none⟩,
 ⟨(some 50), .load 5 (.tmp 49), none⟩,
 ⟨(some 51), .binOp .eql 5 (.tmp 47) (.tmp 50) 5, none⟩] 9)
 (.cond (.tmp 51) (.reg [1, 2, 5, 6, 8] [⟨(some 52), .move (.tmp 1), none⟩,
 ⟨(some 53), .move (.tmp 8), none⟩,
 ⟨(some 54), .indexAddr 45 (.tmp 52) (.tmp 53), none⟩,
 ⟨(some 55), .fieldAddr 52 (.tmp 54) 3, none⟩,
 ⟨(some 56), .load 5 (.tmp 55), none⟩,
 ⟨(some 7), .assign (.tmp 56), none⟩] 0)
 (.skip))))
 (.reg [1, 2, 5, 6, 7, 8] [⟨(some 40), .move (.tmp 8), none⟩,
 ⟨(some 41), .binOp .add 3 (.tmp 40) (.const (.int .i64 1)) 3, none⟩,
 ⟨(some 8), .assign (.tmp 41), none⟩] 0))
def m7_l0 : M :=
 .seq (.seq (.reg [1, 2, 5] [⟨(some 10), .move (.tmp 5), none⟩,
 ⟨(some 11), .move (.tmp 1), none⟩,
 ⟨(some 12), .call ⟨.builtin .len, #[(.tmp 11)], #[45]⟩, none⟩,
 ⟨(some 13), .binOp .lss 3 (.tmp 10) (.tmp 12) 3, none⟩] 0)
 (.cond (.tmp 13) (.skip)
 (.exit 0)))
 (.seq (.block 1 (.seq (.reg [1, 2, 5] [⟨(some 16), .move (.tmp 1), none⟩,
 ⟨(some 17), .move (.tmp 5), none⟩,
 ⟨(some 18), .indexAddr 45 (.tmp 16) (.tmp 17), none⟩,
 ⟨(some 19), .load 52 (.tmp 18), none⟩,
 ⟨(some 6), .alloc 52, none⟩,
 ⟨none, .store 52 (.tmp 6) (.tmp 19), none⟩] 0)
 (.seq (.reg [1, 2, 5, 6] [⟨(some 7), .assign (.const (.int .u8 0)), none⟩] 0)
 (.seq (.seq (.reg [1, 2, 5, 6, 7] [⟨(some 20), .fieldAddr 52 (.tmp 6) 1, none⟩,
 ⟨(some 21), .fieldAddr 50 (.tmp 20) 1, none⟩,
 ⟨(some 22), .load 5 (.tmp 21), none⟩,
 ⟨(some 23), .convert 5 3 (.tmp 22), none⟩,
 ⟨(some 24), .fieldAddr 44 (.tmp 2) 0, none⟩,
 ⟨(some 25), .fieldAddr 29 (.tmp 24) 2, none⟩,
 ⟨(some 26), .load 23 (.tmp 25), none⟩,
 ⟨(some 27), .call ⟨.builtin .len, #[(.tmp 26)], #[23]⟩, none⟩,
 ⟨(some 28), .binOp .lss 3 (.tmp 23) (.tmp 27) 3, none⟩] 0)
 (.cond (.tmp 28) (.reg [1, 2, 5, 6] [⟨(some 29), .fieldAddr 44 (.tmp 2) 0, none⟩,
 ⟨(some 30), .fieldAddr 29 (.tmp 29) 2, none⟩,
 ⟨(some 31), .load 23 (.tmp 30), none⟩,
 ⟨(some 32), .fieldAddr 52 (.tmp 6) 1, none⟩,
 ⟨(some 33), .fieldAddr 50 (.tmp 32) 1, none⟩,
 ⟨(some 34), .load 5 (.tmp 33), none⟩,
 ⟨(some 35), .indexAddr 23 (.tmp 31) (.tmp 34), none⟩,
 ⟨(some 36), .load 5 (.tmp 35), none⟩,
 ⟨(some 7), .assign (.tmp 36), none⟩] 0)
 (.skip)))
 (.seq (.seq (.reg [1, 2, 5, 6, 7] [⟨(some 8), .assign (.const (.int .i64 0)), none⟩] 0)
 (.block 2 (.loop (m7_l1))))
 (.seq (.reg [1, 2, 5, 6, 7] [⟨(some 57), .fieldAddr 52 (.tmp 6) 1, none⟩,
 ⟨(some 58), .fieldAddr 50 (.tmp 57) 0, none⟩,
 ⟨(some 59), .load 5 (.tmp 58), none⟩,
 ⟨(some 9), .assign (.tmp 59), none⟩] 0)
 (.seq (.reg [1, 2, 5, 6, 7, 9] [⟨(some 60), .fieldAddr 52 (.tmp 6) 0, none⟩,
 ⟨(some 61), .load 5 (.tmp 60), none⟩,
 ⟨(some 62), .convert 5 3 (.tmp 61), none⟩,
 ⟨(some 63), .fieldAddr 44 (.tmp 2) 1, none⟩,
 ⟨(some 64), .fieldAddr 31 (.tmp 63) 0, none⟩,
 ⟨(some 65), .load 3 (.tmp 64), none⟩,
 ⟨(some 66), .binOp .geq 3 (.tmp 62) (.tmp 65) 3, none⟩,
 ⟨(some 67), .move (.tmp 66), none⟩,
 ⟨(some 68), .move (.tmp 9), (some (67, false))⟩,
 ⟨(some 69), .binOp .eql 5 (.tmp 68) (.const (.int .u8 1)) 5, (some (67, false))⟩,
 ⟨(some 70), .move (.tmp 69), (some (67, false))⟩,
 ⟨(some 71), .move (.tmp 9), (some (70, false))⟩,
 ⟨(some 72), .binOp .eql 5 (.tmp 71) (.const (.int .u8 2)) 5, (some (70, false))⟩,
 ⟨(some 73), .pick (.tmp 70) (.const (.bool true)) (.tmp 72), (some (67, false))⟩,
 ⟨(some 74), .move (.tmp 73), (some (67, false))⟩,
 ⟨(some 75), .move (.tmp 9), (some (74, false))⟩,
 ⟨(some 76), .binOp .eql 5 (.tmp 75) (.const (.int .u8 4)) 5, (some (74, false))⟩,
 ⟨(some 77), .pick (.tmp 74) (.const (.bool true)) (.tmp 76), (some (67, false))⟩,
 ⟨(some 78), .move (.tmp 77), (some (67, false))⟩,
 ⟨(some 79), .move (.tmp 9), (some (78, false))⟩,
 ⟨(some 80), .binOp .eql 5 (.tmp 79) (.const (.int .u8 5)) 5, (some (78, false))⟩,
 ⟨(some 81), .pick (.tmp 78) (.const (.bool true)) (.tmp 80), (some (67, false))⟩,
 ⟨(some 82), .move (.tmp 81), (some (67, false))⟩,
 ⟨(some 83), .move (.tmp 9), (some (82, false))⟩,
 ⟨(some 84), .binOp .eql 5 (.tmp 83) (.const (.int .u8 6)) 5, (some (82, false))⟩,
 ⟨(some 85), .pick (.tmp 82) (.const (.bool true)) (.tmp 84), (some (67, false))⟩,
 ⟨(some 86), .unOp .not 4 (.tmp 85), (some (67, false))⟩,
 ⟨(some 87), .pick (.tmp 67) (.const (.bool true)) (.tmp 86), none⟩,
 ⟨(some 88), .move (.tmp 87), none⟩,
 ⟨(some 89), .fieldAddr 52 (.tmp 6) 1, (some (88, false))⟩,
 ⟨(some 90), .fieldAddr 50 (.tmp 89) 1, (some (88, false))⟩,
 ⟨(some 91), .load 5 (.tmp 90), (some (88, false))⟩,
 ⟨(some 92), .binOp .gtr 5 (.tmp 91) (.const (.int .u8 5)) 5, (some (88, false))⟩,
 ⟨(some 93), .pick (.tmp 88) (.const (.bool true)) (.tmp 92), none⟩,
 ⟨(some 94), .move (.tmp 93), none⟩,
 ⟨(some 95), .fieldAddr 52 (.tmp 6) 2, (some (94, false))⟩,
 ⟨(some 96), .load 5 (.tmp 95), (some (94, false))⟩,
 ⟨(some 97), .move (.tmp 7), (some (94, false))⟩,
 ⟨(some 98), .binOp .neq 5 (.tmp 96) (.tmp 97) 5, (some (94, false))⟩,
 ⟨(some 99), .pick (.tmp 94) (.const (.bool true)) (.tmp 98), none⟩,
 ⟨(some 100), .move (.tmp 99), none⟩,
 ⟨(some 101), .fieldAddr 52 (.tmp 6) 3, (some (100, false))⟩,
 ⟨(some 102), .load 5 (.tmp 101), (some (100, false))⟩,
 ⟨(some 103), .fieldAddr 52 (.tmp 6) 1, (some (100, false))⟩,
 ⟨(some 104), .load 50 (.tmp 103), (some (100, false))⟩,
 ⟨(some 105), .move (.tmp 7), (some (100, false))⟩,
 ⟨(some 106), .call ⟨.value (.func 19), #[(.tmp 104), (.tmp 105)], #[50, 5]⟩, (some (100, false))⟩,
 ⟨(some 107), .binOp .neq 5 (.tmp 102) (.tmp 106) 5, (some (100, false))⟩,
 ⟨(some 108), .pick (.tmp 100) (.const (.bool true)) (.tmp 107), none⟩] 47)
 (.cond (.tmp 108) (.seq (.reg [] [⟨(some 4), .assign (.const (.bool false)), none⟩] 0)
 (.ret))
 (.skip)))))))))
 (.reg [1, 2, 5] [⟨(some 14), .move (.tmp 5), none⟩,
 ⟨(some 15), .binOp .add 3 (.tmp 14) (.const (.int .i64 1)) 3, none⟩,
 ⟨(some 5), .assign (.tmp 15), none⟩] 0))
theorem u7_l1 {C : Ctx} {k : List It} {st : St} {Q : Ex → St → Prop} : RunK C (.code m7_l1 :: k) st Q ↔ RunK C (.code (.seq (.seq (.reg [1, 2, 5, 6, 7, 8] [⟨(some 37), .move (.tmp 8), none⟩,
 ⟨(some 38), .move (.tmp 5), none⟩,
 ⟨(some 39), .binOp .lss 3 (.tmp 37) (.tmp 38) 3, none⟩] 0)
 (.cond (.tmp 39) (.skip)
 (.exit 2)))
 (.seq (.block 3 (.seq (.reg [1, 2, 5, 6, 7, 8] [⟨(some 42), .move (.tmp 1), none⟩,
 ⟨(some 43), .move (.tmp 8), none⟩,
 ⟨(some 44), .indexAddr 45 (.tmp 42) (.tmp 43), none⟩,
 ⟨(some 45), .fieldAddr 52 (.tmp 44) 1, none⟩,
 ⟨(some 46), .fieldAddr 50 (.tmp 45) 1, none⟩,
 ⟨(some 47), .load 5 (.tmp 46), none⟩,
 ⟨(some 48), .fieldAddr 52 (.tmp 6) 1, none⟩,
 ⟨(some 49), .fieldAddr 50 (.tmp 48) 1, none⟩,
 ⟨(some 50), .load 5 (.tmp 49), none⟩,
 ⟨(some 51), .binOp .eql 5 (.tmp 47) (.tmp 50) 5, none⟩] 9)
 (.cond (.tmp 51) (.reg [1, 2, 5, 6, 8] [⟨(some 52), .move (.tmp 1), none⟩,
 ⟨(some 53), .move (.tmp 8), none⟩,
 ⟨(some 54), .indexAddr 45 (.tmp 52) (.tmp 53), none⟩,
 ⟨(some 55), .fieldAddr 52 (.tmp 54) 3, none⟩,
 ⟨(some 56), .load 5 (.tmp 55), none⟩,
 ⟨(some 7), .assign (.tmp 56), none⟩] 0)
 (.skip))))
 (.reg [1, 2, 5, 6, 7, 8] [⟨(some 40), .move (.tmp 8), none⟩,
 ⟨(some 41), .binOp .add 3 (.tmp 40) (.const (.int .i64 1)) 3, none⟩,
 ⟨(some 8), .assign (.tmp 41), none⟩] 0))) :: k) st Q := Iff.rfl
theorem u7_l0 {C : Ctx} {k : List It} {st : St} {Q : Ex → St → Prop} : RunK C (.code m7_l0 :: k) st Q ↔ RunK C (.code (.seq (.seq (.reg [1, 2, 5] [⟨(some 10), .move (.tmp 5), none⟩,
 ⟨(some 11), .move (.tmp 1), none⟩,
 ⟨(some 12), .call ⟨.builtin .len, #[(.tmp 11)], #[45]⟩, none⟩,
 ⟨(some 13), .binOp .lss 3 (.tmp 10) (.tmp 12) 3, none⟩] 0)
 (.cond (.tmp 13) (.skip)
 (.exit 0)))
 (.seq (.block 1 (.seq (.reg [1, 2, 5] [⟨(some 16), .move (.tmp 1), none⟩,
 ⟨(some 17), .move (.tmp 5), none⟩,
 ⟨(some 18), .indexAddr 45 (.tmp 16) (.tmp 17), none⟩,
 ⟨(some 19), .load 52 (.tmp 18), none⟩,
 ⟨(some 6), .alloc 52, none⟩,
 ⟨none, .store 52 (.tmp 6) (.tmp 19), none⟩] 0)
 (.seq (.reg [1, 2, 5, 6] [⟨(some 7), .assign (.const (.int .u8 0)), none⟩] 0)
 (.seq (.seq (.reg [1, 2, 5, 6, 7] [⟨(some 20), .fieldAddr 52 (.tmp 6) 1, none⟩,
 ⟨(some 21), .fieldAddr 50 (.tmp 20) 1, none⟩,
 ⟨(some 22), .load 5 (.tmp 21), none⟩,
 ⟨(some 23), .convert 5 3 (.tmp 22), none⟩,
 ⟨(some 24), .fieldAddr 44 (.tmp 2) 0, none⟩,
 ⟨(some 25), .fieldAddr 29 (.tmp 24) 2, none⟩,
 ⟨(some 26), .load 23 (.tmp 25), none⟩,
 ⟨(some 27), .call ⟨.builtin .len, #[(.tmp 26)], #[23]⟩, none⟩,
 ⟨(some 28), .binOp .lss 3 (.tmp 23) (.tmp 27) 3, none⟩] 0)
 (.cond (.tmp 28) (.reg [1, 2, 5, 6] [⟨(some 29), .fieldAddr 44 (.tmp 2) 0, none⟩,
 ⟨(some 30), .fieldAddr 29 (.tmp 29) 2, none⟩,
 ⟨(some 31), .load 23 (.tmp 30), none⟩,
 ⟨(some 32), .fieldAddr 52 (.tmp 6) 1, none⟩,
 ⟨(some 33), .fieldAddr 50 (.tmp 32) 1, none⟩,
 ⟨(some 34), .load 5 (.tmp 33), none⟩,
 ⟨(some 35), .indexAddr 23 (.tmp 31) (.tmp 34), none⟩,
 ⟨(some 36), .load 5 (.tmp 35), none⟩,
 ⟨(some 7), .assign (.tmp 36), none⟩] 0)
 (.skip)))
 (.seq (.seq (.reg [1, 2, 5, 6, 7] [⟨(some 8), .assign (.const (.int .i64 0)), none⟩] 0)
 (.block 2 (.loop (m7_l1))))
 (.seq (.reg [1, 2, 5, 6, 7] [⟨(some 57), .fieldAddr 52 (.tmp 6) 1, none⟩,
 ⟨(some 58), .fieldAddr 50 (.tmp 57) 0, none⟩,
 ⟨(some 59), .load 5 (.tmp 58), none⟩,
 ⟨(some 9), .assign (.tmp 59), none⟩] 0)
 (.seq (.reg [1, 2, 5, 6, 7, 9] [⟨(some 60), .fieldAddr 52 (.tmp 6) 0, none⟩,
 ⟨(some 61), .load 5 (.tmp 60), none⟩,
 ⟨(some 62), .convert 5 3 (.tmp 61), none⟩,
 ⟨(some 63), .fieldAddr 44 (.tmp 2) 1, none⟩,
 ⟨(some 64), .fieldAddr 31 (.tmp 63) 0, none⟩,
 ⟨(some 65), .load 3 (.tmp 64), none⟩,
 ⟨(some 66), .binOp .geq 3 (.tmp 62) (.tmp 65) 3, none⟩,
 ⟨(some 67), .move (.tmp 66), none⟩,
 ⟨(some 68), .move (.tmp 9), (some (67, false))⟩,
 ⟨(some 69), .binOp .eql 5 (.tmp 68) (.const (.int .u8 1)) 5, (some (67, false))⟩,
 ⟨(some 70), .move (.tmp 69), (some (67, false))⟩,
 ⟨(some 71), .move (.tmp 9), (some (70, false))⟩,
 ⟨(some 72), .binOp .eql 5 (.tmp 71) (.const (.int .u8 2)) 5, (some (70, false))⟩,
 ⟨(some 73), .pick (.tmp 70) (.const (.bool true)) (.tmp 72), (some (67, false))⟩,
 ⟨(some 74), .move (.tmp 73), (some (67, false))⟩,
 ⟨(some 75), .move (.tmp 9), (some (74, false))⟩,
 ⟨(some 76), .binOp .eql 5 (.tmp 75) (.const (.int .u8 4)) 5, (some (74, false))⟩,
 ⟨(some 77), .pick (.tmp 74) (.const (.bool true)) (.tmp 76), (some (67, false))⟩,
 ⟨(some 78), .move (.tmp 77), (some (67, false))⟩,
 ⟨(some 79), .move (.tmp 9), (some (78, false))⟩,
 ⟨(some 80), .binOp .eql 5 (.tmp 79) (.const (.int .u8 5)) 5, (some (78, false))⟩,
 ⟨(some 81), .pick (.tmp 78) (.const (.bool true)) (.tmp 80), (some (67, false))⟩,
 ⟨(some 82), .move (.tmp 81), (some (67, false))⟩,
 ⟨(some 83), .move (.tmp 9), (some (82, false))⟩,
 ⟨(some 84), .binOp .eql 5 (.tmp 83) (.const (.int .u8 6)) 5, (some (82, false))⟩,
 ⟨(some 85), .pick (.tmp 82) (.const (.bool true)) (.tmp 84), (some (67, false))⟩,
 ⟨(some 86), .unOp .not 4 (.tmp 85), (some (67, false))⟩,
 ⟨(some 87), .pick (.tmp 67) (.const (.bool true)) (.tmp 86), none⟩,
 ⟨(some 88), .move (.tmp 87), none⟩,
 ⟨(some 89), .fieldAddr 52 (.tmp 6) 1, (some (88, false))⟩,
 ⟨(some 90), .fieldAddr 50 (.tmp 89) 1, (some (88, false))⟩,
 ⟨(some 91), .load 5 (.tmp 90), (some (88, false))⟩,
 ⟨(some 92), .binOp .gtr 5 (.tmp 91) (.const (.int .u8 5)) 5, (some (88, false))⟩,
 ⟨(some 93), .pick (.tmp 88) (.const (.bool true)) (.tmp 92), none⟩,
 ⟨(some 94), .move (.tmp 93), none⟩,
 ⟨(some 95), .fieldAddr 52 (.tmp 6) 2, (some (94, false))⟩,
 ⟨(some 96), .load 5 (.tmp 95), (some (94, false))⟩,
 ⟨(some 97), .move (.tmp 7), (some (94, false))⟩,
 ⟨(some 98), .binOp .neq 5 (.tmp 96) (.tmp 97) 5, (some (94, false))⟩,
 ⟨(some 99), .pick (.tmp 94) (.const (.bool true)) (.tmp 98), none⟩,
 ⟨(some 100), .move (.tmp 99), none⟩,
 ⟨(some 101), .fieldAddr 52 (.tmp 6) 3, (some (100, false))⟩,
 ⟨(some 102), .load 5 (.tmp 101), (some (100, false))⟩,
 ⟨(some 103), .fieldAddr 52 (.tmp 6) 1, (some (100, false))⟩,
 ⟨(some 104), .load 50 (.tmp 103), (some (100, false))⟩,
 ⟨(some 105), .move (.tmp 7), (some (100, false))⟩,
 ⟨(some 106), .call ⟨.value (.func 19), #[(.tmp 104), (.tmp 105)], #[50, 5]⟩, (some (100, false))⟩,
 ⟨(some 107), .binOp .neq 5 (.tmp 102) (.tmp 106) 5, (some (100, false))⟩,
 ⟨(some 108), .pick (.tmp 100) (.const (.bool true)) (.tmp 107), none⟩] 47)
 (.cond (.tmp 108) (.seq (.reg [] [⟨(some 4), .assign (.const (.bool false)), none⟩] 0)
 (.ret))
 (.skip)))))))))
 (.reg [1, 2, 5] [⟨(some 14), .move (.tmp 5), none⟩,
 ⟨(some 15), .binOp .add 3 (.tmp 14) (.const (.int .i64 1)) 3, none⟩,
 ⟨(some 5), .assign (.tmp 15), none⟩] 0))) :: k) st Q := Iff.rfl
def m7 : M :=
 .seq (.reg [0, 1] [⟨(some 2), .box 44 (.tmp 0), none⟩,
 ⟨(some 4), .assign (.const (.bool false)), none⟩] 0)
 (.seq (.seq (.reg [1, 2] [⟨(some 5), .assign (.const (.int .i64 0)), none⟩] 0)
 (.block 0 (.loop (m7_l0))))
 (.seq (.reg [] [⟨(some 4), .assign (.const (.bool true)), none⟩] 0)
 (.ret)))
def fn7 : MFn := ⟨109, [.tmp 4], m7, .shut⟩
theorem fnOk7 : FnOk Tryz.prog 7 fn7 := ⟨Tryz.f7, _, kpL passing [] [[0, 1], [1, 2], [1, 2, 5], [1, 2, 5], [1, 2, 5], [1, 2, 5, 6], [1, 2, 5, 6, 7], [1, 2, 5, 6], [1, 2, 5, 6, 7], [1, 2, 5, 6, 7, 8], [1, 2, 5, 6, 7, 8], [1, 2, 5, 6, 7, 8], [1, 2, 5, 6, 8], [1, 2, 5, 6, 7], [1, 2, 5, 6, 7, 9], [], []], Tryz.func7, rfl, by kernel_rfl, by kernel_rfl, by kernel_rfl, by kernel_rfl⟩
/- seisin/seisinlaw32.awake -/
def g8 : Got (cmp 78 (kpL passing [] [[], [], [1, 2], [], [1, 2], [1, 2, 3], [1, 2, 3], [1, 2, 3, 4, 5], [1, 2, 3, 4, 5, 6]]) (bodyOf Tryz.f8)) := by
 refine ⟨?m, ?h⟩
 case h => conv => lhs; reduce
def m8 : M := g8.m
def fn8 : MFn := ⟨78, [.tmp 0], m8, .shut⟩
theorem fnOk8 : FnOk Tryz.prog 8 fn8 := ⟨Tryz.f8, _, _, Tryz.func8, rfl, rfl, by kernel_rfl, by kernel_rfl, g8.h⟩
/- seisin/cache.After -/
def m9 : M :=
 .seq (.reg [0, 1] [⟨(some 2), .box 50 (.tmp 0), none⟩,
 ⟨(some 4), .assign (.const (.int .u8 0)), none⟩] 0)
 (.seq (.seq (.reg [1, 2] [⟨(some 5), .fieldAddr 50 (.tmp 2) 0, none⟩,
 ⟨(some 6), .load 5 (.tmp 5), none⟩] 0)
 (.block 0 (.seq (.seq (.reg [1, 2, 6] [⟨(some 8), .binOp .eql 5 (.tmp 6) (.const (.int .u8 2)) 5, none⟩,
 ⟨(some 7), .assign (.tmp 8), none⟩] 0)
 (.cond (.tmp 7) (.skip)
 (.reg [1, 2, 6] [⟨(some 9), .binOp .eql 5 (.tmp 6) (.const (.int .u8 4)) 5, none⟩,
 ⟨(some 7), .assign (.tmp 9), none⟩] 0)))
 (.cond (.tmp 7) (.seq (.reg [2] [⟨(some 10), .fieldAddr 50 (.tmp 2) 2, none⟩,
 ⟨(some 11), .load 5 (.tmp 10), none⟩,
 ⟨(some 4), .assign (.tmp 11), none⟩] 0)
 (.ret))
 (.seq (.reg [1, 2, 6] [⟨(some 13), .binOp .eql 5 (.tmp 6) (.const (.int .u8 5)) 5, none⟩,
 ⟨(some 12), .assign (.tmp 13), none⟩] 0)
 (.cond (.tmp 12) (.seq (.reg [1, 2] [⟨(some 14), .move (.tmp 1), none⟩,
 ⟨(some 15), .fieldAddr 50 (.tmp 2) 2, none⟩,
 ⟨(some 16), .load 5 (.tmp 15), none⟩,
 ⟨(some 17), .binOp .add 5 (.tmp 14) (.tmp 16) 5, none⟩,
 ⟨(some 4), .assign (.tmp 17), none⟩] 0)
 (.ret))
 (.seq (.reg [1, 2, 6] [⟨(some 19), .binOp .eql 5 (.tmp 6) (.const (.int .u8 6)) 5, none⟩,
 ⟨(some 18), .assign (.tmp 19), none⟩] 0)
 (.cond (.tmp 18) (.seq (.reg [1, 2] [⟨(some 20), .move (.tmp 1), none⟩,
 ⟨(some 21), .fieldAddr 50 (.tmp 2) 2, none⟩,
 ⟨(some 22), .load 5 (.tmp 21), none⟩,
 ⟨(some 23), .binOp .eql 5 (.tmp 20) (.tmp 22) 5, none⟩] 0)
 (.cond (.tmp 23) (.seq (.reg [2] [⟨(some 24), .fieldAddr 50 (.tmp 2) 3, none⟩,
 ⟨(some 25), .load 5 (.tmp 24), none⟩,
 ⟨(some 4), .assign (.tmp 25), none⟩] 0)
 (.ret))
 (.skip)))
 (.skip)))))))))
 (.seq (.reg [1] [⟨(some 26), .move (.tmp 1), none⟩,
 ⟨(some 4), .assign (.tmp 26), none⟩] 0)
 (.ret)))
def fn9 : MFn := ⟨27, [.tmp 4], m9, .shut⟩
theorem fnOk9 : FnOk Tryz.prog 9 fn9 := ⟨Tryz.f9, _, kpL passing [] [[0, 1], [1, 2], [1, 2, 6], [1, 2, 6], [2], [1, 2, 6], [1, 2], [1, 2, 6], [1, 2], [2], [1]], Tryz.func9, rfl, by kernel_rfl, by kernel_rfl, by kernel_rfl, by kernel_rfl⟩
/- seisin/inv.Shaped -/
def g15 : Got (cmp 64 (kpL passing [] [[0, 1], [2, 3], [], [2, 3], [2, 3, 24, 25, 26], [2, 3, 24, 25, 26], [2, 3, 6, 24, 25, 26], [], [2, 3, 24, 25, 26], [2, 3], [2, 3, 37, 38, 39], [2, 3, 37, 38, 39], [2, 3, 8, 37, 38, 39], [], [2, 3, 37, 38, 39], [2, 3], [2, 3, 51, 52], [2, 3, 51, 52], [2, 3, 9, 51, 52], [], [2, 3, 51, 52], []]) (bodyOf Tryz.f15)) := by
 refine ⟨?m, ?h⟩
 case h => conv => lhs; reduce
def m15 : M := g15.m
def fn15 : MFn := ⟨64, [.tmp 4], m15, .shut⟩
theorem fnOk15 : FnOk Tryz.prog 15 fn15 := ⟨Tryz.f15, _, _, Tryz.func15, rfl, rfl, by kernel_rfl, by kernel_rfl, g15.h⟩
/- seisin/inv.Broken -/
def g17 : Got (cmp 24 (kpL passing [] [[0, 1], [2, 3], [], [2, 3], [2, 3, 11, 12], [2, 3, 11, 12], [2, 3, 5, 11, 12], [5], [2, 3, 11, 12], []]) (bodyOf Tryz.f17)) := by
 refine ⟨?m, ?h⟩
 case h => conv => lhs; cbv
def m17 : M := g17.m
def fn17 : MFn := ⟨24, [.tmp 4], m17, .shut⟩
theorem fnOk17 : FnOk Tryz.prog 17 fn17 := ⟨Tryz.f17, _, _, Tryz.func17, rfl, rfl, by kernel_rfl, by kernel_rfl, g17.h⟩
/- seisin/seisinref27.After -/
def m19 : M :=
 .seq (.reg [0, 1] [⟨(some 2), .box 50 (.tmp 0), none⟩,
 ⟨(some 4), .assign (.const (.int .u8 0)), none⟩] 0)
 (.seq (.seq (.reg [1, 2] [⟨(some 5), .fieldAddr 50 (.tmp 2) 0, none⟩,
 ⟨(some 6), .load 5 (.tmp 5), none⟩] 0)
 (.block 0 (.seq (.seq (.reg [1, 2, 6] [⟨(some 8), .binOp .eql 5 (.tmp 6) (.const (.int .u8 2)) 5, none⟩,
 ⟨(some 7), .assign (.tmp 8), none⟩] 0)
 (.cond (.tmp 7) (.skip)
 (.reg [1, 2, 6] [⟨(some 9), .binOp .eql 5 (.tmp 6) (.const (.int .u8 4)) 5, none⟩,
 ⟨(some 7), .assign (.tmp 9), none⟩] 0)))
 (.cond (.tmp 7) (.seq (.reg [2] [⟨(some 10), .fieldAddr 50 (.tmp 2) 2, none⟩,
 ⟨(some 11), .load 5 (.tmp 10), none⟩,
 ⟨(some 4), .assign (.tmp 11), none⟩] 0)
 (.ret))
 (.seq (.reg [1, 2, 6] [⟨(some 13), .binOp .eql 5 (.tmp 6) (.const (.int .u8 5)) 5, none⟩,
 ⟨(some 12), .assign (.tmp 13), none⟩] 0)
 (.cond (.tmp 12) (.seq (.reg [1, 2] [⟨(some 14), .move (.tmp 1), none⟩,
 ⟨(some 15), .convert 5 3 (.tmp 14), none⟩,
 ⟨(some 16), .fieldAddr 50 (.tmp 2) 2, none⟩,
 ⟨(some 17), .load 5 (.tmp 16), none⟩,
 ⟨(some 18), .convert 5 3 (.tmp 17), none⟩,
 ⟨(some 19), .binOp .add 3 (.tmp 15) (.tmp 18) 3, none⟩,
 ⟨(some 20), .binOp .rem 3 (.tmp 19) (.const (.int .i64 256)) 3, none⟩,
 ⟨(some 21), .convert 3 5 (.tmp 20), none⟩,
 ⟨(some 4), .assign (.tmp 21), none⟩] 0)
 (.ret))
 (.seq (.reg [1, 2, 6] [⟨(some 23), .binOp .eql 5 (.tmp 6) (.const (.int .u8 6)) 5, none⟩,
 ⟨(some 22), .assign (.tmp 23), none⟩] 0)
 (.cond (.tmp 22) (.seq (.reg [1, 2] [⟨(some 24), .move (.tmp 1), none⟩,
 ⟨(some 25), .fieldAddr 50 (.tmp 2) 2, none⟩,
 ⟨(some 26), .load 5 (.tmp 25), none⟩,
 ⟨(some 27), .binOp .eql 5 (.tmp 24) (.tmp 26) 5, none⟩] 0)
 (.cond (.tmp 27) (.seq (.reg [2] [⟨(some 28), .fieldAddr 50 (.tmp 2) 3, none⟩,
 ⟨(some 29), .load 5 (.tmp 28), none⟩,
 ⟨(some 4), .assign (.tmp 29), none⟩] 0)
 (.ret))
 (.skip)))
 (.skip)))))))))
 (.seq (.reg [1] [⟨(some 30), .move (.tmp 1), none⟩,
 ⟨(some 4), .assign (.tmp 30), none⟩] 0)
 (.ret)))
def fn19 : MFn := ⟨31, [.tmp 4], m19, .shut⟩
theorem fnOk19 : FnOk Tryz.prog 19 fn19 := ⟨Tryz.f19, _, kpL passing [] [[0, 1], [1, 2], [1, 2, 6], [1, 2, 6], [2], [1, 2, 6], [1, 2], [1, 2, 6], [1, 2], [2], [1]], Tryz.func19, rfl, by kernel_rfl, by kernel_rfl, by kernel_rfl, by kernel_rfl⟩
/- seisin/seisinlaw32.plain -/
def g20 : Got (cmp 27 (kpL passing [] [[], [0, 1], [0, 1, 2], [0, 1, 4], [0, 1, 4, 5]]) (bodyOf Tryz.f20)) := by
 refine ⟨?m, ?h⟩
 case h => conv => lhs; reduce
def m20 : M := g20.m
def fn20 : MFn := ⟨27, [.cell 0 44, .cell 1 69], m20, .pass⟩
theorem fnOk20 : FnOk Tryz.prog 20 fn20 := ⟨Tryz.f20, _, _, Tryz.func20, rfl, rfl, by kernel_rfl, by kernel_rfl, g20.h⟩
/- seisin/seisinlaw32.with -/
def g21 : Got (cmp 25 (kpL passing [] [[0, 1, 2, 3], [1, 2, 4, 7, 8], [1, 2, 4, 7, 8], [4, 8]]) (bodyOf Tryz.f21)) := by
 refine ⟨?m, ?h⟩
 case h => conv => lhs; reduce
def m21 : M := g21.m
def fn21 : MFn := ⟨25, [.cell 8 69], m21, .pass⟩
theorem fnOk21 : FnOk Tryz.prog 21 fn21 := ⟨Tryz.f21, _, _, Tryz.func21, rfl, rfl, by kernel_rfl, by kernel_rfl, g21.h⟩
/- seisin/inv.every -/
def g22 : Got (cmp 83 (kpL passing [] [[0, 1, 2], [2, 3, 4], [3, 4, 7], [3, 4, 7, 23, 24], [3, 4, 7, 23, 24], [3, 4, 7, 8, 23, 24], [3, 4, 7, 8, 9, 23, 24], [3, 4, 7, 8, 9, 23, 24, 36, 37, 38], [3, 4, 7, 8, 9, 23, 24, 36, 37, 38], [3, 4, 7, 8, 9, 11, 23, 24, 36, 37, 38], [3, 4, 7, 8, 9, 12, 13, 23, 24, 36, 37, 38], [3, 4, 7, 8, 9, 12, 23, 24, 36, 37, 38], [3, 4, 7, 8, 9, 12, 23, 24, 36, 37, 38], [3, 4, 7, 8, 9, 23, 24, 36, 37, 38], [3, 4, 7, 8, 9, 23, 24], [3, 4, 7, 8, 9, 23, 24, 62, 63, 64], [3, 4, 7, 8, 9, 23, 24, 62, 63, 64], [3, 4, 7, 8, 9, 15, 23, 24, 62, 63, 64], [3, 4, 7, 8, 9, 15, 23, 24, 62, 63, 64], [3, 4, 7, 8, 9, 23, 24, 62, 63, 64], [3, 4, 7, 9, 23, 24], [], [3, 4, 7, 23, 24], []]) (bodyOf Tryz.f22)) := by
 refine ⟨?m, ?h⟩
 case h => conv => lhs; reduce
def m22 : M := g22.m
def fn22 : MFn := ⟨83, [.tmp 6], m22, .shut⟩
theorem fnOk22 : FnOk Tryz.prog 22 fn22 := ⟨Tryz.f22, _, _, Tryz.func22, rfl, rfl, by kernel_rfl, by kernel_rfl, g22.h⟩
/- seisin/geo.Right -/
def g28 : Got (cmp 30 (kpL passing [] [[0], [1], [15, 16], [15, 16], [3, 4, 15, 16], [], [15, 16], []]) (bodyOf Tryz.f28)) := by
 refine ⟨?m, ?h⟩
 case h => conv => lhs; cbv
def m28 : M := g28.m
def fn28 : MFn := ⟨30, [.tmp 2], m28, .shut⟩
theorem fnOk28 : FnOk Tryz.prog 28 fn28 := ⟨Tryz.f28, _, _, Tryz.func28, rfl, rfl, by kernel_rfl, by kernel_rfl, g28.h⟩
/- seisin/tags.Right -/
def g29 : Got (cmp 19 (kpL passing [] [[0, 1], [2, 3], [], [2, 3], [3, 5]]) (bodyOf Tryz.f29)) := by
 refine ⟨?m, ?h⟩
 case h => conv => lhs; cbv
def m29 : M := g29.m
def fn29 : MFn := ⟨19, [.tmp 4], m29, .shut⟩
theorem fnOk29 : FnOk Tryz.prog 29 fn29 := ⟨Tryz.f29, _, _, Tryz.func29, rfl, rfl, by kernel_rfl, by kernel_rfl, g29.h⟩
/- seisin/msg.Right -/
def g30 : Got (cmp 47 (kpL passing [] [[0, 1], [2, 3], [], [2, 3], [5]]) (bodyOf Tryz.f30)) := by
 refine ⟨?m, ?h⟩
 case h => conv => lhs; reduce
def m30 : M := g30.m
def fn30 : MFn := ⟨47, [.tmp 4], m30, .shut⟩
theorem fnOk30 : FnOk Tryz.prog 30 fn30 := ⟨Tryz.f30, _, _, Tryz.func30, rfl, rfl, by kernel_rfl, by kernel_rfl, g30.h⟩
/- seisin/geo.Lines -/
def g31 : Got (cmp 16 (kpL passing [] [[0], [1], [3, 4], [], [3]]) (bodyOf Tryz.f31)) := by
 refine ⟨?m, ?h⟩
 case h => conv => lhs; cbv
def m31 : M := g31.m
def fn31 : MFn := ⟨16, [.tmp 2], m31, .shut⟩
theorem fnOk31 : FnOk Tryz.prog 31 fn31 := ⟨Tryz.f31, _, _, Tryz.func31, rfl, rfl, by kernel_rfl, by kernel_rfl, g31.h⟩
/- seisin/inv.entry -/
def g32 : Got (cmp 42 (kpL passing [] [[0, 1], [2, 3]]) (bodyOf Tryz.f32)) := by
 refine ⟨?m, ?h⟩
 case h => conv => lhs; cbv
def m32 : M := g32.m
def fn32 : MFn := ⟨42, [.tmp 4], m32, .shut⟩
theorem fnOk32 : FnOk Tryz.prog 32 fn32 := ⟨Tryz.f32, _, _, Tryz.func32, rfl, rfl, by kernel_rfl, by kernel_rfl, g32.h⟩
/- seisin/inv.invariants -/
def g37 : Got (cmp 6 (kpL passing [] [[], [0]]) (bodyOf Tryz.f37)) := by
 refine ⟨?m, ?h⟩
 case h => conv => lhs; cbv
def m37 : M := g37.m
def fn37 : MFn := ⟨6, [.cell 0 98], m37, .shut⟩
theorem fnOk37 : FnOk Tryz.prog 37 fn37 := ⟨Tryz.f37, _, _, Tryz.func37, rfl, rfl, by kernel_rfl, by kernel_rfl, g37.h⟩
/- seisin/book.Make -/
def m38 : M :=
 .seq (.reg [0] [⟨(some 2), .alloc 42, none⟩,
 ⟨(some 3), .assign (.const (.int .i64 0)), none⟩] 0)
 (.seq (.reg [0, 2] [⟨(some 8), .move (.tmp 0), none⟩,
 ⟨(some 9), .build 142 #[(0, (.tmp 8))], none⟩,
 ⟨(some 4), .alloc 142, none⟩,
 ⟨none, .store 142 (.tmp 4) (.tmp 9), none⟩] 0)
 (.seq (.seq (.reg [2, 4] [⟨(some 10), .fieldAddr 142 (.tmp 4) 0, none⟩,
 ⟨(some 11), .load 140 (.tmp 10), none⟩,
 ⟨(some 12), .call ⟨.value (.func 70), #[(.tmp 11)], #[140]⟩, none⟩,
 ⟨(some 13), .binOp .eql 9 (.tmp 12) (.const (.string ⟨#[]⟩)) 9, none⟩] 0)
 (.cond (.tmp 13) (.seq (.reg [2] [⟨(some 14), .build 42 #[], none⟩,
 ⟨none, .store 42 (.tmp 2) (.tmp 14), none⟩,
 ⟨(some 3), .assign (.const (.int .i64 6)), none⟩] 0)
 (.ret))
 (.skip)))
 (.seq (.reg [2, 4] [⟨(some 16), .fieldAddr 142 (.tmp 4) 0, none⟩,
 ⟨(some 17), .load 140 (.tmp 16), none⟩,
 ⟨(some 18), .call ⟨.value (.func 72), #[(.tmp 17)], #[140]⟩, none⟩,
 ⟨(some 19), .call ⟨.value (.func 71), #[(.tmp 18)], #[9]⟩, none⟩,
 ⟨(some 15), .move (.tmp 19), none⟩,
 ⟨(some 20), .extract (.tmp 15) 0, none⟩,
 ⟨(some 21), .extract (.tmp 15) 1, none⟩,
 ⟨(some 22), .extract (.tmp 15) 2, none⟩,
 ⟨(some 5), .alloc 42, none⟩,
 ⟨none, .store 42 (.tmp 5) (.tmp 20), none⟩,
 ⟨(some 6), .assign (.tmp 21), none⟩,
 ⟨(some 7), .assign (.tmp 22), none⟩] 0)
 (.seq (.seq (.reg [2, 4, 5, 7] [⟨(some 23), .move (.tmp 7), none⟩,
 ⟨(some 24), .binOp .neq 100 (.tmp 23) (.const (.int .i64 0)) 100, none⟩] 0)
 (.cond (.tmp 24) (.seq (.reg [2, 7] [⟨(some 25), .build 42 #[], none⟩,
 ⟨(some 26), .move (.tmp 7), none⟩,
 ⟨none, .store 42 (.tmp 2) (.tmp 25), none⟩,
 ⟨(some 3), .assign (.tmp 26), none⟩] 0)
 (.ret))
 (.skip)))
 (.seq (.reg [2, 4, 5] [⟨(some 27), .load 42 (.tmp 5), none⟩,
 ⟨(some 28), .fieldAddr 142 (.tmp 4) 1, none⟩,
 ⟨none, .store 42 (.tmp 28) (.tmp 27), none⟩] 0)
 (.seq (.reg [2, 4] [⟨(some 29), .makeFunc (.func 74) #[] #[(.tmp 4)], none⟩,
 ⟨(some 30), .call ⟨.value (.func 73), #[(.tmp 4), (.tmp 29)], #[142, 150]⟩, none⟩,
 ⟨(some 7), .assign (.tmp 30), none⟩] 0)
 (.seq (.seq (.reg [2, 4, 7] [⟨(some 31), .move (.tmp 7), none⟩,
 ⟨(some 32), .binOp .neq 100 (.tmp 31) (.const (.int .i64 0)) 100, none⟩] 0)
 (.cond (.tmp 32) (.seq (.reg [2, 7] [⟨(some 33), .build 42 #[], none⟩,
 ⟨(some 34), .move (.tmp 7), none⟩,
 ⟨none, .store 42 (.tmp 2) (.tmp 33), none⟩,
 ⟨(some 3), .assign (.tmp 34), none⟩] 0)
 (.ret))
 (.skip)))
 (.seq (.reg [2, 4] [⟨(some 35), .fieldAddr 142 (.tmp 4) 1, none⟩,
 ⟨(some 36), .load 42 (.tmp 35), none⟩,
 ⟨none, .store 42 (.tmp 2) (.tmp 36), none⟩,
 ⟨(some 3), .assign (.const (.int .i64 0)), none⟩] 0)
 (.ret)))))))))
def fn38 : MFn := ⟨37, [.cell 2 42, .tmp 3], m38, .shut⟩
theorem fnOk38 : FnOk Tryz.prog 38 fn38 := ⟨Tryz.f38, _, kpL passing [] [[0], [0, 2], [2, 4], [2], [2, 4], [2, 4, 5, 7], [2, 7], [2, 4, 5], [2, 4], [2, 4, 7], [2, 7], [2, 4]], Tryz.func38, rfl, by kernel_rfl, by kernel_rfl, by kernel_rfl, by kernel_rfl⟩
/- seisin/sys.New -/
def g39 : Got (cmp 84 (kpL passing [] [[0], [1, 2], [2], [1, 2], [1, 2, 4], [1, 2, 4, 15, 16], [1, 2, 4, 15, 16], [1, 2, 4, 15, 16], [1, 2, 4, 15, 16], [1, 2, 4], [1, 2, 4, 39, 40], [1, 2, 4, 39, 40], [1, 2, 4, 5, 39, 40], [1, 2, 4, 5, 6, 39, 40], [1, 2, 4, 5, 6, 39, 40, 46, 47, 48], [1, 2, 4, 5, 6, 39, 40, 46, 47, 48], [1, 2, 4, 5, 6, 8, 39, 40, 46, 47, 48], [1, 2, 4, 5, 6, 8, 39, 40, 46, 47, 48], [1, 2, 4, 5, 6, 39, 40, 46, 47, 48], [1, 2, 4, 5, 6, 39, 40], [1, 2, 4, 39, 40], [2, 4]]) (bodyOf Tryz.f39)) := by
 refine ⟨?m, ?h⟩
 case h => conv => lhs; reduce
def m39 : M := g39.m
def fn39 : MFn := ⟨84, [.cell 2 69, .tmp 3], m39, .pass⟩
theorem fnOk39 : FnOk Tryz.prog 39 fn39 := ⟨Tryz.f39, _, _, Tryz.func39, rfl, rfl, by kernel_rfl, by kernel_rfl, g39.h⟩
/- seisin/tags.Get -/
def g40 : Got (cmp 28 (kpL passing [] [[0, 1, 2], [2, 3, 4, 6], [4, 6, 8, 9, 10], [6], [4, 6, 8, 9]]) (bodyOf Tryz.f40)) := by
 refine ⟨?m, ?h⟩
 case h => conv => lhs; cbv
def m40 : M := g40.m
def fn40 : MFn := ⟨28, [.cell 6 83, .tmp 7], m40, .shut⟩
theorem fnOk40 : FnOk Tryz.prog 40 fn40 := ⟨Tryz.f40, _, _, Tryz.func40, rfl, rfl, by kernel_rfl, by kernel_rfl, g40.h⟩
/- (seisin/tags.frame).stored -/
def g50 : Got (cmp 74 (kpL passing [2, 3, 4, 5, 6] [[0, 1], [2, 3, 4], [2, 3, 4, 5, 6], [2, 3, 4, 5, 6, 15, 16], [2, 3, 4, 5, 6, 7, 16], [2, 3, 4, 5, 6, 7, 8], [2, 4, 5, 6, 7, 9], [2, 4, 5, 6, 7, 9], [4], [6, 9], [9], [3, 4]]) (bodyOf Tryz.f50)) := by
 refine ⟨?m, ?h⟩
 case h => conv => lhs; reduce
def m50 : M := g50.m
def fn50 : MFn := ⟨74, [.cell 4 4], m50, .shut⟩
theorem fnOk50 : FnOk Tryz.prog 50 fn50 := ⟨Tryz.f50, _, _, Tryz.func50, rfl, rfl, by kernel_rfl, by kernel_rfl, g50.h⟩
/- (seisin/tags.frame).noted -/
def g51 : Got (cmp 42 (kpL passing [] [[0, 1], [2, 3], [2, 3, 8, 9], [2, 3, 8, 9], [2, 3, 5, 6, 8, 9], [2, 3, 6, 8, 9], [], [2, 3, 6, 8, 9], [], [2, 3, 8, 9], []]) (bodyOf Tryz.f51)) := by
 refine ⟨?m, ?h⟩
 case h => conv => lhs; cbv
def m51 : M := g51.m
def fn51 : MFn := ⟨42, [.tmp 4], m51, .shut⟩
theorem fnOk51 : FnOk Tryz.prog 51 fn51 := ⟨Tryz.f51, _, _, Tryz.func51, rfl, rfl, by kernel_rfl, by kernel_rfl, g51.h⟩
/- (seisin/msg.letter).ends -/
def g52 : Got (cmp 67 (kpL passing [] [[0], [1], [1, 3], [1, 3, 4], [1, 4, 5]]) (bodyOf Tryz.f52)) := by
 refine ⟨?m, ?h⟩
 case h => conv => lhs; cbv
def m52 : M := g52.m
def fn52 : MFn := ⟨67, [.tmp 2], m52, .shut⟩
theorem fnOk52 : FnOk Tryz.prog 52 fn52 := ⟨Tryz.f52, _, _, Tryz.func52, rfl, rfl, by kernel_rfl, by kernel_rfl, g52.h⟩
/- (seisin/msg.letter).values -/
def g53 : Got (cmp 46 (kpL passing [] [[0], [1], [], [1]]) (bodyOf Tryz.f53)) := by
 refine ⟨?m, ?h⟩
 case h => conv => lhs; cbv
def m53 : M := g53.m
def fn53 : MFn := ⟨46, [.tmp 2], m53, .shut⟩
theorem fnOk53 : FnOk Tryz.prog 53 fn53 := ⟨Tryz.f53, _, _, Tryz.func53, rfl, rfl, by kernel_rfl, by kernel_rfl, g53.h⟩
/- (seisin/msg.letter).plain -/
def g54 : Got (cmp 50 (kpL passing [] [[0], [1], [1, 3], [1, 3], [1, 3], [1, 3], [1, 3], [1, 3], [1, 3], [1, 3], [1, 3]]) (bodyOf Tryz.f54)) := by
 refine ⟨?m, ?h⟩
 case h => conv => lhs; reduce
def m54 : M := g54.m
def fn54 : MFn := ⟨50, [.tmp 2], m54, .shut⟩
theorem fnOk54 : FnOk Tryz.prog 54 fn54 := ⟨Tryz.f54, _, _, Tryz.func54, rfl, rfl, by kernel_rfl, by kernel_rfl, g54.h⟩
/- seisin/geo.valid -/
def g55 : Got (cmp 10 (kpL passing [] [[0], [1, 2], [2], [1, 2]]) (bodyOf Tryz.f55)) := by
 refine ⟨?m, ?h⟩
 case h => conv => lhs; cbv
def m55 : M := g55.m
def fn55 : MFn := ⟨10, [.cell 2 127, .tmp 3], m55, .shut⟩
theorem fnOk55 : FnOk Tryz.prog 55 fn55 := ⟨Tryz.f55, _, _, Tryz.func55, rfl, rfl, by kernel_rfl, by kernel_rfl, g55.h⟩
/- (seisin/geo.place).line -/
def g56 : Got (cmp 11 (kpL passing [] [[0, 1], [1, 2]]) (bodyOf Tryz.f56)) := by
 refine ⟨?m, ?h⟩
 case h => conv => lhs; cbv
def m56 : M := g56.m
def fn56 : MFn := ⟨11, [.tmp 4], m56, .shut⟩
theorem fnOk56 : FnOk Tryz.prog 56 fn56 := ⟨Tryz.f56, _, _, Tryz.func56, rfl, rfl, by kernel_rfl, by kernel_rfl, g56.h⟩
/- seisin/view.Right -/
def g57 : Got (cmp 57 (kpL passing [] [[0, 1], [1, 2], [], [1, 2], [1, 2, 9], [1, 2], [1, 2, 9], [1, 2], [2], [1, 2], [1, 2, 9], [1, 2], []]) (bodyOf Tryz.f57)) := by
 refine ⟨?m, ?h⟩
 case h => conv => lhs; reduce
def m57 : M := g57.m
def fn57 : MFn := ⟨57, [.tmp 4], m57, .shut⟩
theorem fnOk57 : FnOk Tryz.prog 57 fn57 := ⟨Tryz.f57, _, _, Tryz.func57, rfl, rfl, by kernel_rfl, by kernel_rfl, g57.h⟩
/- (*seisin/inv.scene).swmr -/
def g66 : Got (cmp 46 (kpL passing [] [[0], [0], [0, 3, 4, 5], [3, 4, 5, 11, 12, 13], [3, 4, 5, 11, 12, 13], [3, 4, 5, 7, 11, 12, 13], [3, 4, 5, 7, 11, 12, 13], [3, 4, 5, 7, 11, 12, 13], [3, 4, 5, 7, 11, 12, 13], [3, 4, 5, 7, 11, 12, 13], [3, 4, 5, 11, 12, 13], [3, 4, 5, 11, 12, 13], [3, 4, 5]]) (bodyOf Tryz.f66)) := by
 refine ⟨?m, ?h⟩
 case h => conv => lhs; cbv
def m66 : M := g66.m
def fn66 : MFn := ⟨46, [.tmp 2], m66, .pass⟩
theorem fnOk66 : FnOk Tryz.prog 66 fn66 := ⟨Tryz.f66, _, _, Tryz.func66, rfl, rfl, by kernel_rfl, by kernel_rfl, g66.h⟩
/- (*seisin/inv.scene).fresh -/
def g67 : Got (cmp 80 (kpL passing [] [[0], [0], [0, 3], [0, 3, 12, 13, 14], [0, 3, 12, 13, 14], [0, 3, 5, 12, 13, 14], [0, 3, 5, 12, 13, 14], [0, 3, 12, 13, 14], [0, 3], [], [0, 3], [0, 3], [0, 3], [0, 3], [3, 6], [3, 6], [3], [3, 68, 69, 70], [3, 68, 69, 70], [3, 8, 68, 69, 70], [], [3, 68, 69, 70], []]) (bodyOf Tryz.f67)) := by
 refine ⟨?m, ?h⟩
 case h => conv => lhs; reduce
def m67 : M := g67.m
def fn67 : MFn := ⟨80, [.tmp 2], m67, .pass⟩
theorem fnOk67 : FnOk Tryz.prog 67 fn67 := ⟨Tryz.f67, _, _, Tryz.func67, rfl, rfl, by kernel_rfl, by kernel_rfl, g67.h⟩
/- (*seisin/inv.scene).noted -/
def g68 : Got (cmp 97 (kpL passing [] [[0], [0], [0, 3], [], [0, 3], [0, 3], [], [0, 3], [0, 3, 4], [], [0, 3, 17], [0, 3, 17], [0, 3], [], [0, 3], [0, 3, 5], [3, 5, 54, 55, 56], [3, 5, 54, 55, 56], [3, 5, 6, 7, 54, 55, 56], [3, 5, 6, 7, 54, 55, 56], [3, 5, 6, 7, 8, 54, 55, 56], [3, 5, 6, 7, 8, 54, 55, 56], [3, 5, 6, 7, 8, 54, 55, 56], [3, 5, 6, 7, 54, 55, 56], [], [3, 5, 54, 55, 56], []]) (bodyOf Tryz.f68)) := by
 refine ⟨?m, ?h⟩
 case h => conv => lhs; reduce
def m68 : M := g68.m
def fn68 : MFn := ⟨97, [.tmp 2], m68, .pass⟩
theorem fnOk68 : FnOk Tryz.prog 68 fn68 := ⟨Tryz.f68, _, _, Tryz.func68, rfl, rfl, by kernel_rfl, by kernel_rfl, g68.h⟩
/- (*seisin/inv.scene).paired -/
def g69 : Got (cmp 80 (kpL passing [] [[0], [0], [0, 12, 13], [0, 12, 13], [0, 3, 12, 13], [], [0, 12, 13], [0], [0, 4], [0, 4, 39, 40, 41], [0, 4, 39, 40, 41], [0, 4, 6, 39, 40, 41], [0, 4, 39, 40, 41], [0, 4, 39, 40, 41], [0, 4], [0, 7], [], [0], [0], [0]]) (bodyOf Tryz.f69)) := by
 refine ⟨?m, ?h⟩
 case h => conv => lhs; cbv
def m69 : M := g69.m
def fn69 : MFn := ⟨80, [.tmp 2], m69, .pass⟩
theorem fnOk69 : FnOk Tryz.prog 69 fn69 := ⟨Tryz.f69, _, _, Tryz.func69, rfl, rfl, by kernel_rfl, by kernel_rfl, g69.h⟩
/- (seisin/book.number).name -/
def g70 : Got (cmp 10 (kpL passing [] [[0], [0], [3], [], [3], [], [3], [], []]) (bodyOf Tryz.f70)) := by
 refine ⟨?m, ?h⟩
 case h => conv => lhs; cbv
def m70 : M := g70.m
def fn70 : MFn := ⟨10, [.tmp 2], m70, .shut⟩
theorem fnOk70 : FnOk Tryz.prog 70 fn70 := ⟨Tryz.f70, _, _, Tryz.func70, rfl, rfl, by kernel_rfl, by kernel_rfl, g70.h⟩
/- seisin/spec.Parse -/
def g71 : Got (cmp 57 (kpL passing [2, 3, 4, 5, 6] [[0], [0, 2, 3, 4], [2, 3, 4], [0, 2, 3, 4], [0, 2, 3, 4, 5], [0, 2, 3, 4, 5, 6], [2, 3, 4, 5, 6, 17, 18], [2, 3, 4, 5, 6, 7, 18], [2, 3, 4, 5, 6, 7, 8], [2, 3, 4, 5, 7, 8], [2, 3, 4, 7], [5, 8], [2, 3, 4, 5, 6, 7, 8], [2, 3, 4, 7, 9], [2, 3, 4, 7, 9], [2, 3, 4, 5], [2, 3, 4], [2, 3, 4, 5]]) (bodyOf Tryz.f71)) := by
 refine ⟨?m, ?h⟩
 case h => conv => lhs; reduce
def m71 : M := g71.m
def fn71 : MFn := ⟨57, [.cell 2 42, .cell 3 3, .cell 4 100], m71, .shut⟩
theorem fnOk71 : FnOk Tryz.prog 71 fn71 := ⟨Tryz.f71, _, _, Tryz.func71, rfl, rfl, by kernel_rfl, by kernel_rfl, g71.h⟩
/- (seisin/book.number).text -/
def g72 : Got (cmp 12 (kpL passing [] [[0], [0]]) (bodyOf Tryz.f72)) := by
 refine ⟨?m, ?h⟩
 case h => conv => lhs; cbv
def m72 : M := g72.m
def fn72 : MFn := ⟨12, [.tmp 2], m72, .shut⟩
theorem fnOk72 : FnOk Tryz.prog 72 fn72 := ⟨Tryz.f72, _, _, Tryz.func72, rfl, rfl, by kernel_rfl, by kernel_rfl, g72.h⟩
/- (*seisin/book.draft).fill -/
def m73_l0 : M :=
 .seq (.reg [0, 1, 13, 14, 15] [⟨(some 16), .binOp .lss 3 (.tmp 15) (.tmp 14) 3, none⟩] 0)
 (.seq (.cond (.tmp 16) (.skip)
 (.exit 0))
 (.seq (.block 1 (.seq (.reg [0, 1, 13, 14, 15] [⟨(some 17), .indexAddr 181 (.tmp 13) (.tmp 15), none⟩,
 ⟨(some 18), .load 148 (.tmp 17), none⟩,
 ⟨(some 6), .alloc 148, none⟩,
 ⟨none, .store 148 (.tmp 6) (.tmp 18), none⟩] 0)
 (.seq (.reg [0, 1, 6, 13, 14, 15] [⟨(some 20), .move (.tmp 0), none⟩,
 ⟨(some 21), .nilCheck (.tmp 20), none⟩,
 ⟨(some 22), .fieldAddr 142 (.tmp 21) 1, none⟩,
 ⟨(some 23), .load 42 (.tmp 22), none⟩,
 ⟨(some 24), .load 148 (.tmp 6), none⟩,
 ⟨(some 25), .move (.tmp 1), none⟩,
 ⟨(some 26), .load 148 (.tmp 6), none⟩,
 ⟨(some 27), .call ⟨.value (.tmp 25), #[(.tmp 26)], #[148]⟩, none⟩,
 ⟨(some 28), .build 36 #[(0, (.tmp 27))], none⟩,
 ⟨(some 29), .call ⟨.value (.func 110), #[(.tmp 23), (.tmp 24), (.tmp 28)], #[42, 148, 36]⟩, none⟩,
 ⟨(some 19), .move (.tmp 29), none⟩,
 ⟨(some 30), .extract (.tmp 19) 0, none⟩,
 ⟨(some 31), .extract (.tmp 19) 1, none⟩,
 ⟨(some 7), .alloc 42, none⟩,
 ⟨none, .store 42 (.tmp 7) (.tmp 30), none⟩,
 ⟨(some 8), .assign (.tmp 31), none⟩] 9)
 (.seq (.seq (.reg [0, 1, 7, 8, 13, 14, 15] [⟨(some 32), .move (.tmp 8), none⟩,
 ⟨(some 33), .binOp .neq 100 (.tmp 32) (.const (.int .i64 0)) 100, none⟩] 0)
 (.cond (.tmp 33) (.seq (.reg [8] [⟨(some 34), .move (.tmp 8), none⟩,
 ⟨(some 4), .assign (.tmp 34), none⟩] 0)
 (.ret))
 (.skip)))
 (.reg [0, 1, 7, 13, 14, 15] [⟨(some 35), .move (.tmp 0), none⟩,
 ⟨(some 36), .load 42 (.tmp 7), none⟩,
 ⟨(some 37), .nilCheck (.tmp 35), none⟩,
 ⟨(some 38), .fieldAddr 142 (.tmp 37) 1, none⟩,
 ⟨none, .store 42 (.tmp 38) (.tmp 36), none⟩] 0)))))
 (.reg [0, 1, 13, 14, 15] [⟨(some 39), .binOp .add 3 (.tmp 15) (.const (.int .i64 1)) 3, none⟩,
 ⟨(some 15), .move (.tmp 39), none⟩] 0)))
theorem u73_l0 {C : Ctx} {k : List It} {st : St} {Q : Ex → St → Prop} : RunK C (.code m73_l0 :: k) st Q ↔ RunK C (.code (.seq (.reg [0, 1, 13, 14, 15] [⟨(some 16), .binOp .lss 3 (.tmp 15) (.tmp 14) 3, none⟩] 0)
 (.seq (.cond (.tmp 16) (.skip)
 (.exit 0))
 (.seq (.block 1 (.seq (.reg [0, 1, 13, 14, 15] [⟨(some 17), .indexAddr 181 (.tmp 13) (.tmp 15), none⟩,
 ⟨(some 18), .load 148 (.tmp 17), none⟩,
 ⟨(some 6), .alloc 148, none⟩,
 ⟨none, .store 148 (.tmp 6) (.tmp 18), none⟩] 0)
 (.seq (.reg [0, 1, 6, 13, 14, 15] [⟨(some 20), .move (.tmp 0), none⟩,
 ⟨(some 21), .nilCheck (.tmp 20), none⟩,
 ⟨(some 22), .fieldAddr 142 (.tmp 21) 1, none⟩,
 ⟨(some 23), .load 42 (.tmp 22), none⟩,
 ⟨(some 24), .load 148 (.tmp 6), none⟩,
 ⟨(some 25), .move (.tmp 1), none⟩,
 ⟨(some 26), .load 148 (.tmp 6), none⟩,
 ⟨(some 27), .call ⟨.value (.tmp 25), #[(.tmp 26)], #[148]⟩, none⟩,
 ⟨(some 28), .build 36 #[(0, (.tmp 27))], none⟩,
 ⟨(some 29), .call ⟨.value (.func 110), #[(.tmp 23), (.tmp 24), (.tmp 28)], #[42, 148, 36]⟩, none⟩,
 ⟨(some 19), .move (.tmp 29), none⟩,
 ⟨(some 30), .extract (.tmp 19) 0, none⟩,
 ⟨(some 31), .extract (.tmp 19) 1, none⟩,
 ⟨(some 7), .alloc 42, none⟩,
 ⟨none, .store 42 (.tmp 7) (.tmp 30), none⟩,
 ⟨(some 8), .assign (.tmp 31), none⟩] 9)
 (.seq (.seq (.reg [0, 1, 7, 8, 13, 14, 15] [⟨(some 32), .move (.tmp 8), none⟩,
 ⟨(some 33), .binOp .neq 100 (.tmp 32) (.const (.int .i64 0)) 100, none⟩] 0)
 (.cond (.tmp 33) (.seq (.reg [8] [⟨(some 34), .move (.tmp 8), none⟩,
 ⟨(some 4), .assign (.tmp 34), none⟩] 0)
 (.ret))
 (.skip)))
 (.reg [0, 1, 7, 13, 14, 15] [⟨(some 35), .move (.tmp 0), none⟩,
 ⟨(some 36), .load 42 (.tmp 7), none⟩,
 ⟨(some 37), .nilCheck (.tmp 35), none⟩,
 ⟨(some 38), .fieldAddr 142 (.tmp 37) 1, none⟩,
 ⟨none, .store 42 (.tmp 38) (.tmp 36), none⟩] 0)))))
 (.reg [0, 1, 13, 14, 15] [⟨(some 39), .binOp .add 3 (.tmp 15) (.const (.int .i64 1)) 3, none⟩,
 ⟨(some 15), .move (.tmp 39), none⟩] 0)))) :: k) st Q := Iff.rfl
def m73 : M :=
 .seq (.reg [0, 1] [⟨(some 4), .assign (.const (.int .i64 0)), none⟩] 0)
 (.seq (.seq (.reg [0, 1] [⟨(some 9), .move (.tmp 0), none⟩,
 ⟨(some 10), .nilCheck (.tmp 9), none⟩,
 ⟨(some 11), .fieldAddr 142 (.tmp 10) 1, none⟩,
 ⟨(some 12), .load 42 (.tmp 11), none⟩,
 ⟨(some 13), .call ⟨.value (.func 109), #[(.tmp 12)], #[42]⟩, none⟩,
 ⟨(some 14), .call ⟨.builtin .len, #[(.tmp 13)], #[181]⟩, none⟩,
 ⟨(some 15), .move (.const (.int .i64 0)), none⟩] 0)
 (.block 0 (.loop (m73_l0))))
 (.seq (.reg [] [⟨(some 4), .assign (.const (.int .i64 0)), none⟩] 0)
 (.ret)))
def fn73 : MFn := ⟨40, [.tmp 4], m73, .pass⟩
theorem fnOk73 : FnOk Tryz.prog 73 fn73 := ⟨Tryz.f73, _, kpL passing [] [[0, 1], [0, 1], [0, 1, 13, 14, 15], [0, 1, 13, 14, 15], [0, 1, 6, 13, 14, 15], [0, 1, 7, 8, 13, 14, 15], [8], [0, 1, 7, 13, 14, 15], [0, 1, 13, 14, 15], []], Tryz.func73, rfl, by kernel_rfl, by kernel_rfl, by kernel_rfl, by kernel_rfl⟩
/- seisin/book.Make$1 -/
def m74 : M :=
 .seq (.reg [0, 1] [⟨(some 2), .box 148 (.tmp 0), none⟩,
 ⟨(some 3), .assign (.const (.int .u8 0)), none⟩] 0)
 (.seq (.seq (.reg [1, 2] [⟨(some 4), .fieldAddr 142 (.tmp 1) 0, none⟩,
 ⟨(some 5), .load 140 (.tmp 4), none⟩,
 ⟨(some 6), .load 148 (.tmp 2), none⟩,
 ⟨(some 7), .call ⟨.value (.func 75), #[(.tmp 5), (.tmp 6)], #[140, 148]⟩, none⟩] 0)
 (.cond (.tmp 7) (.seq (.reg [] [⟨(some 3), .assign (.const (.int .u8 2)), none⟩] 0)
 (.ret))
 (.skip)))
 (.seq (.reg [] [⟨(some 3), .assign (.const (.int .u8 3)), none⟩] 0)
 (.ret)))
def fn74 : MFn := ⟨8, [.tmp 3], m74, .pass⟩
theorem fnOk74 : FnOk Tryz.prog 74 fn74 := ⟨Tryz.f74, _, kpL passing [] [[0, 1], [1, 2], [], []], Tryz.func74, rfl, by kernel_rfl, by kernel_rfl, by kernel_rfl, by kernel_rfl⟩
/- (seisin/book.number).waits -/
def g75 : Got (cmp 35 (kpL passing [] [[0, 1], [0, 3], [], [0, 3], [0, 23], [0, 23], [0, 23], [0, 23], [0, 23], [0, 23], [], [0, 23], [0], []]) (bodyOf Tryz.f75)) := by
 refine ⟨?m, ?h⟩
 case h => conv => lhs; cbv
def m75 : M := g75.m
def fn75 : MFn := ⟨35, [.tmp 4], m75, .shut⟩
theorem fnOk75 : FnOk Tryz.prog 75 fn75 := ⟨Tryz.f75, _, _, Tryz.func75, rfl, rfl, by kernel_rfl, by kernel_rfl, g75.h⟩
/- seisin/sys.Right -/
def g76 : Got (cmp 61 (kpL passing [] [[0], [1], [1, 3]]) (bodyOf Tryz.f76)) := by
 refine ⟨?m, ?h⟩
 case h => conv => lhs; cbv
def m76 : M := g76.m
def fn76 : MFn := ⟨61, [.tmp 2], m76, .shut⟩
theorem fnOk76 : FnOk Tryz.prog 76 fn76 := ⟨Tryz.f76, _, _, Tryz.func76, rfl, rfl, by kernel_rfl, by kernel_rfl, g76.h⟩
/- seisin/core.New -/
def g77 : Got (cmp 2 (kpL passing [] [[], [0]]) (bodyOf Tryz.f77)) := by
 refine ⟨?m, ?h⟩
 case h => conv => lhs; cbv
def m77 : M := g77.m
def fn77 : MFn := ⟨2, [.cell 0 155], m77, .pass⟩
theorem fnOk77 : FnOk Tryz.prog 77 fn77 := ⟨Tryz.f77, _, _, Tryz.func77, rfl, rfl, by kernel_rfl, by kernel_rfl, g77.h⟩
/- seisin/cache.New -/
def g78 : Got (cmp 17 (kpL passing [] [[0, 1], [1, 2, 4], [4, 5, 6], [4], [4, 5]]) (bodyOf Tryz.f78)) := by
 refine ⟨?m, ?h⟩
 case h => conv => lhs; cbv
def m78 : M := g78.m
def fn78 : MFn := ⟨17, [.cell 4 90], m78, .pass⟩
theorem fnOk78 : FnOk Tryz.prog 78 fn78 := ⟨Tryz.f78, _, _, Tryz.func78, rfl, rfl, by kernel_rfl, by kernel_rfl, g78.h⟩
/- seisin/geo.Locs -/
def g79 : Got (cmp 25 (kpL passing [7] [[0, 1], [1, 2, 4], [1, 4, 5, 6], [], [1, 4, 5], [1, 4, 5, 7], [7, 19], [7, 8], [7]]) (bodyOf Tryz.f79)) := by
 refine ⟨?m, ?h⟩
 case h => conv => lhs; reduce
def m79 : M := g79.m
def fn79 : MFn := ⟨25, [.tmp 4], m79, .shut⟩
theorem fnOk79 : FnOk Tryz.prog 79 fn79 := ⟨Tryz.f79, _, _, Tryz.func79, rfl, rfl, by kernel_rfl, by kernel_rfl, g79.h⟩
/- seisin/geo.Put -/
def g80 : Got (cmp 23 (kpL passing [] [[0, 1, 2, 3], [2, 3, 4, 5, 8], [2, 3, 5, 8, 9, 10], [2, 3, 5, 8, 9], [5, 8]]) (bodyOf Tryz.f80)) := by
 refine ⟨?m, ?h⟩
 case h => conv => lhs; cbv
def m80 : M := g80.m
def fn80 : MFn := ⟨23, [.cell 8 63], m80, .shut⟩
theorem fnOk80 : FnOk Tryz.prog 80 fn80 := ⟨Tryz.f80, _, _, Tryz.func80, rfl, rfl, by kernel_rfl, by kernel_rfl, g80.h⟩
/- seisin/home.New -/
def g81 : Got (cmp 12 (kpL passing [] [[0, 1, 2], [0, 1, 5, 6]]) (bodyOf Tryz.f81)) := by
 refine ⟨?m, ?h⟩
 case h => conv => lhs; reduce
def m81 : M := g81.m
def fn81 : MFn := ⟨12, [.cell 6 65], m81, .pass⟩
theorem fnOk81 : FnOk Tryz.prog 81 fn81 := ⟨Tryz.f81, _, _, Tryz.func81, rfl, rfl, by kernel_rfl, by kernel_rfl, g81.h⟩
/- seisin/tags.Find -/
def g82 : Got (cmp 29 (kpL passing [] [[0, 1, 2], [2, 3, 4], [], [2, 3, 4], [2, 4, 9], [2, 4, 6, 9], [6, 7, 8]]) (bodyOf Tryz.f82)) := by
 refine ⟨?m, ?h⟩
 case h => conv => lhs; reduce
def m82 : M := g82.m
def fn82 : MFn := ⟨29, [.tmp 6, .tmp 7, .tmp 8], m82, .shut⟩
theorem fnOk82 : FnOk Tryz.prog 82 fn82 := ⟨Tryz.f82, _, _, Tryz.func82, rfl, rfl, by kernel_rfl, by kernel_rfl, g82.h⟩
/- (seisin/tags.frame).slots -/
def g85 : Got (cmp 4 (kpL passing [] [[0], [1]]) (bodyOf Tryz.f85)) := by
 refine ⟨?m, ?h⟩
 case h => conv => lhs; cbv
def m85 : M := g85.m
def fn85 : MFn := ⟨4, [.tmp 2], m85, .shut⟩
theorem fnOk85 : FnOk Tryz.prog 85 fn85 := ⟨Tryz.f85, _, _, Tryz.func85, rfl, rfl, by kernel_rfl, by kernel_rfl, g85.h⟩
/- seisin/tags.free -/
def g86 : Got (cmp 6 (kpL passing [] [[0], [1]]) (bodyOf Tryz.f86)) := by
 refine ⟨?m, ?h⟩
 case h => conv => lhs; cbv
def m86 : M := g86.m
def fn86 : MFn := ⟨6, [.tmp 2], m86, .shut⟩
theorem fnOk86 : FnOk Tryz.prog 86 fn86 := ⟨Tryz.f86, _, _, Tryz.func86, rfl, rfl, by kernel_rfl, by kernel_rfl, g86.h⟩
/- (seisin/tags.frame).set -/
def g87 : Got (cmp 10 (kpL passing [] [[0, 1], [1, 2]]) (bodyOf Tryz.f87)) := by
 refine ⟨?m, ?h⟩
 case h => conv => lhs; cbv
def m87 : M := g87.m
def fn87 : MFn := ⟨10, [.tmp 4], m87, .shut⟩
theorem fnOk87 : FnOk Tryz.prog 87 fn87 := ⟨Tryz.f87, _, _, Tryz.func87, rfl, rfl, by kernel_rfl, by kernel_rfl, g87.h⟩
/- seisin/repl.Right -/
def g88 : Got (cmp 35 (kpL passing [] [[0], [1], [], [1], [1, 12], [1], [1, 12], [1, 12], [1, 12], [1], []]) (bodyOf Tryz.f88)) := by
 refine ⟨?m, ?h⟩
 case h => conv => lhs; cbv
def m88 : M := g88.m
def fn88 : MFn := ⟨35, [.tmp 2], m88, .shut⟩
theorem fnOk88 : FnOk Tryz.prog 88 fn88 := ⟨Tryz.f88, _, _, Tryz.func88, rfl, rfl, by kernel_rfl, by kernel_rfl, g88.h⟩
/- seisin/geo.Home -/
def g89 : Got (cmp 25 (kpL passing [] [[0, 1], [1, 2], [1, 5, 6], [], [1, 5]]) (bodyOf Tryz.f89)) := by
 refine ⟨?m, ?h⟩
 case h => conv => lhs; reduce
def m89 : M := g89.m
def fn89 : MFn := ⟨25, [.tmp 4], m89, .shut⟩
theorem fnOk89 : FnOk Tryz.prog 89 fn89 := ⟨Tryz.f89, _, _, Tryz.func89, rfl, rfl, by kernel_rfl, by kernel_rfl, g89.h⟩
/- (seisin/msg.letter).has -/
def g90 : Got (cmp 10 (kpL passing [] [[0, 1], [1, 2]]) (bodyOf Tryz.f90)) := by
 refine ⟨?m, ?h⟩
 case h => conv => lhs; cbv
def m90 : M := g90.m
def fn90 : MFn := ⟨10, [.tmp 4], m90, .shut⟩
theorem fnOk90 : FnOk Tryz.prog 90 fn90 := ⟨Tryz.f90, _, _, Tryz.func90, rfl, rfl, by kernel_rfl, by kernel_rfl, g90.h⟩
/- seisin/geo.IsCache -/
def g91 : Got (cmp 22 (kpL passing [] [[0, 1], [1, 2], [1, 5, 6]]) (bodyOf Tryz.f91)) := by
 refine ⟨?m, ?h⟩
 case h => conv => lhs; cbv
def m91 : M := g91.m
def fn91 : MFn := ⟨22, [.tmp 4], m91, .shut⟩
theorem fnOk91 : FnOk Tryz.prog 91 fn91 := ⟨Tryz.f91, _, _, Tryz.func91, rfl, rfl, by kernel_rfl, by kernel_rfl, g91.h⟩
/- seisin/view.counts -/
def g92 : Got (cmp 9 (kpL passing [] [[0], [0]]) (bodyOf Tryz.f92)) := by
 refine ⟨?m, ?h⟩
 case h => conv => lhs; cbv
def m92 : M := g92.m
def fn92 : MFn := ⟨9, [.tmp 2], m92, .shut⟩
theorem fnOk92 : FnOk Tryz.prog 92 fn92 := ⟨Tryz.f92, _, _, Tryz.func92, rfl, rfl, by kernel_rfl, by kernel_rfl, g92.h⟩
/- seisin/view.below -/
def g93 : Got (cmp 6 (kpL passing [] [[0], [0]]) (bodyOf Tryz.f93)) := by
 refine ⟨?m, ?h⟩
 case h => conv => lhs; cbv
def m93 : M := g93.m
def fn93 : MFn := ⟨6, [.tmp 2], m93, .shut⟩
theorem fnOk93 : FnOk Tryz.prog 93 fn93 := ⟨Tryz.f93, _, _, Tryz.func93, rfl, rfl, by kernel_rfl, by kernel_rfl, g93.h⟩
/- seisin/inv.copied -/
def g96 : Got (cmp 12 (kpL passing [] [[0], [1], [4], [4], [4], [4], [4], [4], [], []]) (bodyOf Tryz.f96)) := by
 refine ⟨?m, ?h⟩
 case h => conv => lhs; cbv
def m96 : M := g96.m
def fn96 : MFn := ⟨12, [.tmp 2], m96, .shut⟩
theorem fnOk96 : FnOk Tryz.prog 96 fn96 := ⟨Tryz.f96, _, _, Tryz.func96, rfl, rfl, by kernel_rfl, by kernel_rfl, g96.h⟩
/- seisin/inv.owned -/
def g97 : Got (cmp 10 (kpL passing [] [[0], [1], [4], [4], [4], [4], [], []]) (bodyOf Tryz.f97)) := by
 refine ⟨?m, ?h⟩
 case h => conv => lhs; cbv
def m97 : M := g97.m
def fn97 : MFn := ⟨10, [.tmp 2], m97, .shut⟩
theorem fnOk97 : FnOk Tryz.prog 97 fn97 := ⟨Tryz.f97, _, _, Tryz.func97, rfl, rfl, by kernel_rfl, by kernel_rfl, g97.h⟩
/- seisin/view.Told -/
def g98 : Got (cmp 45 (kpL passing [6] [[0, 1], [1, 2, 4], [], [1, 2, 4], [2, 4, 5], [5], [2, 4, 5], [2, 5], [2, 4, 5], [2, 4, 5, 6], [6, 36], [6, 7], [5, 6]]) (bodyOf Tryz.f98)) := by
 refine ⟨?m, ?h⟩
 case h => conv => lhs; reduce
def m98 : M := g98.m
def fn98 : MFn := ⟨45, [.tmp 4], m98, .shut⟩
theorem fnOk98 : FnOk Tryz.prog 98 fn98 := ⟨Tryz.f98, _, _, Tryz.func98, rfl, rfl, by kernel_rfl, by kernel_rfl, g98.h⟩
/- (*seisin/inv.scene).acks -/
def g99 : Got (cmp 61 (kpL passing [] [[0, 1], [0, 3], [0, 3, 5], [0, 3, 5, 20, 21, 22], [0, 3, 5, 20, 21, 22], [0, 3, 5, 7, 20, 21, 22], [0, 3, 5, 7, 20, 21, 22], [0, 3, 5, 7, 20, 21, 22], [0, 3, 5, 20, 21, 22], [0, 3, 5]]) (bodyOf Tryz.f99)) := by
 refine ⟨?m, ?h⟩
 case h => conv => lhs; reduce
def m99 : M := g99.m
def fn99 : MFn := ⟨61, [.tmp 4], m99, .pass⟩
theorem fnOk99 : FnOk Tryz.prog 99 fn99 := ⟨Tryz.f99, _, _, Tryz.func99, rfl, rfl, by kernel_rfl, by kernel_rfl, g99.h⟩
/- (*seisin/inv.scene).puts -/
def g100 : Got (cmp 25 (kpL passing [] [[0, 1], [0, 3], [0, 3, 5]]) (bodyOf Tryz.f100)) := by
 refine ⟨?m, ?h⟩
 case h => conv => lhs; reduce
def m100 : M := g100.m
def fn100 : MFn := ⟨25, [.tmp 4], m100, .pass⟩
theorem fnOk100 : FnOk Tryz.prog 100 fn100 := ⟨Tryz.f100, _, _, Tryz.func100, rfl, rfl, by kernel_rfl, by kernel_rfl, g100.h⟩
/- (*seisin/inv.scene).gets -/
def g101 : Got (cmp 65 (kpL passing [] [[0, 1], [2, 3], [2, 3, 5], [2, 3, 5, 6], [2, 3, 5, 6, 7, 8], [5, 6, 7, 8, 38], [5, 6, 8], [5, 6, 7, 8, 38], [5, 6, 7, 8, 38], [5, 6, 7, 8, 38], [5, 6, 7], [5, 6, 7, 8, 38], [5, 6, 7, 8], [], [5, 7, 8]]) (bodyOf Tryz.f101)) := by
 refine ⟨?m, ?h⟩
 case h => conv => lhs; reduce
def m101 : M := g101.m
def fn101 : MFn := ⟨65, [.tmp 4], m101, .pass⟩
theorem fnOk101 : FnOk Tryz.prog 101 fn101 := ⟨Tryz.f101, _, _, Tryz.func101, rfl, rfl, by kernel_rfl, by kernel_rfl, g101.h⟩
/- (*seisin/inv.scene).kinds -/
def g102 : Got (cmp 8 (kpL passing [] [[0, 1], [0, 3]]) (bodyOf Tryz.f102)) := by
 refine ⟨?m, ?h⟩
 case h => conv => lhs; cbv
def m102 : M := g102.m
def fn102 : MFn := ⟨8, [.tmp 4], m102, .pass⟩
theorem fnOk102 : FnOk Tryz.prog 102 fn102 := ⟨Tryz.f102, _, _, Tryz.func102, rfl, rfl, by kernel_rfl, by kernel_rfl, g102.h⟩
/- seisin/inv.bit -/
def g103 : Got (cmp 4 (kpL passing [] [[0], [0], [], []]) (bodyOf Tryz.f103)) := by
 refine ⟨?m, ?h⟩
 case h => conv => lhs; cbv
def m103 : M := g103.m
def fn103 : MFn := ⟨4, [.tmp 2], m103, .shut⟩
theorem fnOk103 : FnOk Tryz.prog 103 fn103 := ⟨Tryz.f103, _, _, Tryz.func103, rfl, rfl, by kernel_rfl, by kernel_rfl, g103.h⟩
/- seisin/spec.rules -/
def g104 : Got (cmp 8 (kpL passing [] [[], [], [1]]) (bodyOf Tryz.f104)) := by
 refine ⟨?m, ?h⟩
 case h => conv => lhs; cbv
def m104 : M := g104.m
def fn104 : MFn := ⟨8, [.tmp 0], m104, .shut⟩
theorem fnOk104 : FnOk Tryz.prog 104 fn104 := ⟨Tryz.f104, _, _, Tryz.func104, rfl, rfl, by kernel_rfl, by kernel_rfl, g104.h⟩
/- seisin/spec.lines -/
def g105 : Got (cmp 5 (kpL passing [] [[0], [1], [1, 3]]) (bodyOf Tryz.f105)) := by
 refine ⟨?m, ?h⟩
 case h => conv => lhs; cbv
def m105 : M := g105.m
def fn105 : MFn := ⟨5, [.tmp 2], m105, .pass⟩
theorem fnOk105 : FnOk Tryz.prog 105 fn105 := ⟨Tryz.f105, _, _, Tryz.func105, rfl, rfl, by kernel_rfl, by kernel_rfl, g105.h⟩
/- seisin/spec.named -/
def g106 : Got (cmp 32 (kpL passing [] [[0], [0], [], [0], [0, 14, 15], [0, 14, 15], [0, 3, 14, 15], [0, 4, 14, 15], [], [0, 14, 15], []]) (bodyOf Tryz.f106)) := by
 refine ⟨?m, ?h⟩
 case h => conv => lhs; cbv
def m106 : M := g106.m
def fn106 : MFn := ⟨32, [.tmp 2], m106, .shut⟩
theorem fnOk106 : FnOk Tryz.prog 106 fn106 := ⟨Tryz.f106, _, _, Tryz.func106, rfl, rfl, by kernel_rfl, by kernel_rfl, g106.h⟩
/- seisin/spec.define -/
def g107 : Got (cmp 51 (kpL passing [] [[0, 1, 2], [0, 1, 2], [0, 1, 7], [0, 1, 7, 8, 9], [], [0, 1, 7, 8], [0, 7, 8, 9, 10], [], [0, 7, 8, 10], [0, 8, 9, 11], [], [0, 8, 11], [], [0, 8, 11], []]) (bodyOf Tryz.f107)) := by
 refine ⟨?m, ?h⟩
 case h => conv => lhs; reduce
def m107 : M := g107.m
def fn107 : MFn := ⟨51, [.tmp 6], m107, .trim⟩
theorem fnOk107 : FnOk Tryz.prog 107 fn107 := ⟨Tryz.f107, _, _, Tryz.func107, rfl, rfl, by kernel_rfl, by kernel_rfl, g107.h⟩
/- seisin/book.special -/
def g108 : Got (cmp 3 (kpL passing [] [[], []]) (bodyOf Tryz.f108)) := by
 refine ⟨?m, ?h⟩
 case h => conv => lhs; cbv
def m108 : M := g108.m
def fn108 : MFn := ⟨3, [.tmp 0], m108, .shut⟩
theorem fnOk108 : FnOk Tryz.prog 108 fn108 := ⟨Tryz.f108, _, _, Tryz.func108, rfl, rfl, by kernel_rfl, by kernel_rfl, g108.h⟩
/- seisin/table.Holes -/
def g109 : Got (cmp 22 (kpL passing [3] [[0], [1, 2], [], [1, 2], [1, 2, 3], [3, 10, 11], [3, 4, 11], [3, 4, 5], [3, 4], [3]]) (bodyOf Tryz.f109)) := by
 refine ⟨?m, ?h⟩
 case h => conv => lhs; reduce
def m109 : M := g109.m
def fn109 : MFn := ⟨22, [.tmp 2], m109, .shut⟩
theorem fnOk109 : FnOk Tryz.prog 109 fn109 := ⟨Tryz.f109, _, _, Tryz.func109, rfl, rfl, by kernel_rfl, by kernel_rfl, g109.h⟩
/- seisin/table.Set -/
def m110_l0 : M :=
 .seq (.reg [3, 4, 5, 6, 7, 11, 12] [⟨(some 8), .alloc 148, none⟩,
 ⟨none, .store 148 (.tmp 8) (.tmp 11), none⟩] 0)
 (.reg [3, 4, 5, 6, 7, 8, 12] [⟨(some 9), .assign (.tmp 12), none⟩] 0)
def m110_l1 : M :=
 .block 1 (.seq (.reg [3, 4, 5, 6, 7, 8, 9] [⟨(some 13), .load 148 (.tmp 8), none⟩,
 ⟨(some 14), .load 148 (.tmp 4), none⟩,
 ⟨(some 15), .binOp .eql 148 (.tmp 13) (.tmp 14) 148, none⟩] 0)
 (.cond (.tmp 15) (.seq (.reg [3, 5, 6, 7, 9] [⟨(some 16), .move (.tmp 9), none⟩,
 ⟨(some 17), .load 36 (.tmp 5), none⟩,
 ⟨(some 18), .nilCheck (.tmp 16), none⟩,
 ⟨none, .store 36 (.tmp 18) (.tmp 17), none⟩] 0)
 (.seq (.reg [3, 6, 7] [⟨(some 19), .load 42 (.tmp 3), none⟩,
 ⟨none, .store 42 (.tmp 6) (.tmp 19), none⟩,
 ⟨none, .store 100 (.tmp 7) (.const (.int .i64 0)), none⟩] 0)
 (.ret)))
 (.skip)))
theorem u110_l0 {C : Ctx} {k : List It} {st : St} {Q : Ex → St → Prop} : RunK C (.code m110_l0 :: k) st Q ↔ RunK C (.code (.seq (.reg [3, 4, 5, 6, 7, 11, 12] [⟨(some 8), .alloc 148, none⟩,
 ⟨none, .store 148 (.tmp 8) (.tmp 11), none⟩] 0)
 (.reg [3, 4, 5, 6, 7, 8, 12] [⟨(some 9), .assign (.tmp 12), none⟩] 0)) :: k) st Q := Iff.rfl
theorem u110_l1 {C : Ctx} {k : List It} {st : St} {Q : Ex → St → Prop} : RunK C (.code m110_l1 :: k) st Q ↔ RunK C (.code (.block 1 (.seq (.reg [3, 4, 5, 6, 7, 8, 9] [⟨(some 13), .load 148 (.tmp 8), none⟩,
 ⟨(some 14), .load 148 (.tmp 4), none⟩,
 ⟨(some 15), .binOp .eql 148 (.tmp 13) (.tmp 14) 148, none⟩] 0)
 (.cond (.tmp 15) (.seq (.reg [3, 5, 6, 7, 9] [⟨(some 16), .move (.tmp 9), none⟩,
 ⟨(some 17), .load 36 (.tmp 5), none⟩,
 ⟨(some 18), .nilCheck (.tmp 16), none⟩,
 ⟨none, .store 36 (.tmp 18) (.tmp 17), none⟩] 0)
 (.seq (.reg [3, 6, 7] [⟨(some 19), .load 42 (.tmp 3), none⟩,
 ⟨none, .store 42 (.tmp 6) (.tmp 19), none⟩,
 ⟨none, .store 100 (.tmp 7) (.const (.int .i64 0)), none⟩] 0)
 (.ret)))
 (.skip)))) :: k) st Q := Iff.rfl
def m110 : M :=
 .seq (.reg [0, 1, 2] [⟨(some 3), .box 42 (.tmp 0), none⟩,
 ⟨(some 4), .box 148 (.tmp 1), none⟩,
 ⟨(some 5), .box 36 (.tmp 2), none⟩,
 ⟨(some 6), .alloc 42, none⟩,
 ⟨(some 7), .alloc 100, none⟩] 0)
 (.seq (.seq (.reg [3, 4, 5, 6, 7] [⟨(some 10), .call ⟨.value (.func 147), #[(.tmp 3)], #[177]⟩, none⟩] 0)
 (.block 0 (.rf (.tmp 10) 21 [11, 12] [3, 4, 5, 6, 7] (m110_l0) (m110_l1))))
 (.seq (.reg [6, 7] [⟨(some 20), .build 42 #[], none⟩,
 ⟨none, .store 42 (.tmp 6) (.tmp 20), none⟩,
 ⟨none, .store 100 (.tmp 7) (.const (.int .i64 2)), none⟩] 0)
 (.ret)))
def fn110 : MFn := ⟨21, [.cell 6 42, .cell 7 100], m110, .shut⟩
theorem fnOk110 : FnOk Tryz.prog 110 fn110 := ⟨Tryz.f110, _, kpL passing [3, 4, 5, 6, 7] [[0, 1, 2], [3, 4, 5, 6, 7], [3, 4, 5, 6, 7, 11, 12], [3, 4, 5, 6, 7, 8, 12], [3, 4, 5, 6, 7, 8, 9], [3, 5, 6, 7, 9], [3, 6, 7], [6, 7]], Tryz.func110, rfl, by kernel_rfl, by kernel_rfl, by kernel_rfl, by kernel_rfl⟩
/- seisin/sys.Right$1 -/
def g111 : Got (cmp 15 (kpL passing [] [[0, 1, 2], [0, 1, 2]]) (bodyOf Tryz.f111)) := by
 refine ⟨?m, ?h⟩
 case h => conv => lhs; cbv
def m111 : M := g111.m
def fn111 : MFn := ⟨15, [.tmp 6], m111, .pass⟩
theorem fnOk111 : FnOk Tryz.prog 111 fn111 := ⟨Tryz.f111, _, _, Tryz.func111, rfl, rfl, by kernel_rfl, by kernel_rfl, g111.h⟩
/- seisin/check.Right -/
def g112 : Got (cmp 18 (kpL passing [] [[0], [1], [5, 6, 7], [5, 6, 7], [4, 5, 6, 7], [4], [5, 6, 7], []]) (bodyOf Tryz.f112)) := by
 refine ⟨?m, ?h⟩
 case h => conv => lhs; cbv
def m112 : M := g112.m
def fn112 : MFn := ⟨18, [.tmp 2], m112, .shut⟩
theorem fnOk112 : FnOk Tryz.prog 112 fn112 := ⟨Tryz.f112, _, _, Tryz.func112, rfl, rfl, by kernel_rfl, by kernel_rfl, g112.h⟩
/- seisin/spec.Right -/
def g113 : Got (cmp 18 (kpL passing [1, 2] [[0], [1, 2], [2], [1, 2], [1, 2, 9], [1, 2, 3], [2], [2]]) (bodyOf Tryz.f113)) := by
 refine ⟨?m, ?h⟩
 case h => conv => lhs; reduce
def m113 : M := g113.m
def fn113 : MFn := ⟨18, [.cell 2 4], m113, .shut⟩
theorem fnOk113 : FnOk Tryz.prog 113 fn113 := ⟨Tryz.f113, _, _, Tryz.func113, rfl, rfl, by kernel_rfl, by kernel_rfl, g113.h⟩
/- seisin/tags.New -/
def g114 : Got (cmp 32 (kpL passing [] [[0, 1], [1, 2, 4], [4], [1, 2, 4], [2, 4, 6], [4], [2, 4, 6], [2, 4, 6, 7], [4, 6, 7, 22, 23], [4, 6, 7, 22, 23], [4, 6, 7, 8, 22, 23], [4, 6, 7, 22, 23], [4, 7]]) (bodyOf Tryz.f114)) := by
 refine ⟨?m, ?h⟩
 case h => conv => lhs; cbv
def m114 : M := g114.m
def fn114 : MFn := ⟨32, [.cell 4 90, .tmp 5], m114, .pass⟩
theorem fnOk114 : FnOk Tryz.prog 114 fn114 := ⟨Tryz.f114, _, _, Tryz.func114, rfl, rfl, by kernel_rfl, by kernel_rfl, g114.h⟩
/- (seisin/geo.place).locs -/
def g115 : Got (cmp 6 (kpL passing [] [[0, 1], [2, 3]]) (bodyOf Tryz.f115)) := by
 refine ⟨?m, ?h⟩
 case h => conv => lhs; cbv
def m115 : M := g115.m
def fn115 : MFn := ⟨6, [.tmp 4], m115, .shut⟩
theorem fnOk115 : FnOk Tryz.prog 115 fn115 := ⟨Tryz.f115, _, _, Tryz.func115, rfl, rfl, by kernel_rfl, by kernel_rfl, g115.h⟩
/- (seisin/geo.place).word -/
def g116 : Got (cmp 11 (kpL passing [] [[0, 1], [1, 2]]) (bodyOf Tryz.f116)) := by
 refine ⟨?m, ?h⟩
 case h => conv => lhs; cbv
def m116 : M := g116.m
def fn116 : MFn := ⟨11, [.tmp 4], m116, .shut⟩
theorem fnOk116 : FnOk Tryz.prog 116 fn116 := ⟨Tryz.f116, _, _, Tryz.func116, rfl, rfl, by kernel_rfl, by kernel_rfl, g116.h⟩
/- seisin/view.New -/
def g117 : Got (cmp 16 (kpL passing [] [[0, 1], [0, 1, 4], [4], [0, 4]]) (bodyOf Tryz.f117)) := by
 refine ⟨?m, ?h⟩
 case h => conv => lhs; cbv
def m117 : M := g117.m
def fn117 : MFn := ⟨16, [.cell 4 61], m117, .pass⟩
theorem fnOk117 : FnOk Tryz.prog 117 fn117 := ⟨Tryz.f117, _, _, Tryz.func117, rfl, rfl, by kernel_rfl, by kernel_rfl, g117.h⟩
/- (seisin/tags.frame).first -/
def g118 : Got (cmp 22 (kpL passing [7, 8, 9] [[0, 1, 2, 3], [1, 2, 4, 7, 8, 9], [7, 8, 9, 16, 17], [7, 8, 9, 10, 17], [7, 8, 9, 10, 11], [8, 9, 10], [8, 9]]) (bodyOf Tryz.f118)) := by
 refine ⟨?m, ?h⟩
 case h => conv => lhs; reduce
def m118 : M := g118.m
def fn118 : MFn := ⟨22, [.cell 8 3, .cell 9 4], m118, .shut⟩
theorem fnOk118 : FnOk Tryz.prog 118 fn118 := ⟨Tryz.f118, _, _, Tryz.func118, rfl, rfl, by kernel_rfl, by kernel_rfl, g118.h⟩
/- seisin/tags.holds -/
def g119 : Got (cmp 4 (kpL passing [] [[0], [1]]) (bodyOf Tryz.f119)) := by
 refine ⟨?m, ?h⟩
 case h => conv => lhs; cbv
def m119 : M := g119.m
def fn119 : MFn := ⟨4, [.tmp 2], m119, .shut⟩
theorem fnOk119 : FnOk Tryz.prog 119 fn119 := ⟨Tryz.f119, _, _, Tryz.func119, rfl, rfl, by kernel_rfl, by kernel_rfl, g119.h⟩
/- (seisin/tags.frame).slots$1 -/
def g120 : Got (cmp 24 (kpL passing [] [[0, 1], [0, 1, 7, 8], [0, 1, 7, 8], [0, 1, 3, 7, 8], [0, 1, 3, 7, 8, 13, 14], [0, 1, 3, 7, 8, 13, 14], [0, 1, 3, 4, 7, 8, 13, 14], [0, 1, 3, 7, 8, 13, 14], [0, 1, 7, 8]]) (bodyOf Tryz.f120)) := by
 refine ⟨?m, ?h⟩
 case h => conv => lhs; cbv
def m120 : M := g120.m
def fn120 : MFn := ⟨24, [], m120, .pass⟩
theorem fnOk120 : FnOk Tryz.prog 120 fn120 := ⟨Tryz.f120, _, _, Tryz.func120, rfl, rfl, by kernel_rfl, by kernel_rfl, g120.h⟩
/- seisin/geo.Set -/
def g121 : Got (cmp 20 (kpL passing [] [[0, 1], [1, 2], [1, 5, 6], [], [1, 5]]) (bodyOf Tryz.f121)) := by
 refine ⟨?m, ?h⟩
 case h => conv => lhs; cbv
def m121 : M := g121.m
def fn121 : MFn := ⟨20, [.tmp 4], m121, .shut⟩
theorem fnOk121 : FnOk Tryz.prog 121 fn121 := ⟨Tryz.f121, _, _, Tryz.func121, rfl, rfl, by kernel_rfl, by kernel_rfl, g121.h⟩
/- seisin/repl.ordered -/
def g122 : Got (cmp 37 (kpL passing [] [[0], [1], [1, 3], [1, 3, 7, 8], [1, 3, 7, 8], [1, 3, 5, 7, 8], [1, 3, 4, 5, 7, 8], [1, 3, 5, 7, 8], [], [1, 3, 5, 7, 8], [], [1, 3, 7, 8], []]) (bodyOf Tryz.f122)) := by
 refine ⟨?m, ?h⟩
 case h => conv => lhs; cbv
def m122 : M := g122.m
def fn122 : MFn := ⟨37, [.tmp 2], m122, .shut⟩
theorem fnOk122 : FnOk Tryz.prog 122 fn122 := ⟨Tryz.f122, _, _, Tryz.func122, rfl, rfl, by kernel_rfl, by kernel_rfl, g122.h⟩
/- (seisin/geo.place).among -/
def g123 : Got (cmp 8 (kpL passing [] [[0, 1, 2], [4, 5]]) (bodyOf Tryz.f123)) := by
 refine ⟨?m, ?h⟩
 case h => conv => lhs; cbv
def m123 : M := g123.m
def fn123 : MFn := ⟨8, [.tmp 6], m123, .shut⟩
theorem fnOk123 : FnOk Tryz.prog 123 fn123 := ⟨Tryz.f123, _, _, Tryz.func123, rfl, rfl, by kernel_rfl, by kernel_rfl, g123.h⟩
/- seisin/view.known -/
def g124 : Got (cmp 13 (kpL passing [] [[0], [0]]) (bodyOf Tryz.f124)) := by
 refine ⟨?m, ?h⟩
 case h => conv => lhs; cbv
def m124 : M := g124.m
def fn124 : MFn := ⟨13, [.tmp 2], m124, .shut⟩
theorem fnOk124 : FnOk Tryz.prog 124 fn124 := ⟨Tryz.f124, _, _, Tryz.func124, rfl, rfl, by kernel_rfl, by kernel_rfl, g124.h⟩
/- (*seisin/inv.scene).count -/
def g126 : Got (cmp 24 (kpL passing [] [[0, 1], [0, 1], [0, 1, 5], [1, 5, 11, 12, 13], [1, 5, 11, 12, 13], [1, 5, 7, 11, 12, 13], [1, 5, 11, 12, 13], [1, 5, 11, 12, 13], [5]]) (bodyOf Tryz.f126)) := by
 refine ⟨?m, ?h⟩
 case h => conv => lhs; cbv
def m126 : M := g126.m
def fn126 : MFn := ⟨24, [.tmp 4], m126, .pass⟩
theorem fnOk126 : FnOk Tryz.prog 126 fn126 := ⟨Tryz.f126, _, _, Tryz.func126, rfl, rfl, by kernel_rfl, by kernel_rfl, g126.h⟩
/- (*seisin/inv.scene).acks$1 -/
def g127 : Got (cmp 24 (kpL passing [] [[0, 1], [1, 2]]) (bodyOf Tryz.f127)) := by
 refine ⟨?m, ?h⟩
 case h => conv => lhs; cbv
def m127 : M := g127.m
def fn127 : MFn := ⟨24, [.tmp 3], m127, .pass⟩
theorem fnOk127 : FnOk Tryz.prog 127 fn127 := ⟨Tryz.f127, _, _, Tryz.func127, rfl, rfl, by kernel_rfl, by kernel_rfl, g127.h⟩
/- (*seisin/inv.scene).puts$1 -/
def g128 : Got (cmp 24 (kpL passing [] [[0, 1], [1, 2]]) (bodyOf Tryz.f128)) := by
 refine ⟨?m, ?h⟩
 case h => conv => lhs; cbv
def m128 : M := g128.m
def fn128 : MFn := ⟨24, [.tmp 3], m128, .pass⟩
theorem fnOk128 : FnOk Tryz.prog 128 fn128 := ⟨Tryz.f128, _, _, Tryz.func128, rfl, rfl, by kernel_rfl, by kernel_rfl, g128.h⟩
/- (*seisin/inv.scene).gets$1 -/
def g129 : Got (cmp 8 (kpL passing [] [[0, 1, 2], [1, 2, 3]]) (bodyOf Tryz.f129)) := by
 refine ⟨?m, ?h⟩
 case h => conv => lhs; cbv
def m129 : M := g129.m
def fn129 : MFn := ⟨8, [.tmp 4], m129, .pass⟩
theorem fnOk129 : FnOk Tryz.prog 129 fn129 := ⟨Tryz.f129, _, _, Tryz.func129, rfl, rfl, by kernel_rfl, by kernel_rfl, g129.h⟩
/- (*seisin/inv.scene).gets$1$1 -/
def g130 : Got (cmp 15 (kpL passing [] [[0, 1, 2], [1, 2, 3]]) (bodyOf Tryz.f130)) := by
 refine ⟨?m, ?h⟩
 case h => conv => lhs; cbv
def m130 : M := g130.m
def fn130 : MFn := ⟨15, [.tmp 4], m130, .pass⟩
theorem fnOk130 : FnOk Tryz.prog 130 fn130 := ⟨Tryz.f130, _, _, Tryz.func130, rfl, rfl, by kernel_rfl, by kernel_rfl, g130.h⟩
/- (*seisin/inv.scene).kinds$1 -/
def g131 : Got (cmp 8 (kpL passing [] [[0, 1], [1, 2]]) (bodyOf Tryz.f131)) := by
 refine ⟨?m, ?h⟩
 case h => conv => lhs; cbv
def m131 : M := g131.m
def fn131 : MFn := ⟨8, [.tmp 3], m131, .pass⟩
theorem fnOk131 : FnOk Tryz.prog 131 fn131 := ⟨Tryz.f131, _, _, Tryz.func131, rfl, rfl, by kernel_rfl, by kernel_rfl, g131.h⟩
/- slices.Contains[[]uint8,uint8] -/
def g132 : Got (cmp 9 (kpL passing [] [[0, 1], [0, 1]]) (bodyOf Tryz.f132)) := by
 refine ⟨?m, ?h⟩
 case h => conv => lhs; cbv
def m132 : M := g132.m
def fn132 : MFn := ⟨9, [.tmp 4], m132, .shut⟩
theorem fnOk132 : FnOk Tryz.prog 132 fn132 := ⟨Tryz.f132, _, _, Tryz.func132, rfl, rfl, by kernel_rfl, by kernel_rfl, g132.h⟩
/- seisin/spec.rules$1 -/
def g133 : Got (cmp 4 (kpL passing [] [[0], [1]]) (bodyOf Tryz.f133)) := by
 refine ⟨?m, ?h⟩
 case h => conv => lhs; cbv
def m133 : M := g133.m
def fn133 : MFn := ⟨4, [.tmp 2], m133, .pass⟩
theorem fnOk133 : FnOk Tryz.prog 133 fn133 := ⟨Tryz.f133, _, _, Tryz.func133, rfl, rfl, by kernel_rfl, by kernel_rfl, g133.h⟩
/- (*seisin/spec.words).empty -/
def g135 : Got (cmp 9 (kpL passing [] [[0], [0]]) (bodyOf Tryz.f135)) := by
 refine ⟨?m, ?h⟩
 case h => conv => lhs; cbv
def m135 : M := g135.m
def fn135 : MFn := ⟨9, [.tmp 2], m135, .pass⟩
theorem fnOk135 : FnOk Tryz.prog 135 fn135 := ⟨Tryz.f135, _, _, Tryz.func135, rfl, rfl, by kernel_rfl, by kernel_rfl, g135.h⟩
/- seisin/spec.rules$2 -/
def g136 : Got (cmp 33 (kpL passing [] [[0, 1], [1, 2, 4], [1, 2, 4, 6, 7], [4], [1, 2, 4, 6], [4, 6, 7, 8]]) (bodyOf Tryz.f136)) := by
 refine ⟨?m, ?h⟩
 case h => conv => lhs; reduce
def m136 : M := g136.m
def fn136 : MFn := ⟨33, [.cell 4 36, .tmp 5], m136, .pass⟩
theorem fnOk136 : FnOk Tryz.prog 136 fn136 := ⟨Tryz.f136, _, _, Tryz.func136, rfl, rfl, by kernel_rfl, by kernel_rfl, g136.h⟩
/- (*seisin/spec.words).number -/
def g137 : Got (cmp 12 (kpL passing [] [[0, 1], [0, 1]]) (bodyOf Tryz.f137)) := by
 refine ⟨?m, ?h⟩
 case h => conv => lhs; cbv
def m137 : M := g137.m
def fn137 : MFn := ⟨12, [.tmp 4, .tmp 5], m137, .pass⟩
theorem fnOk137 : FnOk Tryz.prog 137 fn137 := ⟨Tryz.f137, _, _, Tryz.func137, rfl, rfl, by kernel_rfl, by kernel_rfl, g137.h⟩
/- (*seisin/spec.reader).acts -/
def g138 : Got (cmp 51 (kpL passing [] [[0, 1], [0, 1], [], [0, 1], [], [0, 1], [0, 1, 6], [0, 1, 6], [0, 1, 6, 7, 8], [], [0, 1, 6, 7], [6]]) (bodyOf Tryz.f138)) := by
 refine ⟨?m, ?h⟩
 case h => conv => lhs; cbv
def m138 : M := g138.m
def fn138 : MFn := ⟨51, [.tmp 4, .tmp 5], m138, .pass⟩
theorem fnOk138 : FnOk Tryz.prog 138 fn138 := ⟨Tryz.f138, _, _, Tryz.func138, rfl, rfl, by kernel_rfl, by kernel_rfl, g138.h⟩
/- seisin/spec.lines$1 -/
def g139 : Got (cmp 5 (kpL passing [] [[0], [0]]) (bodyOf Tryz.f139)) := by
 refine ⟨?m, ?h⟩
 case h => conv => lhs; cbv
def m139 : M := g139.m
def fn139 : MFn := ⟨5, [.tmp 2], m139, .pass⟩
theorem fnOk139 : FnOk Tryz.prog 139 fn139 := ⟨Tryz.f139, _, _, Tryz.func139, rfl, rfl, by kernel_rfl, by kernel_rfl, g139.h⟩
/- seisin/spec.lines$2 -/
def g140 : Got (cmp 31 (kpL passing [2, 3, 4] [[0, 1, 2], [1, 2, 3], [1, 2, 3, 4], [2, 3, 4, 9], [2, 3, 4, 5], [2, 3, 4, 5], [2, 3, 4, 5], [3, 4, 6]]) (bodyOf Tryz.f140)) := by
 refine ⟨?m, ?h⟩
 case h => conv => lhs; reduce
def m140 : M := g140.m
def fn140 : MFn := ⟨31, [], m140, .pass⟩
theorem fnOk140 : FnOk Tryz.prog 140 fn140 := ⟨Tryz.f140, _, _, Tryz.func140, rfl, rfl, by kernel_rfl, by kernel_rfl, g140.h⟩
/- strings.SplitSeq -/
def g141 : Got (cmp 8 (kpL passing [] [[0, 1], [0, 1]]) (bodyOf Tryz.f141)) := by
 refine ⟨?m, ?h⟩
 case h => conv => lhs; cbv
def m141 : M := g141.m
def fn141 : MFn := ⟨8, [.tmp 4], m141, .pass⟩
theorem fnOk141 : FnOk Tryz.prog 141 fn141 := ⟨Tryz.f141, _, _, Tryz.func141, rfl, rfl, by kernel_rfl, by kernel_rfl, g141.h⟩
/- strings.Cut -/
def g142 : Got (cmp 13 (kpL passing [] [[0, 1], [0, 1]]) (bodyOf Tryz.f142)) := by
 refine ⟨?m, ?h⟩
 case h => conv => lhs; cbv
def m142 : M := g142.m
def fn142 : MFn := ⟨13, [.tmp 4, .tmp 5, .tmp 6], m142, .shut⟩
theorem fnOk142 : FnOk Tryz.prog 142 fn142 := ⟨Tryz.f142, _, _, Tryz.func142, rfl, rfl, by kernel_rfl, by kernel_rfl, g142.h⟩
/- strings.FieldsFunc -/
def g143 : Got (cmp 65 (kpL passing [] [[0, 1], [0, 1], [0, 1, 5], [0, 1, 5, 6], [0, 1, 5, 6, 14], [0, 1, 5, 6, 14, 15], [0, 1, 5, 6, 7, 8, 14], [0, 1, 5, 6, 7, 14], [0, 1, 5, 6, 7, 14], [0, 1, 5, 6, 14], [0, 1, 5, 6, 7, 14], [0, 1, 5, 7, 14], [0, 5, 6], [0, 5, 6], [0, 5], [0, 5, 9], [0, 9, 47, 48, 49], [0, 9, 47, 48, 49], [0, 9, 10, 11, 47, 48, 49], [0, 9, 47, 48, 49], [9]]) (bodyOf Tryz.f143)) := by
 refine ⟨?m, ?h⟩
 case h => conv => lhs; cbv
def m143 : M := g143.m
def fn143 : MFn := ⟨65, [.tmp 4], m143, .shut⟩
theorem fnOk143 : FnOk Tryz.prog 143 fn143 := ⟨Tryz.f143, _, _, Tryz.func143, rfl, rfl, by kernel_rfl, by kernel_rfl, g143.h⟩
/- (*seisin/spec.reader).place -/
def g144 : Got (cmp 59 (kpL passing [] [[0], [0, 2], [0, 2, 4], [2], [0, 2, 4, 14], [0, 2, 4, 14], [0, 2, 4], [0, 2, 4], [0, 2, 4, 5, 6], [2, 4, 5, 6, 7, 8], [2], [2, 4, 5, 7], [2, 4]]) (bodyOf Tryz.f144)) := by
 refine ⟨?m, ?h⟩
 case h => conv => lhs; reduce
def m144 : M := g144.m
def fn144 : MFn := ⟨59, [.cell 2 225, .tmp 3], m144, .pass⟩
theorem fnOk144 : FnOk Tryz.prog 144 fn144 := ⟨Tryz.f144, _, _, Tryz.func144, rfl, rfl, by kernel_rfl, by kernel_rfl, g144.h⟩
/- (*seisin/spec.words).next -/
def m145 : M :=
 .seq (.reg [0] [⟨(some 2), .assign (.const (.string ⟨#[]⟩)), none⟩] 0)
 (.seq (.seq (.reg [0] [⟨(some 4), .move (.tmp 0), none⟩,
 ⟨(some 5), .nilCheck (.tmp 4), none⟩,
 ⟨(some 6), .fieldAddr 209 (.tmp 5) 0, none⟩,
 ⟨(some 7), .load 22 (.tmp 6), none⟩,
 ⟨(some 8), .call ⟨.builtin .len, #[(.tmp 7)], #[22]⟩, none⟩,
 ⟨(some 9), .binOp .eql 3 (.tmp 8) (.const (.int .i64 0)) 3, none⟩] 0)
 (.cond (.tmp 9) (.seq (.reg [] [⟨(some 2), .assign (.const (.string ⟨#[]⟩)), none⟩] 0)
 (.ret))
 (.skip)))
 (.seq (.reg [0] [⟨(some 10), .move (.tmp 0), none⟩,
 ⟨(some 11), .nilCheck (.tmp 10), none⟩,
 ⟨(some 12), .fieldAddr 209 (.tmp 11) 0, none⟩,
 ⟨(some 13), .load 22 (.tmp 12), none⟩,
 ⟨(some 14), .indexAddr 22 (.tmp 13) (.const (.int .i64 0)), none⟩,
 ⟨(some 15), .load 9 (.tmp 14), none⟩,
 ⟨(some 3), .assign (.tmp 15), none⟩] 0)
 (.seq (.reg [0, 3] [⟨(some 16), .move (.tmp 0), none⟩,
 ⟨(some 17), .move (.tmp 0), none⟩,
 ⟨(some 18), .nilCheck (.tmp 17), none⟩,
 ⟨(some 19), .fieldAddr 209 (.tmp 18) 0, none⟩,
 ⟨(some 20), .load 22 (.tmp 19), none⟩,
 ⟨(some 21), .slice 22 (.tmp 20) (some (.const (.int .i64 1))) none none, none⟩,
 ⟨(some 22), .nilCheck (.tmp 16), none⟩,
 ⟨(some 23), .fieldAddr 209 (.tmp 22) 0, none⟩,
 ⟨none, .store 22 (.tmp 23) (.tmp 21), none⟩] 0)
 (.seq (.reg [3] [⟨(some 24), .move (.tmp 3), none⟩,
 ⟨(some 2), .assign (.tmp 24), none⟩] 0)
 (.ret)))))
def fn145 : MFn := ⟨25, [.tmp 2], m145, .pass⟩
theorem fnOk145 : FnOk Tryz.prog 145 fn145 := ⟨Tryz.f145, _, kpL passing [] [[0], [0], [], [0], [0, 3], [3]], Tryz.func145, rfl, by kernel_rfl, by kernel_rfl, by kernel_rfl, by kernel_rfl⟩
/- (seisin/spec.place).in -/
def g146 : Got (cmp 27 (kpL passing [] [[0, 1], [1, 2], [1, 2], [1, 2]]) (bodyOf Tryz.f146)) := by
 refine ⟨?m, ?h⟩
 case h => conv => lhs; reduce
def m146 : M := g146.m
def fn146 : MFn := ⟨27, [.tmp 4], m146, .pass⟩
theorem fnOk146 : FnOk Tryz.prog 146 fn146 := ⟨Tryz.f146, _, _, Tryz.func146, rfl, rfl, by kernel_rfl, by kernel_rfl, g146.h⟩
/- seisin/table.cells -/
def m147 : M :=
 .seq (.reg [0] [⟨(some 1), .box 177 (.tmp 0), none⟩,
 ⟨(some 2), .assign (.const .nilFunc), none⟩] 0)
 (.seq (.reg [1] [⟨(some 3), .makeFunc (.func 164) #[] #[(.tmp 1)], none⟩,
 ⟨(some 2), .assign (.tmp 3), none⟩] 0)
 (.ret))
def fn147 : MFn := ⟨4, [.tmp 2], m147, .pass⟩
theorem fnOk147 : FnOk Tryz.prog 147 fn147 := ⟨Tryz.f147, _, kpL passing [] [[0], [1]], Tryz.func147, rfl, by kernel_rfl, by kernel_rfl, by kernel_rfl, by kernel_rfl⟩
/- seisin/check.demands -/
def g148 : Got (cmp 18 (kpL passing [] [[0], [1], [1, 3]]) (bodyOf Tryz.f148)) := by
 refine ⟨?m, ?h⟩
 case h => conv => lhs; cbv
def m148 : M := g148.m
def fn148 : MFn := ⟨18, [.tmp 2], m148, .pass⟩
theorem fnOk148 : FnOk Tryz.prog 148 fn148 := ⟨Tryz.f148, _, _, Tryz.func148, rfl, rfl, by kernel_rfl, by kernel_rfl, g148.h⟩
/- seisin/spec.cells -/
def g149 : Got (cmp 1 (kpL passing [] [[], []]) (bodyOf Tryz.f149)) := by
 refine ⟨?m, ?h⟩
 case h => conv => lhs; cbv
def m149 : M := g149.m
def fn149 : MFn := ⟨1, [.tmp 0], m149, .shut⟩
theorem fnOk149 : FnOk Tryz.prog 149 fn149 := ⟨Tryz.f149, _, _, Tryz.func149, rfl, rfl, by kernel_rfl, by kernel_rfl, g149.h⟩
/- (seisin/spec.part).right -/
def g150 : Got (cmp 42 (kpL passing [] [[0, 1], [2, 3], [2, 3, 6], [2, 3, 6], [2, 3, 6], [3], [2, 3, 6], [2, 3], [3], [3], []]) (bodyOf Tryz.f150)) := by
 refine ⟨?m, ?h⟩
 case h => conv => lhs; cbv
def m150 : M := g150.m
def fn150 : MFn := ⟨42, [.tmp 4], m150, .shut⟩
theorem fnOk150 : FnOk Tryz.prog 150 fn150 := ⟨Tryz.f150, _, _, Tryz.func150, rfl, rfl, by kernel_rfl, by kernel_rfl, g150.h⟩
/- seisin/tags.fresh -/
def g151 : Got (cmp 8 (kpL passing [] [[0, 1], [0, 1, 4]]) (bodyOf Tryz.f151)) := by
 refine ⟨?m, ?h⟩
 case h => conv => lhs; cbv
def m151 : M := g151.m
def fn151 : MFn := ⟨8, [.cell 4 87], m151, .pass⟩
theorem fnOk151 : FnOk Tryz.prog 151 fn151 := ⟨Tryz.f151, _, _, Tryz.func151, rfl, rfl, by kernel_rfl, by kernel_rfl, g151.h⟩
/- (seisin/geo.place).locs$1 -/
def g152 : Got (cmp 20 (kpL passing [] [[0, 1, 2], [0, 1, 2, 4], [0, 1, 2, 4], [0, 1, 2, 4]]) (bodyOf Tryz.f152)) := by
 refine ⟨?m, ?h⟩
 case h => conv => lhs; reduce
def m152 : M := g152.m
def fn152 : MFn := ⟨20, [], m152, .pass⟩
theorem fnOk152 : FnOk Tryz.prog 152 fn152 := ⟨Tryz.f152, _, _, Tryz.func152, rfl, rfl, by kernel_rfl, by kernel_rfl, g152.h⟩
/- (seisin/tags.frame).row -/
def g153 : Got (cmp 8 (kpL passing [] [[0, 1, 2], [3, 4, 5]]) (bodyOf Tryz.f153)) := by
 refine ⟨?m, ?h⟩
 case h => conv => lhs; cbv
def m153 : M := g153.m
def fn153 : MFn := ⟨8, [.tmp 6], m153, .shut⟩
theorem fnOk153 : FnOk Tryz.prog 153 fn153 := ⟨Tryz.f153, _, _, Tryz.func153, rfl, rfl, by kernel_rfl, by kernel_rfl, g153.h⟩
/- seisin/tags.holds$1 -/
def g154 : Got (cmp 13 (kpL passing [] [[0, 1], [1, 2]]) (bodyOf Tryz.f154)) := by
 refine ⟨?m, ?h⟩
 case h => conv => lhs; cbv
def m154 : M := g154.m
def fn154 : MFn := ⟨13, [.tmp 3], m154, .pass⟩
theorem fnOk154 : FnOk Tryz.prog 154 fn154 := ⟨Tryz.f154, _, _, Tryz.func154, rfl, rfl, by kernel_rfl, by kernel_rfl, g154.h⟩
/- (seisin/geo.place).among$1 -/
def g155 : Got (cmp 17 (kpL passing [] [[0, 1, 2], [0, 1, 2]]) (bodyOf Tryz.f155)) := by
 refine ⟨?m, ?h⟩
 case h => conv => lhs; cbv
def m155 : M := g155.m
def fn155 : MFn := ⟨17, [.tmp 4], m155, .pass⟩
theorem fnOk155 : FnOk Tryz.prog 155 fn155 := ⟨Tryz.f155, _, _, Tryz.func155, rfl, rfl, by kernel_rfl, by kernel_rfl, g155.h⟩
/- slices.Index[[]uint8,uint8] -/
def g158 : Got (cmp 19 (kpL passing [] [[0, 1], [0, 1], [0, 1, 7, 8], [0, 1, 7, 8], [0, 1, 5, 7, 8], [5], [0, 1, 7, 8], []]) (bodyOf Tryz.f158)) := by
 refine ⟨?m, ?h⟩
 case h => conv => lhs; cbv
def m158 : M := g158.m
def fn158 : MFn := ⟨19, [.tmp 4], m158, .shut⟩
theorem fnOk158 : FnOk Tryz.prog 158 fn158 := ⟨Tryz.f158, _, _, Tryz.func158, rfl, rfl, by kernel_rfl, by kernel_rfl, g158.h⟩
/- seisin/spec.Number -/
def g159 : Got (cmp 29 (kpL passing [] [[0, 1], [0, 1], [], [0, 1], [0, 1, 17], [0, 1, 17], [0, 1, 6, 17], [6], [0, 1, 17], []]) (bodyOf Tryz.f159)) := by
 refine ⟨?m, ?h⟩
 case h => conv => lhs; cbv
def m159 : M := g159.m
def fn159 : MFn := ⟨29, [.tmp 4, .tmp 5], m159, .shut⟩
theorem fnOk159 : FnOk Tryz.prog 159 fn159 := ⟨Tryz.f159, _, _, Tryz.func159, rfl, rfl, by kernel_rfl, by kernel_rfl, g159.h⟩
/- strings.splitSeq -/
def g160 : Got (cmp 8 (kpL passing [] [[0, 1, 2], [3, 4, 5]]) (bodyOf Tryz.f160)) := by
 refine ⟨?m, ?h⟩
 case h => conv => lhs; cbv
def m160 : M := g160.m
def fn160 : MFn := ⟨8, [.tmp 6], m160, .pass⟩
theorem fnOk160 : FnOk Tryz.prog 160 fn160 := ⟨Tryz.f160, _, _, Tryz.func160, rfl, rfl, by kernel_rfl, by kernel_rfl, g160.h⟩
/- internal/stringslite.Cut -/
def g161 : Got (cmp 23 (kpL passing [] [[0, 1], [0, 1], [0, 1, 7], [0, 1, 7], [0]]) (bodyOf Tryz.f161)) := by
 refine ⟨?m, ?h⟩
 case h => conv => lhs; reduce
def m161 : M := g161.m
def fn161 : MFn := ⟨23, [.tmp 4, .tmp 5, .tmp 6], m161, .shut⟩
theorem fnOk161 : FnOk Tryz.prog 161 fn161 := ⟨Tryz.f161, _, _, Tryz.func161, rfl, rfl, by kernel_rfl, by kernel_rfl, g161.h⟩
/- seisin/spec.caches -/
def g162 : Got (cmp 2 (kpL passing [] [[], [0]]) (bodyOf Tryz.f162)) := by
 refine ⟨?m, ?h⟩
 case h => conv => lhs; cbv
def m162 : M := g162.m
def fn162 : MFn := ⟨2, [.cell 0 206], m162, .shut⟩
theorem fnOk162 : FnOk Tryz.prog 162 fn162 := ⟨Tryz.f162, _, _, Tryz.func162, rfl, rfl, by kernel_rfl, by kernel_rfl, g162.h⟩
/- seisin/spec.homes -/
def g163 : Got (cmp 2 (kpL passing [] [[], [0]]) (bodyOf Tryz.f163)) := by
 refine ⟨?m, ?h⟩
 case h => conv => lhs; cbv
def m163 : M := g163.m
def fn163 : MFn := ⟨2, [.cell 0 206], m163, .shut⟩
theorem fnOk163 : FnOk Tryz.prog 163 fn163 := ⟨Tryz.f163, _, _, Tryz.func163, rfl, rfl, by kernel_rfl, by kernel_rfl, g163.h⟩
/- seisin/table.cells$1 -/
def m164_l1 : M :=
 .seq (.reg [0, 1, 3, 7, 10] [⟨(some 11), .binOp .lss 3 (.tmp 10) (.const (.int .i64 14)) 3, none⟩] 0)
 (.seq (.cond (.tmp 11) (.skip)
 (.exit 2))
 (.seq (.block 3 (.seq (.reg [0, 1, 3, 7, 10] [⟨(some 12), .move (.tmp 10), none⟩,
 ⟨(some 4), .assign (.tmp 12), none⟩] 0)
 (.seq (.reg [0, 1, 3, 4, 7, 10] [⟨(some 13), .move (.tmp 0), none⟩,
 ⟨(some 14), .move (.tmp 3), none⟩,
 ⟨(some 15), .convert 3 5 (.tmp 14), none⟩,
 ⟨(some 16), .move (.tmp 4), none⟩,
 ⟨(some 17), .convert 3 5 (.tmp 16), none⟩,
 ⟨(some 18), .build 148 #[(0, (.const (.bool false))), (1, (.tmp 15)), (2, (.tmp 17))], none⟩,
 ⟨(some 19), .load 177 (.tmp 1), none⟩,
 ⟨(some 20), .move (.tmp 3), none⟩,
 ⟨(some 21), .move (.tmp 4), none⟩,
 ⟨(some 22), .nilCheck (.tmp 19), none⟩,
 ⟨(some 23), .fieldAddr 42 (.tmp 22) 1, none⟩,
 ⟨(some 24), .indexAddr 38 (.tmp 23) (.tmp 20), none⟩,
 ⟨(some 25), .indexAddr 37 (.tmp 24) (.tmp 21), none⟩,
 ⟨(some 26), .call ⟨.value (.tmp 13), #[(.tmp 18), (.tmp 25)], #[148, 230]⟩, none⟩,
 ⟨(some 27), .unOp .not 4 (.tmp 26), none⟩] 0)
 (.cond (.tmp 27) (.ret)
 (.skip)))))
 (.reg [0, 1, 3, 7, 10] [⟨(some 28), .binOp .add 3 (.tmp 10) (.const (.int .i64 1)) 3, none⟩,
 ⟨(some 10), .move (.tmp 28), none⟩] 0)))
def m164_l0 : M :=
 .seq (.reg [0, 1, 7] [⟨(some 8), .binOp .lss 3 (.tmp 7) (.const (.int .i64 12)) 3, none⟩] 0)
 (.seq (.cond (.tmp 8) (.skip)
 (.exit 0))
 (.seq (.block 1 (.seq (.reg [0, 1, 7] [⟨(some 9), .move (.tmp 7), none⟩,
 ⟨(some 3), .assign (.tmp 9), none⟩] 0)
 (.seq (.reg [0, 1, 3, 7] [⟨(some 10), .move (.const (.int .i64 0)), none⟩] 0)
 (.block 2 (.loop (m164_l1))))))
 (.reg [0, 1, 7] [⟨(some 29), .binOp .add 3 (.tmp 7) (.const (.int .i64 1)) 3, none⟩,
 ⟨(some 7), .move (.tmp 29), none⟩] 0)))
def m164_l3 : M :=
 .seq (.reg [0, 1, 5, 30, 33] [⟨(some 34), .binOp .lss 3 (.tmp 33) (.const (.int .i64 5)) 3, none⟩] 0)
 (.seq (.cond (.tmp 34) (.skip)
 (.exit 6))
 (.seq (.block 7 (.seq (.reg [0, 1, 5, 30, 33] [⟨(some 35), .move (.tmp 33), none⟩,
 ⟨(some 6), .assign (.tmp 35), none⟩] 0)
 (.seq (.reg [0, 1, 5, 6, 30, 33] [⟨(some 36), .move (.tmp 0), none⟩,
 ⟨(some 37), .move (.tmp 5), none⟩,
 ⟨(some 38), .convert 3 5 (.tmp 37), none⟩,
 ⟨(some 39), .move (.tmp 6), none⟩,
 ⟨(some 40), .convert 3 5 (.tmp 39), none⟩,
 ⟨(some 41), .build 148 #[(0, (.const (.bool true))), (1, (.tmp 38)), (2, (.tmp 40))], none⟩,
 ⟨(some 42), .load 177 (.tmp 1), none⟩,
 ⟨(some 43), .move (.tmp 5), none⟩,
 ⟨(some 44), .move (.tmp 6), none⟩,
 ⟨(some 45), .nilCheck (.tmp 42), none⟩,
 ⟨(some 46), .fieldAddr 42 (.tmp 45) 2, none⟩,
 ⟨(some 47), .indexAddr 40 (.tmp 46) (.tmp 43), none⟩,
 ⟨(some 48), .indexAddr 39 (.tmp 47) (.tmp 44), none⟩,
 ⟨(some 49), .call ⟨.value (.tmp 36), #[(.tmp 41), (.tmp 48)], #[148, 230]⟩, none⟩,
 ⟨(some 50), .unOp .not 4 (.tmp 49), none⟩] 0)
 (.cond (.tmp 50) (.ret)
 (.skip)))))
 (.reg [0, 1, 5, 30, 33] [⟨(some 51), .binOp .add 3 (.tmp 33) (.const (.int .i64 1)) 3, none⟩,
 ⟨(some 33), .move (.tmp 51), none⟩] 0)))
def m164_l2 : M :=
 .seq (.reg [0, 1, 30] [⟨(some 31), .binOp .lss 3 (.tmp 30) (.const (.int .i64 4)) 3, none⟩] 0)
 (.seq (.cond (.tmp 31) (.skip)
 (.exit 4))
 (.seq (.block 5 (.seq (.reg [0, 1, 30] [⟨(some 32), .move (.tmp 30), none⟩,
 ⟨(some 5), .assign (.tmp 32), none⟩] 0)
 (.seq (.reg [0, 1, 5, 30] [⟨(some 33), .move (.const (.int .i64 0)), none⟩] 0)
 (.block 6 (.loop (m164_l3))))))
 (.reg [0, 1, 30] [⟨(some 52), .binOp .add 3 (.tmp 30) (.const (.int .i64 1)) 3, none⟩,
 ⟨(some 30), .move (.tmp 52), none⟩] 0)))
theorem u164_l1 {C : Ctx} {k : List It} {st : St} {Q : Ex → St → Prop} : RunK C (.code m164_l1 :: k) st Q ↔ RunK C (.code (.seq (.reg [0, 1, 3, 7, 10] [⟨(some 11), .binOp .lss 3 (.tmp 10) (.const (.int .i64 14)) 3, none⟩] 0)
 (.seq (.cond (.tmp 11) (.skip)
 (.exit 2))
 (.seq (.block 3 (.seq (.reg [0, 1, 3, 7, 10] [⟨(some 12), .move (.tmp 10), none⟩,
 ⟨(some 4), .assign (.tmp 12), none⟩] 0)
 (.seq (.reg [0, 1, 3, 4, 7, 10] [⟨(some 13), .move (.tmp 0), none⟩,
 ⟨(some 14), .move (.tmp 3), none⟩,
 ⟨(some 15), .convert 3 5 (.tmp 14), none⟩,
 ⟨(some 16), .move (.tmp 4), none⟩,
 ⟨(some 17), .convert 3 5 (.tmp 16), none⟩,
 ⟨(some 18), .build 148 #[(0, (.const (.bool false))), (1, (.tmp 15)), (2, (.tmp 17))], none⟩,
 ⟨(some 19), .load 177 (.tmp 1), none⟩,
 ⟨(some 20), .move (.tmp 3), none⟩,
 ⟨(some 21), .move (.tmp 4), none⟩,
 ⟨(some 22), .nilCheck (.tmp 19), none⟩,
 ⟨(some 23), .fieldAddr 42 (.tmp 22) 1, none⟩,
 ⟨(some 24), .indexAddr 38 (.tmp 23) (.tmp 20), none⟩,
 ⟨(some 25), .indexAddr 37 (.tmp 24) (.tmp 21), none⟩,
 ⟨(some 26), .call ⟨.value (.tmp 13), #[(.tmp 18), (.tmp 25)], #[148, 230]⟩, none⟩,
 ⟨(some 27), .unOp .not 4 (.tmp 26), none⟩] 0)
 (.cond (.tmp 27) (.ret)
 (.skip)))))
 (.reg [0, 1, 3, 7, 10] [⟨(some 28), .binOp .add 3 (.tmp 10) (.const (.int .i64 1)) 3, none⟩,
 ⟨(some 10), .move (.tmp 28), none⟩] 0)))) :: k) st Q := Iff.rfl
theorem u164_l0 {C : Ctx} {k : List It} {st : St} {Q : Ex → St → Prop} : RunK C (.code m164_l0 :: k) st Q ↔ RunK C (.code (.seq (.reg [0, 1, 7] [⟨(some 8), .binOp .lss 3 (.tmp 7) (.const (.int .i64 12)) 3, none⟩] 0)
 (.seq (.cond (.tmp 8) (.skip)
 (.exit 0))
 (.seq (.block 1 (.seq (.reg [0, 1, 7] [⟨(some 9), .move (.tmp 7), none⟩,
 ⟨(some 3), .assign (.tmp 9), none⟩] 0)
 (.seq (.reg [0, 1, 3, 7] [⟨(some 10), .move (.const (.int .i64 0)), none⟩] 0)
 (.block 2 (.loop (m164_l1))))))
 (.reg [0, 1, 7] [⟨(some 29), .binOp .add 3 (.tmp 7) (.const (.int .i64 1)) 3, none⟩,
 ⟨(some 7), .move (.tmp 29), none⟩] 0)))) :: k) st Q := Iff.rfl
theorem u164_l3 {C : Ctx} {k : List It} {st : St} {Q : Ex → St → Prop} : RunK C (.code m164_l3 :: k) st Q ↔ RunK C (.code (.seq (.reg [0, 1, 5, 30, 33] [⟨(some 34), .binOp .lss 3 (.tmp 33) (.const (.int .i64 5)) 3, none⟩] 0)
 (.seq (.cond (.tmp 34) (.skip)
 (.exit 6))
 (.seq (.block 7 (.seq (.reg [0, 1, 5, 30, 33] [⟨(some 35), .move (.tmp 33), none⟩,
 ⟨(some 6), .assign (.tmp 35), none⟩] 0)
 (.seq (.reg [0, 1, 5, 6, 30, 33] [⟨(some 36), .move (.tmp 0), none⟩,
 ⟨(some 37), .move (.tmp 5), none⟩,
 ⟨(some 38), .convert 3 5 (.tmp 37), none⟩,
 ⟨(some 39), .move (.tmp 6), none⟩,
 ⟨(some 40), .convert 3 5 (.tmp 39), none⟩,
 ⟨(some 41), .build 148 #[(0, (.const (.bool true))), (1, (.tmp 38)), (2, (.tmp 40))], none⟩,
 ⟨(some 42), .load 177 (.tmp 1), none⟩,
 ⟨(some 43), .move (.tmp 5), none⟩,
 ⟨(some 44), .move (.tmp 6), none⟩,
 ⟨(some 45), .nilCheck (.tmp 42), none⟩,
 ⟨(some 46), .fieldAddr 42 (.tmp 45) 2, none⟩,
 ⟨(some 47), .indexAddr 40 (.tmp 46) (.tmp 43), none⟩,
 ⟨(some 48), .indexAddr 39 (.tmp 47) (.tmp 44), none⟩,
 ⟨(some 49), .call ⟨.value (.tmp 36), #[(.tmp 41), (.tmp 48)], #[148, 230]⟩, none⟩,
 ⟨(some 50), .unOp .not 4 (.tmp 49), none⟩] 0)
 (.cond (.tmp 50) (.ret)
 (.skip)))))
 (.reg [0, 1, 5, 30, 33] [⟨(some 51), .binOp .add 3 (.tmp 33) (.const (.int .i64 1)) 3, none⟩,
 ⟨(some 33), .move (.tmp 51), none⟩] 0)))) :: k) st Q := Iff.rfl
theorem u164_l2 {C : Ctx} {k : List It} {st : St} {Q : Ex → St → Prop} : RunK C (.code m164_l2 :: k) st Q ↔ RunK C (.code (.seq (.reg [0, 1, 30] [⟨(some 31), .binOp .lss 3 (.tmp 30) (.const (.int .i64 4)) 3, none⟩] 0)
 (.seq (.cond (.tmp 31) (.skip)
 (.exit 4))
 (.seq (.block 5 (.seq (.reg [0, 1, 30] [⟨(some 32), .move (.tmp 30), none⟩,
 ⟨(some 5), .assign (.tmp 32), none⟩] 0)
 (.seq (.reg [0, 1, 5, 30] [⟨(some 33), .move (.const (.int .i64 0)), none⟩] 0)
 (.block 6 (.loop (m164_l3))))))
 (.reg [0, 1, 30] [⟨(some 52), .binOp .add 3 (.tmp 30) (.const (.int .i64 1)) 3, none⟩,
 ⟨(some 30), .move (.tmp 52), none⟩] 0)))) :: k) st Q := Iff.rfl
def m164 : M :=
 .seq (.seq (.reg [0, 1] [⟨(some 7), .move (.const (.int .i64 0)), none⟩] 0)
 (.block 0 (.loop (m164_l0))))
 (.seq (.reg [0, 1] [⟨(some 30), .move (.const (.int .i64 0)), none⟩] 0)
 (.block 4 (.loop (m164_l2))))
def fn164 : MFn := ⟨53, [], m164, .pass⟩
theorem fnOk164 : FnOk Tryz.prog 164 fn164 := ⟨Tryz.f164, _, kpL passing [] [[0, 1], [0, 1, 7], [0, 1, 7], [0, 1, 3, 7], [0, 1, 3, 7, 10], [0, 1, 3, 7, 10], [0, 1, 3, 4, 7, 10], [0, 1, 3, 7, 10], [0, 1, 7], [0, 1], [0, 1, 30], [0, 1, 30], [0, 1, 5, 30], [0, 1, 5, 30, 33], [0, 1, 5, 30, 33], [0, 1, 5, 6, 30, 33], [0, 1, 5, 30, 33], [0, 1, 30]], Tryz.func164, rfl, by kernel_rfl, by kernel_rfl, by kernel_rfl, by kernel_rfl⟩
/- seisin/check.demands$1 -/
def g165 : Got (cmp 20 (kpL passing [] [[0, 1], [0, 1], [0, 9, 10, 11], [0, 9, 10, 11], [0, 5, 9, 10, 11], [], [0, 9, 10, 11], []]) (bodyOf Tryz.f165)) := by
 refine ⟨?m, ?h⟩
 case h => conv => lhs; cbv
def m165 : M := g165.m
def fn165 : MFn := ⟨20, [.tmp 3], m165, .pass⟩
theorem fnOk165 : FnOk Tryz.prog 165 fn165 := ⟨Tryz.f165, _, _, Tryz.func165, rfl, rfl, by kernel_rfl, by kernel_rfl, g165.h⟩
/- seisin/check.demands$2 -/
def g166 : Got (cmp 7 (kpL passing [] [[0], [0]]) (bodyOf Tryz.f166)) := by
 refine ⟨?m, ?h⟩
 case h => conv => lhs; cbv
def m166 : M := g166.m
def fn166 : MFn := ⟨7, [.tmp 1], m166, .pass⟩
theorem fnOk166 : FnOk Tryz.prog 166 fn166 := ⟨Tryz.f166, _, _, Tryz.func166, rfl, rfl, by kernel_rfl, by kernel_rfl, g166.h⟩
/- seisin/check.isWord -/
def g167 : Got (cmp 34 (kpL passing [] [[0], [0], [0, 3, 5]]) (bodyOf Tryz.f167)) := by
 refine ⟨?m, ?h⟩
 case h => conv => lhs; cbv
def m167 : M := g167.m
def fn167 : MFn := ⟨34, [.tmp 2], m167, .shut⟩
theorem fnOk167 : FnOk Tryz.prog 167 fn167 := ⟨Tryz.f167, _, _, Tryz.func167, rfl, rfl, by kernel_rfl, by kernel_rfl, g167.h⟩
/- seisin/check.demands$3 -/
def g168 : Got (cmp 4 (kpL passing [] [[0], [0]]) (bodyOf Tryz.f168)) := by
 refine ⟨?m, ?h⟩
 case h => conv => lhs; cbv
def m168 : M := g168.m
def fn168 : MFn := ⟨4, [.tmp 1], m168, .pass⟩
theorem fnOk168 : FnOk Tryz.prog 168 fn168 := ⟨Tryz.f168, _, _, Tryz.func168, rfl, rfl, by kernel_rfl, by kernel_rfl, g168.h⟩
/- seisin/check.locsRight -/
def g169 : Got (cmp 56 (kpL passing [] [[0], [0], [], [0], [0, 35, 36, 37], [0, 35, 36, 37], [0, 3, 4, 35, 36, 37], [], [0, 35, 36, 37], []]) (bodyOf Tryz.f169)) := by
 refine ⟨?m, ?h⟩
 case h => conv => lhs; reduce
def m169 : M := g169.m
def fn169 : MFn := ⟨56, [.tmp 2], m169, .shut⟩
theorem fnOk169 : FnOk Tryz.prog 169 fn169 := ⟨Tryz.f169, _, _, Tryz.func169, rfl, rfl, by kernel_rfl, by kernel_rfl, g169.h⟩
/- seisin/check.demands$4 -/
def g170 : Got (cmp 21 (kpL passing [] [[0, 1], [0, 1]]) (bodyOf Tryz.f170)) := by
 refine ⟨?m, ?h⟩
 case h => conv => lhs; cbv
def m170 : M := g170.m
def fn170 : MFn := ⟨21, [.tmp 2], m170, .pass⟩
theorem fnOk170 : FnOk Tryz.prog 170 fn170 := ⟨Tryz.f170, _, _, Tryz.func170, rfl, rfl, by kernel_rfl, by kernel_rfl, g170.h⟩
/- seisin/check.demands$4$1 -/
def g171 : Got (cmp 6 (kpL passing [] [[0], [0]]) (bodyOf Tryz.f171)) := by
 refine ⟨?m, ?h⟩
 case h => conv => lhs; cbv
def m171 : M := g171.m
def fn171 : MFn := ⟨6, [.tmp 2], m171, .pass⟩
theorem fnOk171 : FnOk Tryz.prog 171 fn171 := ⟨Tryz.f171, _, _, Tryz.func171, rfl, rfl, by kernel_rfl, by kernel_rfl, g171.h⟩
/- seisin/check.demands$5 -/
def g172 : Got (cmp 6 (kpL passing [] [[0, 1], [0, 1]]) (bodyOf Tryz.f172)) := by
 refine ⟨?m, ?h⟩
 case h => conv => lhs; cbv
def m172 : M := g172.m
def fn172 : MFn := ⟨6, [.tmp 2], m172, .pass⟩
theorem fnOk172 : FnOk Tryz.prog 172 fn172 := ⟨Tryz.f172, _, _, Tryz.func172, rfl, rfl, by kernel_rfl, by kernel_rfl, g172.h⟩
/- seisin/check.demands$5$1 -/
def g173 : Got (cmp 11 (kpL passing [] [[0, 1], [0, 1]]) (bodyOf Tryz.f173)) := by
 refine ⟨?m, ?h⟩
 case h => conv => lhs; cbv
def m173 : M := g173.m
def fn173 : MFn := ⟨11, [.tmp 3], m173, .pass⟩
theorem fnOk173 : FnOk Tryz.prog 173 fn173 := ⟨Tryz.f173, _, _, Tryz.func173, rfl, rfl, by kernel_rfl, by kernel_rfl, g173.h⟩
/- seisin/check.Thread -/
def g174 : Got (cmp 43 (kpL passing [] [[0, 1], [0, 1], [], [0, 1], [0, 5], [0, 5, 6], [0, 5, 6, 17, 18, 19], [0, 5, 6, 17, 18, 19], [0, 5, 6, 7, 8, 17, 18, 19], [0, 5, 6, 17, 18, 19], [0, 5, 6, 17, 18, 19, 32, 33, 34], [0, 5, 6, 17, 18, 19, 32, 33, 34], [0, 5, 6, 10, 17, 18, 19, 32, 33, 34], [], [0, 5, 6, 17, 18, 19, 32, 33, 34], [0, 5, 6, 17, 18, 19], []]) (bodyOf Tryz.f174)) := by
 refine ⟨?m, ?h⟩
 case h => conv => lhs; cbv
def m174 : M := g174.m
def fn174 : MFn := ⟨43, [.tmp 4], m174, .shut⟩
theorem fnOk174 : FnOk Tryz.prog 174 fn174 := ⟨Tryz.f174, _, _, Tryz.func174, rfl, rfl, by kernel_rfl, by kernel_rfl, g174.h⟩
/- seisin/check.demands$6 -/
def g175 : Got (cmp 21 (kpL passing [] [[0], [0]]) (bodyOf Tryz.f175)) := by
 refine ⟨?m, ?h⟩
 case h => conv => lhs; cbv
def m175 : M := g175.m
def fn175 : MFn := ⟨21, [.tmp 1], m175, .pass⟩
theorem fnOk175 : FnOk Tryz.prog 175 fn175 := ⟨Tryz.f175, _, _, Tryz.func175, rfl, rfl, by kernel_rfl, by kernel_rfl, g175.h⟩
/- seisin/check.demands$7 -/
def g176 : Got (cmp 17 (kpL passing [] [[0], [0]]) (bodyOf Tryz.f176)) := by
 refine ⟨?m, ?h⟩
 case h => conv => lhs; reduce
def m176 : M := g176.m
def fn176 : MFn := ⟨17, [.tmp 1], m176, .pass⟩
theorem fnOk176 : FnOk Tryz.prog 176 fn176 := ⟨Tryz.f176, _, _, Tryz.func176, rfl, rfl, by kernel_rfl, by kernel_rfl, g176.h⟩
/- seisin/check.Cond -/
def g177 : Got (cmp 10 (kpL passing [] [[0, 1, 2], [1, 2, 3]]) (bodyOf Tryz.f177)) := by
 refine ⟨?m, ?h⟩
 case h => conv => lhs; cbv
def m177 : M := g177.m
def fn177 : MFn := ⟨10, [.tmp 6], m177, .shut⟩
theorem fnOk177 : FnOk Tryz.prog 177 fn177 := ⟨Tryz.f177, _, _, Tryz.func177, rfl, rfl, by kernel_rfl, by kernel_rfl, g177.h⟩
/- seisin/spec.cells$1 -/
def g178 : Got (cmp 36 (kpL passing [] [[0], [0, 6], [0, 6], [0, 2, 6], [0, 2, 6, 9], [0, 2, 6, 9], [0, 2, 3, 6, 9], [0, 2, 6, 9], [0, 6], [0], [0, 21], [0, 21], [0, 4, 21], [0, 4, 21, 24], [0, 4, 21, 24], [0, 4, 5, 21, 24], [0, 4, 21, 24], [0, 21]]) (bodyOf Tryz.f178)) := by
 refine ⟨?m, ?h⟩
 case h => conv => lhs; cbv
def m178 : M := g178.m
def fn178 : MFn := ⟨36, [], m178, .pass⟩
theorem fnOk178 : FnOk Tryz.prog 178 fn178 := ⟨Tryz.f178, _, _, Tryz.func178, rfl, rfl, by kernel_rfl, by kernel_rfl, g178.h⟩
/- seisin/repl.New -/
def g179 : Got (cmp 43 (kpL passing [] [[0, 1], [0, 1, 4], [0, 1, 4, 6], [4], [0, 1, 4], [0, 1, 4, 7], [4, 7], [1, 4, 7], [4, 7, 32, 33], [4, 7, 32, 33], [4, 7, 8, 32, 33], [4, 7, 32, 33], [4, 7]]) (bodyOf Tryz.f179)) := by
 refine ⟨?m, ?h⟩
 case h => conv => lhs; cbv
def m179 : M := g179.m
def fn179 : MFn := ⟨43, [.cell 4 87], m179, .pass⟩
theorem fnOk179 : FnOk Tryz.prog 179 fn179 := ⟨Tryz.f179, _, _, Tryz.func179, rfl, rfl, by kernel_rfl, by kernel_rfl, g179.h⟩
/- (seisin/tags.frame).row$1 -/
def g180 : Got (cmp 25 (kpL passing [] [[0, 1, 2, 3], [0, 2, 3, 8, 9], [0, 2, 3, 8, 9], [0, 2, 3, 5, 8, 9], [0, 2, 3, 8, 9]]) (bodyOf Tryz.f180)) := by
 refine ⟨?m, ?h⟩
 case h => conv => lhs; reduce
def m180 : M := g180.m
def fn180 : MFn := ⟨25, [], m180, .pass⟩
theorem fnOk180 : FnOk Tryz.prog 180 fn180 := ⟨Tryz.f180, _, _, Tryz.func180, rfl, rfl, by kernel_rfl, by kernel_rfl, g180.h⟩
/- strings.splitSeq$1 -/
def g181 : Got (cmp 52 (kpL passing [] [[0, 1, 2, 3], [0, 2], [0, 2], [0, 2, 6], [0, 2, 6], [0, 1, 2, 3], [0, 1, 2, 3, 7], [0, 1, 2, 3, 7], [0, 1, 2, 3, 7, 8], [0, 1, 2, 3, 7], [0, 2]]) (bodyOf Tryz.f181)) := by
 refine ⟨?m, ?h⟩
 case h => conv => lhs; cbv
def m181 : M := g181.m
def fn181 : MFn := ⟨52, [], m181, .pass⟩
theorem fnOk181 : FnOk Tryz.prog 181 fn181 := ⟨Tryz.f181, _, _, Tryz.func181, rfl, rfl, by kernel_rfl, by kernel_rfl, g181.h⟩
/- strings.Index -/
def g183 : Got (cmp 8 (kpL passing [] [[0, 1], [0, 1]]) (bodyOf Tryz.f183)) := by
 refine ⟨?m, ?h⟩
 case h => conv => lhs; cbv
def m183 : M := g183.m
def fn183 : MFn := ⟨8, [.tmp 4], m183, .shut⟩
theorem fnOk183 : FnOk Tryz.prog 183 fn183 := ⟨Tryz.f183, _, _, Tryz.func183, rfl, rfl, by kernel_rfl, by kernel_rfl, g183.h⟩
/- internal/stringslite.Index -/
def g184 : Got (cmp 143 (kpL passing [] [[0, 1], [0, 1], [0, 1, 5], [], [0, 1, 5], [0, 1], [0, 1, 5], [], [0, 1, 5], [0, 1], [0, 1, 5], [0, 1, 5, 6], [0, 1, 5, 6, 7], [0, 1, 5, 6, 7, 8], [0, 1, 5, 6, 7, 8, 9], [0, 1, 5, 6, 7, 8, 9, 10], [0, 1, 5, 6, 7, 8, 9, 10], [0, 1, 5, 6, 7, 8, 9, 10], [0, 1, 5, 6, 7, 8, 9, 10, 11], [], [0, 1, 5, 6, 7, 8, 9, 10, 11], [0, 1, 5, 6, 7, 8, 9, 10], [8], [0, 1, 5, 6, 7, 8, 9, 10], [0, 1, 5, 6, 7, 8, 9, 10], [0, 1, 5, 6, 7, 8, 9, 10], [0, 1, 8], [8, 12], [8, 12], [], [0, 1, 5, 6, 7, 8, 9, 10], [0, 1, 8], [8, 13], [], [8, 13], []]) (bodyOf Tryz.f184)) := by
 refine ⟨?m, ?h⟩
 case h => conv => lhs; cbv
def m184 : M := g184.m
def fn184 : MFn := ⟨143, [.tmp 4], m184, .shut⟩
theorem fnOk184 : FnOk Tryz.prog 184 fn184 := ⟨Tryz.f184, _, _, Tryz.func184, rfl, rfl, by kernel_rfl, by kernel_rfl, g184.h⟩
/- seisin/lex.Lex -/
def g185 : Got (cmp 27 (kpL passing [2, 3, 4] [[0], [0, 2, 3, 4], [2, 3, 4], [0, 2, 3, 4], [2, 3, 4, 5], [2, 3, 4, 15, 16], [2, 3, 4, 6, 16], [2, 3, 4, 6, 7], [2, 3, 4, 6, 7], [2, 6], [2, 3, 4]]) (bodyOf Tryz.f185)) := by
 refine ⟨?m, ?h⟩
 case h => conv => lhs; reduce
def m185 : M := g185.m
def fn185 : MFn := ⟨27, [.cell 2 270, .cell 3 3, .cell 4 100], m185, .shut⟩
theorem fnOk185 : FnOk Tryz.prog 185 fn185 := ⟨Tryz.f185, _, _, Tryz.func185, rfl, rfl, by kernel_rfl, by kernel_rfl, g185.h⟩
/- seisin/lex.Name -/
def g186 : Got (cmp 55 (kpL passing [] [[0], [0], [], [0], [0, 3], [0, 3, 4], [0, 3, 4], [0, 3, 4], [], [0, 3, 4], [0, 3, 4], [0, 3]]) (bodyOf Tryz.f186)) := by
 refine ⟨?m, ?h⟩
 case h => conv => lhs; cbv
def m186 : M := g186.m
def fn186 : MFn := ⟨55, [.tmp 2], m186, .shut⟩
theorem fnOk186 : FnOk Tryz.prog 186 fn186 := ⟨Tryz.f186, _, _, Tryz.func186, rfl, rfl, by kernel_rfl, by kernel_rfl, g186.h⟩
/- slices.Contains[[]string,string] -/
def g187 : Got (cmp 9 (kpL passing [] [[0, 1], [0, 1]]) (bodyOf Tryz.f187)) := by
 refine ⟨?m, ?h⟩
 case h => conv => lhs; cbv
def m187 : M := g187.m
def fn187 : MFn := ⟨9, [.tmp 4], m187, .shut⟩
theorem fnOk187 : FnOk Tryz.prog 187 fn187 := ⟨Tryz.f187, _, _, Tryz.func187, rfl, rfl, by kernel_rfl, by kernel_rfl, g187.h⟩
/- (*seisin/check.spot).conditions -/
def g188 : Got (cmp 14 (kpL passing [] [[0], [1]]) (bodyOf Tryz.f188)) := by
 refine ⟨?m, ?h⟩
 case h => conv => lhs; cbv
def m188 : M := g188.m
def fn188 : MFn := ⟨14, [.tmp 2], m188, .pass⟩
theorem fnOk188 : FnOk Tryz.prog 188 fn188 := ⟨Tryz.f188, _, _, Tryz.func188, rfl, rfl, by kernel_rfl, by kernel_rfl, g188.h⟩
/- seisin/check.condRight -/
def g189 : Got (cmp 141 (kpL passing [] [[0, 1, 2, 3], [0, 1, 2, 3], [], [0, 1, 2, 3], [0, 1, 2, 3, 9], [], [0, 1, 2, 3, 9, 35], [0, 9], [0, 1, 2, 3, 9, 35], [0, 1], [0, 1, 2, 3, 9, 35], [0, 2], [0, 1, 2, 3, 9, 35], [0, 1, 2, 3, 9, 35], [0, 1, 2, 3, 9], [], [0, 1, 2, 3, 9, 35], [0, 1, 2, 3, 9], [], [0, 1, 2, 3], [0, 1, 2, 3, 124, 125], [0, 1, 2, 3, 124, 125], [0, 1, 2, 3, 10, 124, 125], [], [0, 1, 2, 3, 124, 125], []]) (bodyOf Tryz.f189)) := by
 refine ⟨?m, ?h⟩
 case h => conv => lhs; cbv
def m189 : M := g189.m
def fn189 : MFn := ⟨141, [.tmp 8], m189, .shut⟩
theorem fnOk189 : FnOk Tryz.prog 189 fn189 := ⟨Tryz.f189, _, _, Tryz.func189, rfl, rfl, by kernel_rfl, by kernel_rfl, g189.h⟩
/- seisin/repl.policies -/
def g190 : Got (cmp 7 (kpL passing [] [[], []]) (bodyOf Tryz.f190)) := by
 refine ⟨?m, ?h⟩
 case h => conv => lhs; cbv
def m190 : M := g190.m
def fn190 : MFn := ⟨7, [.tmp 0], m190, .shut⟩
theorem fnOk190 : FnOk Tryz.prog 190 fn190 := ⟨Tryz.f190, _, _, Tryz.func190, rfl, rfl, by kernel_rfl, by kernel_rfl, g190.h⟩
/- internal/stringslite.IndexByte -/
def g192 : Got (cmp 8 (kpL passing [] [[0, 1], [0, 1]]) (bodyOf Tryz.f192)) := by
 refine ⟨?m, ?h⟩
 case h => conv => lhs; cbv
def m192 : M := g192.m
def fn192 : MFn := ⟨8, [.tmp 4], m192, .shut⟩
theorem fnOk192 : FnOk Tryz.prog 192 fn192 := ⟨Tryz.f192, _, _, Tryz.func192, rfl, rfl, by kernel_rfl, by kernel_rfl, g192.h⟩
/- (*seisin/lex.scanner).tokens -/
def g196 : Got (cmp 4 (kpL passing [] [[0], [1]]) (bodyOf Tryz.f196)) := by
 refine ⟨?m, ?h⟩
 case h => conv => lhs; cbv
def m196 : M := g196.m
def fn196 : MFn := ⟨4, [.tmp 2], m196, .pass⟩
theorem fnOk196 : FnOk Tryz.prog 196 fn196 := ⟨Tryz.f196, _, _, Tryz.func196, rfl, rfl, by kernel_rfl, by kernel_rfl, g196.h⟩
/- seisin/lex.classOf -/
def g197 : Got (cmp 47 (kpL passing [] [[0], [0], [], [0], [], [0], [25], [25], [], [25], [], [25], [], [25], [], [25], [25], [25], [25], [25], [25], [25], [25], [25], [25], [25], [], []]) (bodyOf Tryz.f197)) := by
 refine ⟨?m, ?h⟩
 case h => conv => lhs; cbv
def m197 : M := g197.m
def fn197 : MFn := ⟨47, [.tmp 2], m197, .shut⟩
theorem fnOk197 : FnOk Tryz.prog 197 fn197 := ⟨Tryz.f197, _, _, Tryz.func197, rfl, rfl, by kernel_rfl, by kernel_rfl, g197.h⟩
/- seisin/lex.Kept -/
def g198 : Got (cmp 22 (kpL passing [] [[0], [0], [3], [3], [3], [3], [3], [3], [3], [3], [3], [3], [3], [3], [3], [3], [3], [3], [3], [], []]) (bodyOf Tryz.f198)) := by
 refine ⟨?m, ?h⟩
 case h => conv => lhs; cbv
def m198 : M := g198.m
def fn198 : MFn := ⟨22, [.tmp 2], m198, .shut⟩
theorem fnOk198 : FnOk Tryz.prog 198 fn198 := ⟨Tryz.f198, _, _, Tryz.func198, rfl, rfl, by kernel_rfl, by kernel_rfl, g198.h⟩
/- slices.Index[[]string,string] -/
def g200 : Got (cmp 19 (kpL passing [] [[0, 1], [0, 1], [0, 1, 7, 8], [0, 1, 7, 8], [0, 1, 5, 7, 8], [5], [0, 1, 7, 8], []]) (bodyOf Tryz.f200)) := by
 refine ⟨?m, ?h⟩
 case h => conv => lhs; cbv
def m200 : M := g200.m
def fn200 : MFn := ⟨19, [.tmp 4], m200, .shut⟩
theorem fnOk200 : FnOk Tryz.prog 200 fn200 := ⟨Tryz.f200, _, _, Tryz.func200, rfl, rfl, by kernel_rfl, by kernel_rfl, g200.h⟩
/- (*seisin/lex.scanner).tokens$1 -/
def g220 : Got (cmp 23 (kpL passing [] [[0, 1], [0, 1, 3, 4], [0, 1, 3], [0, 1, 3], [0, 1, 3], [0, 1, 22]]) (bodyOf Tryz.f220)) := by
 refine ⟨?m, ?h⟩
 case h => conv => lhs; reduce
def m220 : M := g220.m
def fn220 : MFn := ⟨23, [], m220, .pass⟩
theorem fnOk220 : FnOk Tryz.prog 220 fn220 := ⟨Tryz.f220, _, _, Tryz.func220, rfl, rfl, by kernel_rfl, by kernel_rfl, g220.h⟩
/- (*seisin/lex.scanner).next -/
def g221 : Got (cmp 57 (kpL passing [] [[0], [0, 2], [0, 2], [0, 2], [0, 2], [0, 2], [0, 2, 4], [0, 2, 4, 5], [0, 2, 4, 5], [0, 2, 4], [2, 4], [0, 2, 5], [2]]) (bodyOf Tryz.f221)) := by
 refine ⟨?m, ?h⟩
 case h => conv => lhs; reduce
def m221 : M := g221.m
def fn221 : MFn := ⟨57, [.cell 2 275, .tmp 3], m221, .pass⟩
theorem fnOk221 : FnOk Tryz.prog 221 fn221 := ⟨Tryz.f221, _, _, Tryz.func221, rfl, rfl, by kernel_rfl, by kernel_rfl, g221.h⟩
/- seisin/lex.fault -/
def g222 : Got (cmp 30 (kpL passing [] [[0], [1], [1, 6], [1], [], [1, 6], [1], [4], [], [1, 6], [1], [], []]) (bodyOf Tryz.f222)) := by
 refine ⟨?m, ?h⟩
 case h => conv => lhs; cbv
def m222 : M := g222.m
def fn222 : MFn := ⟨30, [.tmp 2], m222, .shut⟩
theorem fnOk222 : FnOk Tryz.prog 222 fn222 := ⟨Tryz.f222, _, _, Tryz.func222, rfl, rfl, by kernel_rfl, by kernel_rfl, g222.h⟩
/- (*seisin/lex.input).pass -/
def g224 : Got (cmp 50 (kpL passing [] [[0], [0], [0], [0], [0]]) (bodyOf Tryz.f224)) := by
 refine ⟨?m, ?h⟩
 case h => conv => lhs; reduce
def m224 : M := g224.m
def fn224 : MFn := ⟨50, [], m224, .pass⟩
theorem fnOk224 : FnOk Tryz.prog 224 fn224 := ⟨Tryz.f224, _, _, Tryz.func224, rfl, rfl, by kernel_rfl, by kernel_rfl, g224.h⟩
/- (*seisin/lex.input).atEnd -/
def g225 : Got (cmp 18 (kpL passing [] [[0], [0]]) (bodyOf Tryz.f225)) := by
 refine ⟨?m, ?h⟩
 case h => conv => lhs; reduce
def m225 : M := g225.m
def fn225 : MFn := ⟨18, [.tmp 2], m225, .pass⟩
theorem fnOk225 : FnOk Tryz.prog 225 fn225 := ⟨Tryz.f225, _, _, Tryz.func225, rfl, rfl, by kernel_rfl, by kernel_rfl, g225.h⟩
/- (*seisin/lex.scanner).token -/
def g226 : Got (cmp 51 (kpL passing [] [[0], [0, 2], [0, 2, 3, 4], [0, 2, 3, 4, 17], [0, 2], [0, 2, 3, 4, 17], [0, 2], [0, 2, 3, 4], [0, 2, 3, 4, 5], [0, 2, 3, 5]]) (bodyOf Tryz.f226)) := by
 refine ⟨?m, ?h⟩
 case h => conv => lhs; reduce
def m226 : M := g226.m
def fn226 : MFn := ⟨51, [.cell 2 275], m226, .pass⟩
theorem fnOk226 : FnOk Tryz.prog 226 fn226 := ⟨Tryz.f226, _, _, Tryz.func226, rfl, rfl, by kernel_rfl, by kernel_rfl, g226.h⟩
/- (*seisin/lex.input).over -/
def g227 : Got (cmp 13 (kpL passing [] [[0], [0]]) (bodyOf Tryz.f227)) := by
 refine ⟨?m, ?h⟩
 case h => conv => lhs; reduce
def m227 : M := g227.m
def fn227 : MFn := ⟨13, [.tmp 2], m227, .pass⟩
theorem fnOk227 : FnOk Tryz.prog 227 fn227 := ⟨Tryz.f227, _, _, Tryz.func227, rfl, rfl, by kernel_rfl, by kernel_rfl, g227.h⟩
/- (*seisin/lex.input).wordEnd -/
def g230 : Got (cmp 28 (kpL passing [] [[0], [0], [0, 3], [0, 3], [3]]) (bodyOf Tryz.f230)) := by
 refine ⟨?m, ?h⟩
 case h => conv => lhs; cbv
def m230 : M := g230.m
def fn230 : MFn := ⟨28, [.tmp 2], m230, .pass⟩
theorem fnOk230 : FnOk Tryz.prog 230 fn230 := ⟨Tryz.f230, _, _, Tryz.func230, rfl, rfl, by kernel_rfl, by kernel_rfl, g230.h⟩
/- seisin/seisinlaw32.InvOrder -/
def m4_l0 : M :=
 .seq (.reg [2, 3, 7, 8, 31, 32, 33] [⟨(some 34), .binOp .lss 3 (.tmp 33) (.tmp 32) 3, none⟩] 0)
 (.seq (.cond (.tmp 34) (.skip)
 (.exit 0))
 (.seq (.block 1 (.seq (.reg [2, 3, 7, 8, 31, 32, 33] [⟨(some 35), .indexAddr 45 (.tmp 31) (.tmp 33), none⟩,
 ⟨(some 36), .load 52 (.tmp 35), none⟩,
 ⟨(some 10), .alloc 52, none⟩,
 ⟨none, .store 52 (.tmp 10) (.tmp 36), none⟩] 0)
 (.seq (.reg [2, 3, 7, 8, 10, 31, 32, 33] [⟨(some 37), .fieldAddr 52 (.tmp 10) 0, none⟩,
 ⟨(some 38), .load 5 (.tmp 37), none⟩,
 ⟨(some 39), .convert 5 3 (.tmp 38), none⟩,
 ⟨(some 40), .fieldAddr 44 (.tmp 3) 1, none⟩,
 ⟨(some 41), .fieldAddr 31 (.tmp 40) 0, none⟩,
 ⟨(some 42), .load 3 (.tmp 41), none⟩,
 ⟨(some 43), .call ⟨.builtin .min, #[(.tmp 42), (.const (.int .i64 200))], #[3, 3]⟩, none⟩,
 ⟨(some 44), .binOp .rem 3 (.tmp 39) (.tmp 43) 3, none⟩,
 ⟨(some 45), .convert 3 5 (.tmp 44), none⟩,
 ⟨(some 46), .fieldAddr 52 (.tmp 10) 0, none⟩,
 ⟨none, .store 5 (.tmp 46) (.tmp 45), none⟩] 0)
 (.seq (.reg [2, 3, 7, 8, 10, 31, 32, 33] [⟨(some 47), .fieldAddr 52 (.tmp 10) 1, none⟩,
 ⟨(some 48), .fieldAddr 50 (.tmp 47) 1, none⟩,
 ⟨(some 49), .load 5 (.tmp 48), none⟩,
 ⟨(some 50), .binOp .rem 5 (.tmp 49) (.const (.int .u8 6)) 5, none⟩,
 ⟨(some 51), .fieldAddr 52 (.tmp 10) 1, none⟩,
 ⟨(some 52), .fieldAddr 50 (.tmp 51) 1, none⟩,
 ⟨none, .store 5 (.tmp 52) (.tmp 50), none⟩] 0)
 (.seq (.reg [2, 3, 7, 8, 10, 31, 32, 33] [⟨(some 53), .build 53 #[(0, (.const (.int .u8 1))), (1, (.const (.int .u8 2))), (2, (.const (.int .u8 4))), (3, (.const (.int .u8 5))), (4, (.const (.int .u8 6)))], none⟩,
 ⟨(some 54), .fieldAddr 52 (.tmp 10) 1, none⟩,
 ⟨(some 55), .fieldAddr 50 (.tmp 54) 0, none⟩,
 ⟨(some 56), .load 5 (.tmp 55), none⟩,
 ⟨(some 57), .binOp .rem 5 (.tmp 56) (.const (.int .u8 5)) 5, none⟩,
 ⟨(some 58), .index 53 (.tmp 53) (.tmp 57), none⟩,
 ⟨(some 59), .fieldAddr 52 (.tmp 10) 1, none⟩,
 ⟨(some 60), .fieldAddr 50 (.tmp 59) 0, none⟩,
 ⟨none, .store 5 (.tmp 60) (.tmp 58), none⟩] 0)
 (.seq (.reg [2, 3, 7, 8, 10, 31, 32, 33] [⟨(some 61), .fieldAddr 52 (.tmp 10) 1, none⟩,
 ⟨(some 62), .fieldAddr 50 (.tmp 61) 1, none⟩,
 ⟨(some 63), .load 5 (.tmp 62), none⟩,
 ⟨(some 64), .indexAddr 48 (.tmp 7) (.tmp 63), none⟩,
 ⟨(some 65), .load 5 (.tmp 64), none⟩,
 ⟨(some 66), .fieldAddr 52 (.tmp 10) 2, none⟩,
 ⟨none, .store 5 (.tmp 66) (.tmp 65), none⟩] 0)
 (.seq (.reg [2, 3, 7, 8, 10, 31, 32, 33] [⟨(some 67), .fieldAddr 52 (.tmp 10) 1, none⟩,
 ⟨(some 68), .load 50 (.tmp 67), none⟩,
 ⟨(some 69), .fieldAddr 52 (.tmp 10) 2, none⟩,
 ⟨(some 70), .load 5 (.tmp 69), none⟩,
 ⟨(some 71), .call ⟨.value (.func 9), #[(.tmp 68), (.tmp 70)], #[50, 5]⟩, none⟩,
 ⟨(some 72), .fieldAddr 52 (.tmp 10) 3, none⟩,
 ⟨none, .store 5 (.tmp 72) (.tmp 71), none⟩] 0)
 (.seq (.reg [2, 3, 7, 8, 10, 31, 32, 33] [⟨(some 73), .fieldAddr 52 (.tmp 10) 1, none⟩,
 ⟨(some 74), .fieldAddr 50 (.tmp 73) 1, none⟩,
 ⟨(some 75), .load 5 (.tmp 74), none⟩,
 ⟨(some 76), .fieldAddr 52 (.tmp 10) 3, none⟩,
 ⟨(some 77), .load 5 (.tmp 76), none⟩,
 ⟨(some 78), .indexAddr 48 (.tmp 7) (.tmp 75), none⟩,
 ⟨none, .store 5 (.tmp 78) (.tmp 77), none⟩] 0)
 (.reg [2, 3, 7, 8, 10, 31, 32, 33] [⟨(some 79), .move (.tmp 8), none⟩,
 ⟨(some 80), .load 52 (.tmp 10), none⟩,
 ⟨(some 81), .buildSlice 45 1 #[(0, (.tmp 80))], none⟩,
 ⟨(some 82), .call ⟨.builtin .append, #[(.tmp 79), (.tmp 81)], #[45, 45]⟩, none⟩,
 ⟨(some 8), .assign (.tmp 82), none⟩] 0)))))))))
 (.reg [2, 3, 7, 8, 31, 32, 33] [⟨(some 83), .binOp .add 3 (.tmp 33) (.const (.int .i64 1)) 3, none⟩,
 ⟨(some 33), .move (.tmp 83), none⟩] 0)))
def m4_l1 : M :=
 .seq (.reg [3, 8, 11, 100, 101] [⟨(some 102), .binOp .lss 3 (.tmp 101) (.const (.int .i64 6)) 3, none⟩] 0)
 (.seq (.cond (.tmp 102) (.skip)
 (.exit 2))
 (.seq (.block 3 (.seq (.reg [3, 8, 11, 100, 101] [⟨(some 103), .move (.tmp 101), none⟩,
 ⟨(some 104), .index 48 (.tmp 100) (.tmp 101), none⟩,
 ⟨(some 12), .assign (.tmp 103), none⟩,
 ⟨(some 13), .assign (.tmp 104), none⟩] 0)
 (.seq (.reg [3, 8, 11, 12, 13, 100, 101] [⟨(some 105), .move (.tmp 12), none⟩,
 ⟨(some 106), .convert 3 5 (.tmp 105), none⟩,
 ⟨(some 107), .build 50 #[(0, (.const (.int .u8 1))), (1, (.tmp 106))], none⟩,
 ⟨(some 108), .move (.tmp 13), none⟩,
 ⟨(some 109), .move (.tmp 13), none⟩,
 ⟨(some 110), .build 52 #[(1, (.tmp 107)), (2, (.tmp 108)), (3, (.tmp 109))], none⟩,
 ⟨(some 14), .alloc 52, none⟩,
 ⟨none, .store 52 (.tmp 14) (.tmp 110), none⟩] 0)
 (.seq (.reg [3, 8, 11, 14, 100, 101] [⟨(some 111), .load 52 (.tmp 14), none⟩,
 ⟨(some 15), .alloc 52, none⟩,
 ⟨none, .store 52 (.tmp 15) (.tmp 111), none⟩] 0)
 (.seq (.reg [3, 8, 11, 14, 15, 100, 101] [⟨(some 112), .fieldAddr 52 (.tmp 15) 2, none⟩,
 ⟨(some 113), .load 5 (.tmp 112), none⟩,
 ⟨(some 114), .binOp .add 5 (.tmp 113) (.const (.int .u8 1)) 5, none⟩,
 ⟨(some 115), .fieldAddr 52 (.tmp 15) 2, none⟩,
 ⟨none, .store 5 (.tmp 115) (.tmp 114), none⟩] 0)
 (.seq (.seq (.seq (.reg [3, 8, 11, 14, 15, 100, 101] [⟨(some 116), .load 44 (.tmp 3), none⟩,
 ⟨(some 118), .move (.tmp 8), none⟩,
 ⟨(some 120), .load 52 (.tmp 14), none⟩,
 ⟨(some 121), .buildSlice 45 1 #[(0, (.tmp 120))], none⟩] 4)
 (.seq (.ops [⟨(some 117), .buildSlice 45 0 #[], none⟩])
 (.seq (.again [⟨(some 116), .load 44 (.tmp 3), none⟩,
 ⟨(some 120), .load 52 (.tmp 14), none⟩,
 ⟨(some 121), .buildSlice 45 1 #[(0, (.tmp 120))], none⟩])
 (.seq (.ops [⟨(some 119), .call ⟨.builtin .append, #[(.tmp 117), (.tmp 118)], #[45, 45]⟩, none⟩])
 (.seq (.again [⟨(some 116), .load 44 (.tmp 3), none⟩,
 ⟨(some 120), .load 52 (.tmp 14), none⟩,
 ⟨(some 121), .buildSlice 45 1 #[(0, (.tmp 120))], none⟩])
 (.seq (.ops [⟨(some 122), .call ⟨.builtin .append, #[(.tmp 119), (.tmp 121)], #[45, 45]⟩, none⟩])
 (.seq (.again [⟨(some 116), .load 44 (.tmp 3), none⟩])
 (.seq (.ops [⟨(some 123), .call ⟨.value (.func 6), #[(.tmp 116), (.tmp 122)], #[44, 45]⟩, none⟩])
 (.seq (.again [])
 (.seq (.ops [⟨(some 124), .unOp .not 4 (.tmp 123), none⟩])
 (.seq (.again [])
 (.seq (.ops [⟨(some 125), .move (.tmp 124), none⟩])
 (.seq (.again [])
 (.skip))))))))))))))
 (.seq (.seq (.reg [3, 8, 11, 14, 15, 100, 101, 116, 118, 120, 121, 117, 119, 122, 123, 124, 125] [⟨(some 126), .load 44 (.tmp 3), (some (125, false))⟩,
 ⟨(some 128), .move (.tmp 8), (some (125, false))⟩,
 ⟨(some 130), .load 52 (.tmp 15), (some (125, false))⟩,
 ⟨(some 131), .buildSlice 45 1 #[(0, (.tmp 130))], (some (125, false))⟩] 4)
 (.seq (.ops [⟨(some 127), .buildSlice 45 0 #[], (some (125, false))⟩])
 (.seq (.again [⟨(some 126), .load 44 (.tmp 3), (some (125, false))⟩,
 ⟨(some 130), .load 52 (.tmp 15), (some (125, false))⟩,
 ⟨(some 131), .buildSlice 45 1 #[(0, (.tmp 130))], (some (125, false))⟩])
 (.seq (.ops [⟨(some 129), .call ⟨.builtin .append, #[(.tmp 127), (.tmp 128)], #[45, 45]⟩, (some (125, false))⟩])
 (.seq (.again [⟨(some 126), .load 44 (.tmp 3), (some (125, false))⟩,
 ⟨(some 130), .load 52 (.tmp 15), (some (125, false))⟩,
 ⟨(some 131), .buildSlice 45 1 #[(0, (.tmp 130))], (some (125, false))⟩])
 (.seq (.ops [⟨(some 132), .call ⟨.builtin .append, #[(.tmp 129), (.tmp 131)], #[45, 45]⟩, (some (125, false))⟩])
 (.seq (.again [⟨(some 126), .load 44 (.tmp 3), (some (125, false))⟩])
 (.seq (.ops [⟨(some 133), .call ⟨.value (.func 6), #[(.tmp 126), (.tmp 132)], #[44, 45]⟩, (some (125, false))⟩])
 (.seq (.again [])
 (.skip))))))))))
 (.seq (.seq (.reg [3, 8, 11, 14, 15, 100, 101, 116, 118, 120, 121, 117, 119, 122, 123, 124, 125, 126, 128, 130, 131, 127, 129, 132, 133] [⟨(some 134), .pick (.tmp 125) (.const (.bool true)) (.tmp 133), none⟩] 1)
 (.skip))
 (.skip))))
 (.cond (.tmp 134) (.seq (.reg [] [⟨(some 6), .assign (.const (.bool false)), none⟩] 0)
 (.ret))
 (.skip))))))))
 (.reg [3, 8, 11, 100, 101] [⟨(some 135), .binOp .add 3 (.tmp 101) (.const (.int .i64 1)) 3, none⟩,
 ⟨(some 101), .move (.tmp 135), none⟩] 0)))
theorem u4_l0 {C : Ctx} {k : List It} {st : St} {Q : Ex → St → Prop} : RunK C (.code m4_l0 :: k) st Q ↔ RunK C (.code (.seq (.reg [2, 3, 7, 8, 31, 32, 33] [⟨(some 34), .binOp .lss 3 (.tmp 33) (.tmp 32) 3, none⟩] 0)
 (.seq (.cond (.tmp 34) (.skip)
 (.exit 0))
 (.seq (.block 1 (.seq (.reg [2, 3, 7, 8, 31, 32, 33] [⟨(some 35), .indexAddr 45 (.tmp 31) (.tmp 33), none⟩,
 ⟨(some 36), .load 52 (.tmp 35), none⟩,
 ⟨(some 10), .alloc 52, none⟩,
 ⟨none, .store 52 (.tmp 10) (.tmp 36), none⟩] 0)
 (.seq (.reg [2, 3, 7, 8, 10, 31, 32, 33] [⟨(some 37), .fieldAddr 52 (.tmp 10) 0, none⟩,
 ⟨(some 38), .load 5 (.tmp 37), none⟩,
 ⟨(some 39), .convert 5 3 (.tmp 38), none⟩,
 ⟨(some 40), .fieldAddr 44 (.tmp 3) 1, none⟩,
 ⟨(some 41), .fieldAddr 31 (.tmp 40) 0, none⟩,
 ⟨(some 42), .load 3 (.tmp 41), none⟩,
 ⟨(some 43), .call ⟨.builtin .min, #[(.tmp 42), (.const (.int .i64 200))], #[3, 3]⟩, none⟩,
 ⟨(some 44), .binOp .rem 3 (.tmp 39) (.tmp 43) 3, none⟩,
 ⟨(some 45), .convert 3 5 (.tmp 44), none⟩,
 ⟨(some 46), .fieldAddr 52 (.tmp 10) 0, none⟩,
 ⟨none, .store 5 (.tmp 46) (.tmp 45), none⟩] 0)
 (.seq (.reg [2, 3, 7, 8, 10, 31, 32, 33] [⟨(some 47), .fieldAddr 52 (.tmp 10) 1, none⟩,
 ⟨(some 48), .fieldAddr 50 (.tmp 47) 1, none⟩,
 ⟨(some 49), .load 5 (.tmp 48), none⟩,
 ⟨(some 50), .binOp .rem 5 (.tmp 49) (.const (.int .u8 6)) 5, none⟩,
 ⟨(some 51), .fieldAddr 52 (.tmp 10) 1, none⟩,
 ⟨(some 52), .fieldAddr 50 (.tmp 51) 1, none⟩,
 ⟨none, .store 5 (.tmp 52) (.tmp 50), none⟩] 0)
 (.seq (.reg [2, 3, 7, 8, 10, 31, 32, 33] [⟨(some 53), .build 53 #[(0, (.const (.int .u8 1))), (1, (.const (.int .u8 2))), (2, (.const (.int .u8 4))), (3, (.const (.int .u8 5))), (4, (.const (.int .u8 6)))], none⟩,
 ⟨(some 54), .fieldAddr 52 (.tmp 10) 1, none⟩,
 ⟨(some 55), .fieldAddr 50 (.tmp 54) 0, none⟩,
 ⟨(some 56), .load 5 (.tmp 55), none⟩,
 ⟨(some 57), .binOp .rem 5 (.tmp 56) (.const (.int .u8 5)) 5, none⟩,
 ⟨(some 58), .index 53 (.tmp 53) (.tmp 57), none⟩,
 ⟨(some 59), .fieldAddr 52 (.tmp 10) 1, none⟩,
 ⟨(some 60), .fieldAddr 50 (.tmp 59) 0, none⟩,
 ⟨none, .store 5 (.tmp 60) (.tmp 58), none⟩] 0)
 (.seq (.reg [2, 3, 7, 8, 10, 31, 32, 33] [⟨(some 61), .fieldAddr 52 (.tmp 10) 1, none⟩,
 ⟨(some 62), .fieldAddr 50 (.tmp 61) 1, none⟩,
 ⟨(some 63), .load 5 (.tmp 62), none⟩,
 ⟨(some 64), .indexAddr 48 (.tmp 7) (.tmp 63), none⟩,
 ⟨(some 65), .load 5 (.tmp 64), none⟩,
 ⟨(some 66), .fieldAddr 52 (.tmp 10) 2, none⟩,
 ⟨none, .store 5 (.tmp 66) (.tmp 65), none⟩] 0)
 (.seq (.reg [2, 3, 7, 8, 10, 31, 32, 33] [⟨(some 67), .fieldAddr 52 (.tmp 10) 1, none⟩,
 ⟨(some 68), .load 50 (.tmp 67), none⟩,
 ⟨(some 69), .fieldAddr 52 (.tmp 10) 2, none⟩,
 ⟨(some 70), .load 5 (.tmp 69), none⟩,
 ⟨(some 71), .call ⟨.value (.func 9), #[(.tmp 68), (.tmp 70)], #[50, 5]⟩, none⟩,
 ⟨(some 72), .fieldAddr 52 (.tmp 10) 3, none⟩,
 ⟨none, .store 5 (.tmp 72) (.tmp 71), none⟩] 0)
 (.seq (.reg [2, 3, 7, 8, 10, 31, 32, 33] [⟨(some 73), .fieldAddr 52 (.tmp 10) 1, none⟩,
 ⟨(some 74), .fieldAddr 50 (.tmp 73) 1, none⟩,
 ⟨(some 75), .load 5 (.tmp 74), none⟩,
 ⟨(some 76), .fieldAddr 52 (.tmp 10) 3, none⟩,
 ⟨(some 77), .load 5 (.tmp 76), none⟩,
 ⟨(some 78), .indexAddr 48 (.tmp 7) (.tmp 75), none⟩,
 ⟨none, .store 5 (.tmp 78) (.tmp 77), none⟩] 0)
 (.reg [2, 3, 7, 8, 10, 31, 32, 33] [⟨(some 79), .move (.tmp 8), none⟩,
 ⟨(some 80), .load 52 (.tmp 10), none⟩,
 ⟨(some 81), .buildSlice 45 1 #[(0, (.tmp 80))], none⟩,
 ⟨(some 82), .call ⟨.builtin .append, #[(.tmp 79), (.tmp 81)], #[45, 45]⟩, none⟩,
 ⟨(some 8), .assign (.tmp 82), none⟩] 0)))))))))
 (.reg [2, 3, 7, 8, 31, 32, 33] [⟨(some 83), .binOp .add 3 (.tmp 33) (.const (.int .i64 1)) 3, none⟩,
 ⟨(some 33), .move (.tmp 83), none⟩] 0)))) :: k) st Q := Iff.rfl
theorem u4_l1 {C : Ctx} {k : List It} {st : St} {Q : Ex → St → Prop} : RunK C (.code m4_l1 :: k) st Q ↔ RunK C (.code (.seq (.reg [3, 8, 11, 100, 101] [⟨(some 102), .binOp .lss 3 (.tmp 101) (.const (.int .i64 6)) 3, none⟩] 0)
 (.seq (.cond (.tmp 102) (.skip)
 (.exit 2))
 (.seq (.block 3 (.seq (.reg [3, 8, 11, 100, 101] [⟨(some 103), .move (.tmp 101), none⟩,
 ⟨(some 104), .index 48 (.tmp 100) (.tmp 101), none⟩,
 ⟨(some 12), .assign (.tmp 103), none⟩,
 ⟨(some 13), .assign (.tmp 104), none⟩] 0)
 (.seq (.reg [3, 8, 11, 12, 13, 100, 101] [⟨(some 105), .move (.tmp 12), none⟩,
 ⟨(some 106), .convert 3 5 (.tmp 105), none⟩,
 ⟨(some 107), .build 50 #[(0, (.const (.int .u8 1))), (1, (.tmp 106))], none⟩,
 ⟨(some 108), .move (.tmp 13), none⟩,
 ⟨(some 109), .move (.tmp 13), none⟩,
 ⟨(some 110), .build 52 #[(1, (.tmp 107)), (2, (.tmp 108)), (3, (.tmp 109))], none⟩,
 ⟨(some 14), .alloc 52, none⟩,
 ⟨none, .store 52 (.tmp 14) (.tmp 110), none⟩] 0)
 (.seq (.reg [3, 8, 11, 14, 100, 101] [⟨(some 111), .load 52 (.tmp 14), none⟩,
 ⟨(some 15), .alloc 52, none⟩,
 ⟨none, .store 52 (.tmp 15) (.tmp 111), none⟩] 0)
 (.seq (.reg [3, 8, 11, 14, 15, 100, 101] [⟨(some 112), .fieldAddr 52 (.tmp 15) 2, none⟩,
 ⟨(some 113), .load 5 (.tmp 112), none⟩,
 ⟨(some 114), .binOp .add 5 (.tmp 113) (.const (.int .u8 1)) 5, none⟩,
 ⟨(some 115), .fieldAddr 52 (.tmp 15) 2, none⟩,
 ⟨none, .store 5 (.tmp 115) (.tmp 114), none⟩] 0)
 (.seq (.seq (.seq (.reg [3, 8, 11, 14, 15, 100, 101] [⟨(some 116), .load 44 (.tmp 3), none⟩,
 ⟨(some 118), .move (.tmp 8), none⟩,
 ⟨(some 120), .load 52 (.tmp 14), none⟩,
 ⟨(some 121), .buildSlice 45 1 #[(0, (.tmp 120))], none⟩] 4)
 (.seq (.ops [⟨(some 117), .buildSlice 45 0 #[], none⟩])
 (.seq (.again [⟨(some 116), .load 44 (.tmp 3), none⟩,
 ⟨(some 120), .load 52 (.tmp 14), none⟩,
 ⟨(some 121), .buildSlice 45 1 #[(0, (.tmp 120))], none⟩])
 (.seq (.ops [⟨(some 119), .call ⟨.builtin .append, #[(.tmp 117), (.tmp 118)], #[45, 45]⟩, none⟩])
 (.seq (.again [⟨(some 116), .load 44 (.tmp 3), none⟩,
 ⟨(some 120), .load 52 (.tmp 14), none⟩,
 ⟨(some 121), .buildSlice 45 1 #[(0, (.tmp 120))], none⟩])
 (.seq (.ops [⟨(some 122), .call ⟨.builtin .append, #[(.tmp 119), (.tmp 121)], #[45, 45]⟩, none⟩])
 (.seq (.again [⟨(some 116), .load 44 (.tmp 3), none⟩])
 (.seq (.ops [⟨(some 123), .call ⟨.value (.func 6), #[(.tmp 116), (.tmp 122)], #[44, 45]⟩, none⟩])
 (.seq (.again [])
 (.seq (.ops [⟨(some 124), .unOp .not 4 (.tmp 123), none⟩])
 (.seq (.again [])
 (.seq (.ops [⟨(some 125), .move (.tmp 124), none⟩])
 (.seq (.again [])
 (.skip))))))))))))))
 (.seq (.seq (.reg [3, 8, 11, 14, 15, 100, 101, 116, 118, 120, 121, 117, 119, 122, 123, 124, 125] [⟨(some 126), .load 44 (.tmp 3), (some (125, false))⟩,
 ⟨(some 128), .move (.tmp 8), (some (125, false))⟩,
 ⟨(some 130), .load 52 (.tmp 15), (some (125, false))⟩,
 ⟨(some 131), .buildSlice 45 1 #[(0, (.tmp 130))], (some (125, false))⟩] 4)
 (.seq (.ops [⟨(some 127), .buildSlice 45 0 #[], (some (125, false))⟩])
 (.seq (.again [⟨(some 126), .load 44 (.tmp 3), (some (125, false))⟩,
 ⟨(some 130), .load 52 (.tmp 15), (some (125, false))⟩,
 ⟨(some 131), .buildSlice 45 1 #[(0, (.tmp 130))], (some (125, false))⟩])
 (.seq (.ops [⟨(some 129), .call ⟨.builtin .append, #[(.tmp 127), (.tmp 128)], #[45, 45]⟩, (some (125, false))⟩])
 (.seq (.again [⟨(some 126), .load 44 (.tmp 3), (some (125, false))⟩,
 ⟨(some 130), .load 52 (.tmp 15), (some (125, false))⟩,
 ⟨(some 131), .buildSlice 45 1 #[(0, (.tmp 130))], (some (125, false))⟩])
 (.seq (.ops [⟨(some 132), .call ⟨.builtin .append, #[(.tmp 129), (.tmp 131)], #[45, 45]⟩, (some (125, false))⟩])
 (.seq (.again [⟨(some 126), .load 44 (.tmp 3), (some (125, false))⟩])
 (.seq (.ops [⟨(some 133), .call ⟨.value (.func 6), #[(.tmp 126), (.tmp 132)], #[44, 45]⟩, (some (125, false))⟩])
 (.seq (.again [])
 (.skip))))))))))
 (.seq (.seq (.reg [3, 8, 11, 14, 15, 100, 101, 116, 118, 120, 121, 117, 119, 122, 123, 124, 125, 126, 128, 130, 131, 127, 129, 132, 133] [⟨(some 134), .pick (.tmp 125) (.const (.bool true)) (.tmp 133), none⟩] 1)
 (.skip))
 (.skip))))
 (.cond (.tmp 134) (.seq (.reg [] [⟨(some 6), .assign (.const (.bool false)), none⟩] 0)
 (.ret))
 (.skip))))))))
 (.reg [3, 8, 11, 100, 101] [⟨(some 135), .binOp .add 3 (.tmp 101) (.const (.int .i64 1)) 3, none⟩,
 ⟨(some 101), .move (.tmp 135), none⟩] 0)))) :: k) st Q := Iff.rfl
def m4 : M :=
 .seq (.reg [0, 1, 2] [⟨(some 3), .box 44 (.tmp 0), none⟩,
 ⟨(some 6), .assign (.const (.bool false)), none⟩] 0)
 (.seq (.seq (.reg [1, 2, 3] [⟨(some 17), .fieldAddr 44 (.tmp 3) 1, none⟩,
 ⟨(some 18), .fieldAddr 31 (.tmp 17) 0, none⟩,
 ⟨(some 19), .load 3 (.tmp 18), none⟩,
 ⟨(some 20), .binOp .lss 3 (.tmp 19) (.const (.int .i64 1)) 3, none⟩] 0)
 (.cond (.tmp 20) (.seq (.reg [] [⟨(some 21), .call ⟨.value (.func 8), #[], #[]⟩, none⟩,
 ⟨(some 6), .assign (.tmp 21), none⟩] 0)
 (.ret))
 (.skip)))
 (.seq (.reg [1, 2, 3] [⟨(some 7), .alloc 48, none⟩] 0)
 (.seq (.reg [1, 2, 3, 7] [⟨(some 22), .slice 48 (.tmp 7) none none none, none⟩,
 ⟨(some 23), .fieldAddr 44 (.tmp 3) 0, none⟩,
 ⟨(some 24), .fieldAddr 29 (.tmp 23) 2, none⟩,
 ⟨(some 25), .load 23 (.tmp 24), none⟩,
 ⟨(some 26), .call ⟨.builtin .copy, #[(.tmp 22), (.tmp 25)], #[23, 23]⟩, none⟩] 4)
 (.seq (.reg [1, 2, 3, 7] [⟨(some 8), .assign (.const (.slice none 0 0)), none⟩] 0)
 (.seq (.seq (.reg [1, 2, 3, 7, 8] [⟨(some 27), .move (.tmp 1), none⟩,
 ⟨(some 28), .move (.tmp 1), none⟩,
 ⟨(some 29), .call ⟨.builtin .len, #[(.tmp 28)], #[45]⟩, none⟩,
 ⟨(some 30), .call ⟨.builtin .min, #[(.tmp 29), (.const (.int .i64 60))], #[3, 3]⟩, none⟩,
 ⟨(some 31), .slice 45 (.tmp 27) none (some (.tmp 30)) none, none⟩,
 ⟨(some 32), .call ⟨.builtin .len, #[(.tmp 31)], #[45]⟩, none⟩,
 ⟨(some 33), .move (.const (.int .i64 0)), none⟩] 0)
 (.block 0 (.loop (m4_l0))))
 (.seq (.seq (.reg [2, 3, 7, 8] [⟨(some 84), .load 44 (.tmp 3), none⟩,
 ⟨(some 85), .move (.tmp 8), none⟩,
 ⟨(some 86), .call ⟨.value (.func 6), #[(.tmp 84), (.tmp 85)], #[44, 45]⟩, none⟩,
 ⟨(some 87), .unOp .not 4 (.tmp 86), none⟩] 0)
 (.cond (.tmp 87) (.seq (.reg [] [⟨(some 6), .assign (.const (.bool false)), none⟩] 0)
 (.ret))
 (.skip)))
 (.seq (.reg [2, 3, 7, 8] [⟨(some 88), .move (.tmp 2), none⟩,
 ⟨(some 89), .convert 5 3 (.tmp 88), none⟩,
 ⟨(some 90), .move (.tmp 8), none⟩,
 ⟨(some 91), .call ⟨.builtin .len, #[(.tmp 90)], #[45]⟩, none⟩,
 ⟨(some 92), .binOp .add 3 (.tmp 91) (.const (.int .i64 1)) 3, none⟩,
 ⟨(some 93), .binOp .rem 3 (.tmp 89) (.tmp 92) 3, none⟩,
 ⟨(some 11), .assign (.tmp 93), none⟩] 0)
 (.seq (.seq (.reg [3, 7, 8, 11] [⟨(some 94), .load 44 (.tmp 3), none⟩,
 ⟨(some 95), .move (.tmp 8), none⟩,
 ⟨(some 96), .move (.tmp 11), none⟩,
 ⟨(some 97), .slice 45 (.tmp 95) none (some (.tmp 96)) none, none⟩,
 ⟨(some 98), .call ⟨.value (.func 6), #[(.tmp 94), (.tmp 97)], #[44, 45]⟩, none⟩,
 ⟨(some 99), .unOp .not 4 (.tmp 98), none⟩] 4)
 (.cond (.tmp 99) (.seq (.reg [] [⟨(some 6), .assign (.const (.bool false)), none⟩] 0)
 (.ret))
 (.skip)))
 (.seq (.seq (.reg [3, 7, 8, 11] [⟨(some 100), .load 48 (.tmp 7), none⟩,
 ⟨(some 101), .move (.const (.int .i64 0)), none⟩] 0)
 (.block 2 (.loop (m4_l1))))
 (.seq (.seq (.reg [3, 8, 11] [⟨(some 136), .move (.tmp 11), none⟩,
 ⟨(some 137), .binOp .add 3 (.tmp 136) (.const (.int .i64 1)) 3, none⟩,
 ⟨(some 138), .move (.tmp 8), none⟩,
 ⟨(some 139), .call ⟨.builtin .len, #[(.tmp 138)], #[45]⟩, none⟩,
 ⟨(some 140), .binOp .lss 3 (.tmp 137) (.tmp 139) 3, none⟩,
 ⟨(some 141), .move (.tmp 140), none⟩,
 ⟨(some 142), .move (.tmp 8), (some (141, true))⟩,
 ⟨(some 143), .move (.tmp 11), (some (141, true))⟩,
 ⟨(some 144), .indexAddr 45 (.tmp 142) (.tmp 143), (some (141, true))⟩,
 ⟨(some 145), .fieldAddr 52 (.tmp 144) 1, (some (141, true))⟩,
 ⟨(some 146), .fieldAddr 50 (.tmp 145) 1, (some (141, true))⟩,
 ⟨(some 147), .load 5 (.tmp 146), (some (141, true))⟩,
 ⟨(some 148), .move (.tmp 8), (some (141, true))⟩,
 ⟨(some 149), .move (.tmp 11), (some (141, true))⟩,
 ⟨(some 150), .binOp .add 3 (.tmp 149) (.const (.int .i64 1)) 3, (some (141, true))⟩,
 ⟨(some 151), .indexAddr 45 (.tmp 148) (.tmp 150), (some (141, true))⟩,
 ⟨(some 152), .fieldAddr 52 (.tmp 151) 1, (some (141, true))⟩,
 ⟨(some 153), .fieldAddr 50 (.tmp 152) 1, (some (141, true))⟩,
 ⟨(some 154), .load 5 (.tmp 153), (some (141, true))⟩,
 ⟨(some 155), .binOp .neq 5 (.tmp 147) (.tmp 154) 5, (some (141, true))⟩,
 ⟨(some 156), .pick (.tmp 141) (.tmp 155) (.const (.bool false)), none⟩] 19)
 (.cond (.tmp 156) (.seq (.reg [3, 8, 11] [⟨(some 157), .buildSlice 45 0 #[], none⟩,
 ⟨(some 158), .move (.tmp 8), none⟩,
 ⟨(some 159), .call ⟨.builtin .append, #[(.tmp 157), (.tmp 158)], #[45, 45]⟩, none⟩,
 ⟨(some 16), .assign (.tmp 159), none⟩] 0)
 (.seq (.reg [3, 8, 11, 16] [⟨(some 160), .move (.tmp 16), none⟩,
 ⟨(some 161), .move (.tmp 11), none⟩,
 ⟨(some 162), .move (.tmp 16), none⟩,
 ⟨(some 163), .move (.tmp 11), none⟩,
 ⟨(some 164), .binOp .add 3 (.tmp 163) (.const (.int .i64 1)) 3, none⟩,
 ⟨(some 165), .move (.tmp 8), none⟩,
 ⟨(some 166), .move (.tmp 11), none⟩,
 ⟨(some 167), .binOp .add 3 (.tmp 166) (.const (.int .i64 1)) 3, none⟩,
 ⟨(some 168), .indexAddr 45 (.tmp 165) (.tmp 167), none⟩,
 ⟨(some 169), .load 52 (.tmp 168), none⟩,
 ⟨(some 170), .move (.tmp 8), none⟩,
 ⟨(some 171), .move (.tmp 11), none⟩,
 ⟨(some 172), .indexAddr 45 (.tmp 170) (.tmp 171), none⟩,
 ⟨(some 173), .load 52 (.tmp 172), none⟩,
 ⟨(some 174), .indexAddr 45 (.tmp 160) (.tmp 161), none⟩,
 ⟨none, .store 52 (.tmp 174) (.tmp 169), none⟩,
 ⟨(some 175), .indexAddr 45 (.tmp 162) (.tmp 164), none⟩,
 ⟨none, .store 52 (.tmp 175) (.tmp 173), none⟩] 15)
 (.seq (.reg [3, 16] [⟨(some 176), .load 44 (.tmp 3), none⟩,
 ⟨(some 177), .move (.tmp 16), none⟩,
 ⟨(some 178), .call ⟨.value (.func 6), #[(.tmp 176), (.tmp 177)], #[44, 45]⟩, none⟩,
 ⟨(some 179), .move (.tmp 178), none⟩,
 ⟨(some 180), .call ⟨.value (.func 8), #[], #[]⟩, (some (179, true))⟩,
 ⟨(some 181), .pick (.tmp 179) (.tmp 180) (.const (.bool false)), none⟩,
 ⟨(some 6), .assign (.tmp 181), none⟩] 0)
 (.ret))))
 (.skip)))
 (.seq (.reg [] [⟨(some 182), .call ⟨.value (.func 8), #[], #[]⟩, none⟩,
 ⟨(some 6), .assign (.tmp 182), none⟩] 0)
 (.ret))))))))))))
def fn4 : MFn := ⟨183, [.tmp 6], m4, .shut⟩
theorem fnOk4 : FnOk Tryz.prog 4 fn4 := ⟨Tryz.f4, _, kpL passing [] [[0, 1, 2], [1, 2, 3], [], [1, 2, 3], [1, 2, 3, 7], [1, 2, 3, 7], [1, 2, 3, 7, 8], [2, 3, 7, 8, 31, 32, 33], [2, 3, 7, 8, 31, 32, 33], [2, 3, 7, 8, 10, 31, 32, 33], [2, 3, 7, 8, 10, 31, 32, 33], [2, 3, 7, 8, 10, 31, 32, 33], [2, 3, 7, 8, 10, 31, 32, 33], [2, 3, 7, 8, 10, 31, 32, 33], [2, 3, 7, 8, 10, 31, 32, 33], [2, 3, 7, 8, 10, 31, 32, 33], [2, 3, 7, 8, 31, 32, 33], [2, 3, 7, 8], [], [2, 3, 7, 8], [3, 7, 8, 11], [], [3, 7, 8, 11], [3, 8, 11, 100, 101], [3, 8, 11, 100, 101], [3, 8, 11, 12, 13, 100, 101], [3, 8, 11, 14, 100, 101], [3, 8, 11, 14, 15, 100, 101], [3, 8, 11, 14, 15, 100, 101], [], [3, 8, 11, 100, 101], [3, 8, 11], [3, 8, 11], [3, 8, 11, 16], [3, 16], []], Tryz.func4, rfl, by kernel_rfl, by kernel_rfl, by kernel_rfl, by kernel_rfl⟩
end Go.Proofs.YtnhknhniemfnjaaGreatDoor.Ev
