/- The evaluator's context: types and bodies, and that they are the program's. Printed by wip/ev/gen/ctx.py. -/
import Derived.Test.YtijpomemobgddaaGreatDoorEA
import Derived.Test.YtijpomemobgddaaGreatDoorChecked
set_option linter.unusedSimpArgs false
set_option linter.unusedVariables false
namespace Go.Proofs.YtijpomemobgddaaGreatDoor.Ev
open Go Go.RowKit
set_option maxRecDepth 100000

def ty1 : Ty := ⟨.func, 1, 8, [.nilFunc], true⟩
theorem tyOk1 : tyOf Tryz.prog 1 = some ty1 := by kernel_rfl
def ty3 : Ty := ⟨(.int .i64), 1, 8, [(.int .i64 0)], true⟩
theorem tyOk3 : tyOf Tryz.prog 3 = some ty3 := by kernel_rfl
def ty4 : Ty := ⟨.bool, 1, 1, [(.bool false)], true⟩
theorem tyOk4 : tyOf Tryz.prog 4 = some ty4 := by kernel_rfl
def ty5 : Ty := ⟨(.int .u8), 1, 1, [(.int .u8 0)], true⟩
theorem tyOk5 : tyOf Tryz.prog 5 = some ty5 := by kernel_rfl
def ty9 : Ty := ⟨.str, 1, 16, [(.string ⟨#[]⟩)], true⟩
theorem tyOk9 : tyOf Tryz.prog 9 = some ty9 := by kernel_rfl
def ty20 : Ty := ⟨.other, 1, 16, [.nilIface], true⟩
theorem tyOk20 : tyOf Tryz.prog 20 = some ty20 := by kernel_rfl
def ty22 : Ty := ⟨(.slice 84), 1, 24, [(.slice none 0 0)], true⟩
theorem tyOk22 : tyOf Tryz.prog 22 = some ty22 := by kernel_rfl
def ty23 : Ty := ⟨.func, 1, 8, [.nilFunc], true⟩
theorem tyOk23 : tyOf Tryz.prog 23 = some ty23 := by kernel_rfl
def ty27 : Ty := ⟨(.int .i64), 1, 8, [(.int .i64 0)], true⟩
theorem tyOk27 : tyOf Tryz.prog 27 = some ty27 := by kernel_rfl
def ty32 : Ty := ⟨(.slice 9), 1, 24, [(.slice none 0 0)], true⟩
theorem tyOk32 : tyOf Tryz.prog 32 = some ty32 := by kernel_rfl
def ty33 : Ty := ⟨(.slice 5), 1, 24, [(.slice none 0 0)], true⟩
theorem tyOk33 : tyOf Tryz.prog 33 = some ty33 := by kernel_rfl
def ty34 : Ty := ⟨(.slice 104), 1, 24, [(.slice none 0 0)], true⟩
theorem tyOk34 : tyOf Tryz.prog 34 = some ty34 := by kernel_rfl
def ty35 : Ty := ⟨(.slice 37), 1, 24, [(.slice none 0 0)], true⟩
theorem tyOk35 : tyOf Tryz.prog 35 = some ty35 := by kernel_rfl
def ty37 : Ty := ⟨(.struct [(5, 0, true), (5, 1, true), (5, 2, true), (5, 3, true), (35, 4, true)]), 5, 32, [(.int .u8 0), (.int .u8 0), (.int .u8 0), (.int .u8 0), (.slice none 0 0)], true⟩
theorem tyOk37 : tyOf Tryz.prog 37 = some ty37 := by kernel_rfl
def ty39 : Ty := ⟨(.struct [(9, 0, true), (32, 1, true), (33, 2, true), (34, 3, true), (5, 4, true), (37, 5, true)]), 10, 128, [(.string ⟨#[]⟩), (.slice none 0 0), (.slice none 0 0), (.slice none 0 0), (.int .u8 0), (.int .u8 0), (.int .u8 0), (.int .u8 0), (.int .u8 0), (.slice none 0 0)], true⟩
theorem tyOk39 : tyOf Tryz.prog 39 = some ty39 := by kernel_rfl
def ty41 : Ty := ⟨(.struct [(3, 0, true), (3, 1, true), (3, 2, true), (3, 3, true), (3, 4, true)]), 5, 40, [(.int .i64 0), (.int .i64 0), (.int .i64 0), (.int .i64 0), (.int .i64 0)], true⟩
theorem tyOk41 : tyOf Tryz.prog 41 = some ty41 := by kernel_rfl
def ty43 : Ty := ⟨(.struct [(5, 0, true), (5, 1, true), (5, 2, true), (3, 3, true), (4, 4, true)]), 5, 24, [(.int .u8 0), (.int .u8 0), (.int .u8 0), (.int .i64 0), (.bool false)], true⟩
theorem tyOk43 : tyOf Tryz.prog 43 = some ty43 := by kernel_rfl
def ty44 : Ty := ⟨(.int .u16), 1, 2, [(.int .u16 0)], true⟩
theorem tyOk44 : tyOf Tryz.prog 44 = some ty44 := by kernel_rfl
def ty46 : Ty := ⟨(.struct [(5, 0, true), (5, 1, true), (44, 2, true)]), 3, 4, [(.int .u8 0), (.int .u8 0), (.int .u16 0)], true⟩
theorem tyOk46 : tyOf Tryz.prog 46 = some ty46 := by kernel_rfl
def ty47 : Ty := ⟨(.array 14 46), 42, 56, (List.replicate 14 ([(.int .u8 0), (.int .u8 0), (.int .u16 0)] : List Value)).flatten, true⟩
theorem tyOk47 : tyOf Tryz.prog 47 = some ty47 := by kernel_rfl
def ty48 : Ty := ⟨(.array 12 47), 504, 672, (List.replicate 168 ([(.int .u8 0), (.int .u8 0), (.int .u16 0)] : List Value)).flatten, true⟩
theorem tyOk48 : tyOf Tryz.prog 48 = some ty48 := by kernel_rfl
def ty49 : Ty := ⟨(.array 5 46), 15, 20, [(.int .u8 0), (.int .u8 0), (.int .u16 0), (.int .u8 0), (.int .u8 0), (.int .u16 0), (.int .u8 0), (.int .u8 0), (.int .u16 0), (.int .u8 0), (.int .u8 0), (.int .u16 0), (.int .u8 0), (.int .u8 0), (.int .u16 0)], true⟩
theorem tyOk49 : tyOf Tryz.prog 49 = some ty49 := by kernel_rfl
def ty50 : Ty := ⟨(.array 4 49), 60, 80, (List.replicate 20 ([(.int .u8 0), (.int .u8 0), (.int .u16 0)] : List Value)).flatten, true⟩
theorem tyOk50 : tyOf Tryz.prog 50 = some ty50 := by kernel_rfl
def ty52 : Ty := ⟨(.struct [(9, 0, true), (48, 1, true), (50, 505, true)]), 565, 768, [(.string ⟨#[]⟩)] ++ (List.replicate 188 ([(.int .u8 0), (.int .u8 0), (.int .u16 0)] : List Value)).flatten, true⟩
theorem tyOk52 : tyOf Tryz.prog 52 = some ty52 := by kernel_rfl
def ty54 : Ty := ⟨(.struct [(39, 0, true), (41, 10, true), (43, 15, true), (52, 20, true)]), 585, 960, [(.string ⟨#[]⟩), (.slice none 0 0), (.slice none 0 0), (.slice none 0 0), (.int .u8 0), (.int .u8 0), (.int .u8 0), (.int .u8 0), (.int .u8 0), (.slice none 0 0), (.int .i64 0), (.int .i64 0), (.int .i64 0), (.int .i64 0), (.int .i64 0), (.int .u8 0), (.int .u8 0), (.int .u8 0), (.int .i64 0), (.bool false), (.string ⟨#[]⟩)] ++ (List.replicate 188 ([(.int .u8 0), (.int .u8 0), (.int .u16 0)] : List Value)).flatten, true⟩
theorem tyOk54 : tyOf Tryz.prog 54 = some ty54 := by kernel_rfl
def ty56 : Ty := ⟨(.slice 161), 1, 24, [(.slice none 0 0)], true⟩
theorem tyOk56 : tyOf Tryz.prog 56 = some ty56 := by kernel_rfl
def ty57 : Ty := ⟨(.slice 174), 1, 24, [(.slice none 0 0)], true⟩
theorem tyOk57 : tyOf Tryz.prog 57 = some ty57 := by kernel_rfl
def ty58 : Ty := ⟨(.int .u64), 1, 8, [(.int .u64 0)], true⟩
theorem tyOk58 : tyOf Tryz.prog 58 = some ty58 := by kernel_rfl
def ty59 : Ty := ⟨(.int .u64), 1, 8, [(.int .u64 0)], true⟩
theorem tyOk59 : tyOf Tryz.prog 59 = some ty59 := by kernel_rfl
def ty61 : Ty := ⟨(.struct [(5, 0, true), (59, 1, true), (4, 2, true)]), 3, 24, [(.int .u8 0), (.int .u64 0), (.bool false)], true⟩
theorem tyOk61 : tyOf Tryz.prog 61 = some ty61 := by kernel_rfl
def ty62 : Ty := ⟨(.array 4 5), 4, 4, [(.int .u8 0), (.int .u8 0), (.int .u8 0), (.int .u8 0)], true⟩
theorem tyOk62 : tyOf Tryz.prog 62 = some ty62 := by kernel_rfl
def ty63 : Ty := ⟨(.array 4 5), 4, 4, [(.int .u8 0), (.int .u8 0), (.int .u8 0), (.int .u8 0)], true⟩
theorem tyOk63 : tyOf Tryz.prog 63 = some ty63 := by kernel_rfl
def ty65 : Ty := ⟨(.struct [(5, 0, true), (5, 1, true), (61, 2, true), (5, 5, true), (5, 6, true), (63, 7, true)]), 11, 40, [(.int .u8 0), (.int .u8 0), (.int .u8 0), (.int .u64 0), (.bool false), (.int .u8 0), (.int .u8 0), (.int .u8 0), (.int .u8 0), (.int .u8 0), (.int .u8 0)], true⟩
theorem tyOk65 : tyOf Tryz.prog 65 = some ty65 := by kernel_rfl
def ty66 : Ty := ⟨(.array 6 65), 66, 240, [(.int .u8 0), (.int .u8 0), (.int .u8 0), (.int .u64 0), (.bool false), (.int .u8 0), (.int .u8 0), (.int .u8 0), (.int .u8 0), (.int .u8 0), (.int .u8 0), (.int .u8 0), (.int .u8 0), (.int .u8 0), (.int .u64 0), (.bool false), (.int .u8 0), (.int .u8 0), (.int .u8 0), (.int .u8 0), (.int .u8 0), (.int .u8 0), (.int .u8 0), (.int .u8 0), (.int .u8 0), (.int .u64 0), (.bool false), (.int .u8 0), (.int .u8 0), (.int .u8 0), (.int .u8 0), (.int .u8 0), (.int .u8 0), (.int .u8 0), (.int .u8 0), (.int .u8 0), (.int .u64 0), (.bool false), (.int .u8 0), (.int .u8 0), (.int .u8 0), (.int .u8 0), (.int .u8 0), (.int .u8 0), (.int .u8 0), (.int .u8 0), (.int .u8 0), (.int .u64 0), (.bool false), (.int .u8 0), (.int .u8 0), (.int .u8 0), (.int .u8 0), (.int .u8 0), (.int .u8 0), (.int .u8 0), (.int .u8 0), (.int .u8 0), (.int .u64 0), (.bool false)] ++ (List.replicate 6 ([(.int .u8 0)] : List Value)).flatten, true⟩
theorem tyOk66 : tyOf Tryz.prog 66 = some ty66 := by kernel_rfl
def ty67 : Ty := ⟨(.slice 77), 1, 24, [(.slice none 0 0)], true⟩
theorem tyOk67 : tyOf Tryz.prog 67 = some ty67 := by kernel_rfl
def ty69 : Ty := ⟨(.struct [(56, 0, true), (57, 1, true), (66, 2, true), (67, 68, true)]), 69, 312, [(.slice none 0 0), (.slice none 0 0), (.int .u8 0), (.int .u8 0), (.int .u8 0), (.int .u64 0), (.bool false), (.int .u8 0), (.int .u8 0), (.int .u8 0), (.int .u8 0), (.int .u8 0), (.int .u8 0), (.int .u8 0), (.int .u8 0), (.int .u8 0), (.int .u64 0), (.bool false), (.int .u8 0), (.int .u8 0), (.int .u8 0), (.int .u8 0), (.int .u8 0), (.int .u8 0), (.int .u8 0), (.int .u8 0), (.int .u8 0), (.int .u64 0), (.bool false), (.int .u8 0), (.int .u8 0), (.int .u8 0), (.int .u8 0), (.int .u8 0), (.int .u8 0), (.int .u8 0), (.int .u8 0), (.int .u8 0), (.int .u64 0), (.bool false), (.int .u8 0), (.int .u8 0), (.int .u8 0), (.int .u8 0), (.int .u8 0), (.int .u8 0), (.int .u8 0), (.int .u8 0), (.int .u8 0), (.int .u64 0), (.bool false), (.int .u8 0), (.int .u8 0), (.int .u8 0), (.int .u8 0), (.int .u8 0), (.int .u8 0), (.int .u8 0), (.int .u8 0), (.int .u8 0), (.int .u64 0), (.bool false), (.int .u8 0), (.int .u8 0), (.int .u8 0), (.int .u8 0), (.int .u8 0), (.int .u8 0), (.slice none 0 0)], true⟩
theorem tyOk69 : tyOf Tryz.prog 69 = some ty69 := by kernel_rfl
def ty70 : Ty := ⟨(.slice 300), 1, 24, [(.slice none 0 0)], true⟩
theorem tyOk70 : tyOf Tryz.prog 70 = some ty70 := by kernel_rfl
def ty72 : Ty := ⟨(.struct [(22, 0, true), (69, 1, true), (70, 70, true), (27, 71, true)]), 72, 368, [(.slice none 0 0), (.slice none 0 0), (.slice none 0 0), (.int .u8 0), (.int .u8 0), (.int .u8 0), (.int .u64 0), (.bool false), (.int .u8 0), (.int .u8 0), (.int .u8 0), (.int .u8 0), (.int .u8 0), (.int .u8 0), (.int .u8 0), (.int .u8 0), (.int .u8 0), (.int .u64 0), (.bool false), (.int .u8 0), (.int .u8 0), (.int .u8 0), (.int .u8 0), (.int .u8 0), (.int .u8 0), (.int .u8 0), (.int .u8 0), (.int .u8 0), (.int .u64 0), (.bool false), (.int .u8 0), (.int .u8 0), (.int .u8 0), (.int .u8 0), (.int .u8 0), (.int .u8 0), (.int .u8 0), (.int .u8 0), (.int .u8 0), (.int .u64 0), (.bool false), (.int .u8 0), (.int .u8 0), (.int .u8 0), (.int .u8 0), (.int .u8 0), (.int .u8 0), (.int .u8 0), (.int .u8 0), (.int .u8 0), (.int .u64 0), (.bool false), (.int .u8 0), (.int .u8 0), (.int .u8 0), (.int .u8 0), (.int .u8 0), (.int .u8 0), (.int .u8 0), (.int .u8 0), (.int .u8 0), (.int .u64 0), (.bool false), (.int .u8 0), (.int .u8 0), (.int .u8 0), (.int .u8 0), (.int .u8 0), (.int .u8 0), (.slice none 0 0), (.slice none 0 0), (.int .i64 0)], true⟩
theorem tyOk72 : tyOf Tryz.prog 72 = some ty72 := by kernel_rfl
def ty74 : Ty := ⟨(.slice 3), 1, 24, [(.slice none 0 0)], true⟩
theorem tyOk74 : tyOf Tryz.prog 74 = some ty74 := by kernel_rfl
def ty77 : Ty := ⟨(.struct [(5, 0, true), (5, 1, true), (5, 2, true), (5, 3, true), (5, 4, true), (5, 5, true), (4, 6, true), (63, 7, true)]), 11, 11, [(.int .u8 0), (.int .u8 0), (.int .u8 0), (.int .u8 0), (.int .u8 0), (.int .u8 0), (.bool false), (.int .u8 0), (.int .u8 0), (.int .u8 0), (.int .u8 0)], true⟩
theorem tyOk77 : tyOf Tryz.prog 77 = some ty77 := by kernel_rfl
def ty78 : Ty := ⟨.func, 1, 8, [.nilFunc], true⟩
theorem tyOk78 : tyOf Tryz.prog 78 = some ty78 := by kernel_rfl
def ty84 : Ty := ⟨(.struct [(5, 0, true), (5, 1, true), (5, 2, true), (77, 3, true)]), 14, 14, [(.int .u8 0), (.int .u8 0), (.int .u8 0), (.int .u8 0), (.int .u8 0), (.int .u8 0), (.int .u8 0), (.int .u8 0), (.int .u8 0), (.bool false), (.int .u8 0), (.int .u8 0), (.int .u8 0), (.int .u8 0)], true⟩
theorem tyOk84 : tyOf Tryz.prog 84 = some ty84 := by kernel_rfl
def ty87 : Ty := ⟨(.ptr 89), 1, 8, [(.pointer none)], true⟩
theorem tyOk87 : tyOf Tryz.prog 87 = some ty87 := by kernel_rfl
def ty89 : Ty := ⟨(.struct [(87, 0, true), (33, 1, true)]), 2, 32, [(.pointer none), (.slice none 0 0)], true⟩
theorem tyOk89 : tyOf Tryz.prog 89 = some ty89 := by kernel_rfl
def ty91 : Ty := ⟨.func, 1, 8, [.nilFunc], true⟩
theorem tyOk91 : tyOf Tryz.prog 91 = some ty91 := by kernel_rfl
def ty97 : Ty := ⟨.func, 1, 8, [.nilFunc], true⟩
theorem tyOk97 : tyOf Tryz.prog 97 = some ty97 := by kernel_rfl
def ty101 : Ty := ⟨(.struct [(4, 0, true), (5, 1, true)]), 2, 2, [(.bool false), (.int .u8 0)], true⟩
theorem tyOk101 : tyOf Tryz.prog 101 = some ty101 := by kernel_rfl
def ty103 : Ty := ⟨(.struct [(5, 0, true), (5, 1, true), (5, 2, true), (101, 3, true), (101, 5, true), (5, 7, true), (5, 8, true), (5, 9, true)]), 10, 10, [(.int .u8 0), (.int .u8 0), (.int .u8 0), (.bool false), (.int .u8 0), (.bool false), (.int .u8 0), (.int .u8 0), (.int .u8 0), (.int .u8 0)], true⟩
theorem tyOk103 : tyOf Tryz.prog 103 = some ty103 := by kernel_rfl
def ty104 : Ty := ⟨(.slice 103), 1, 24, [(.slice none 0 0)], true⟩
theorem tyOk104 : tyOf Tryz.prog 104 = some ty104 := by kernel_rfl
def ty105 : Ty := ⟨(.ptr 108), 1, 8, [(.pointer none)], true⟩
theorem tyOk105 : tyOf Tryz.prog 105 = some ty105 := by kernel_rfl
def ty108 : Ty := ⟨(.struct [(72, 0, true), (54, 72, true)]), 657, 1328, [(.slice none 0 0), (.slice none 0 0), (.slice none 0 0), (.int .u8 0), (.int .u8 0), (.int .u8 0), (.int .u64 0), (.bool false), (.int .u8 0), (.int .u8 0), (.int .u8 0), (.int .u8 0), (.int .u8 0), (.int .u8 0), (.int .u8 0), (.int .u8 0), (.int .u8 0), (.int .u64 0), (.bool false), (.int .u8 0), (.int .u8 0), (.int .u8 0), (.int .u8 0), (.int .u8 0), (.int .u8 0), (.int .u8 0), (.int .u8 0), (.int .u8 0), (.int .u64 0), (.bool false), (.int .u8 0), (.int .u8 0), (.int .u8 0), (.int .u8 0), (.int .u8 0), (.int .u8 0), (.int .u8 0), (.int .u8 0), (.int .u8 0), (.int .u64 0), (.bool false), (.int .u8 0), (.int .u8 0), (.int .u8 0), (.int .u8 0), (.int .u8 0), (.int .u8 0), (.int .u8 0), (.int .u8 0), (.int .u8 0), (.int .u64 0), (.bool false), (.int .u8 0), (.int .u8 0), (.int .u8 0), (.int .u8 0), (.int .u8 0), (.int .u8 0), (.int .u8 0), (.int .u8 0), (.int .u8 0), (.int .u64 0), (.bool false), (.int .u8 0), (.int .u8 0), (.int .u8 0), (.int .u8 0), (.int .u8 0), (.int .u8 0), (.slice none 0 0), (.slice none 0 0), (.int .i64 0), (.string ⟨#[]⟩), (.slice none 0 0), (.slice none 0 0), (.slice none 0 0), (.int .u8 0), (.int .u8 0), (.int .u8 0), (.int .u8 0), (.int .u8 0), (.slice none 0 0), (.int .i64 0), (.int .i64 0), (.int .i64 0), (.int .i64 0), (.int .i64 0), (.int .u8 0), (.int .u8 0), (.int .u8 0), (.int .i64 0), (.bool false), (.string ⟨#[]⟩)] ++ (List.replicate 188 ([(.int .u8 0), (.int .u8 0), (.int .u16 0)] : List Value)).flatten, true⟩
theorem tyOk108 : tyOf Tryz.prog 108 = some ty108 := by kernel_rfl
def ty118 : Ty := ⟨.func, 1, 8, [.nilFunc], true⟩
theorem tyOk118 : tyOf Tryz.prog 118 = some ty118 := by kernel_rfl
def ty124 : Ty := ⟨(.map 5 91), 1, 8, [(.map none)], true⟩
theorem tyOk124 : tyOf Tryz.prog 124 = some ty124 := by kernel_rfl
def ty126 : Ty := ⟨(.ptr 5), 1, 8, [(.pointer none)], true⟩
theorem tyOk126 : tyOf Tryz.prog 126 = some ty126 := by kernel_rfl
def ty128 : Ty := ⟨(.ptr 52), 1, 8, [(.pointer none)], true⟩
theorem tyOk128 : tyOf Tryz.prog 128 = some ty128 := by kernel_rfl
def ty132 : Ty := ⟨(.ptr 182), 1, 8, [(.pointer none)], true⟩
theorem tyOk132 : tyOf Tryz.prog 132 = some ty132 := by kernel_rfl
def ty138 : Ty := ⟨.func, 1, 8, [.nilFunc], true⟩
theorem tyOk138 : tyOf Tryz.prog 138 = some ty138 := by kernel_rfl
def ty141 : Ty := ⟨(.slice 22), 1, 24, [(.slice none 0 0)], true⟩
theorem tyOk141 : tyOf Tryz.prog 141 = some ty141 := by kernel_rfl
def ty150 : Ty := ⟨(.array 13 9), 13, 208, [(.string ⟨#[]⟩), (.string ⟨#[]⟩), (.string ⟨#[]⟩), (.string ⟨#[]⟩), (.string ⟨#[]⟩), (.string ⟨#[]⟩), (.string ⟨#[]⟩), (.string ⟨#[]⟩), (.string ⟨#[]⟩), (.string ⟨#[]⟩), (.string ⟨#[]⟩), (.string ⟨#[]⟩), (.string ⟨#[]⟩)], true⟩
theorem tyOk150 : tyOf Tryz.prog 150 = some ty150 := by kernel_rfl
def ty158 : Ty := ⟨(.array 8 5), 8, 8, [(.int .u8 0), (.int .u8 0), (.int .u8 0), (.int .u8 0), (.int .u8 0), (.int .u8 0), (.int .u8 0), (.int .u8 0)], true⟩
theorem tyOk158 : tyOf Tryz.prog 158 = some ty158 := by kernel_rfl
def ty159 : Ty := ⟨(.slice 242), 1, 24, [(.slice none 0 0)], true⟩
theorem tyOk159 : tyOf Tryz.prog 159 = some ty159 := by kernel_rfl
def ty161 : Ty := ⟨(.struct [(5, 0, true), (158, 1, true), (159, 9, true), (4, 10, true), (4, 11, true)]), 12, 48, [(.int .u8 0), (.int .u8 0), (.int .u8 0), (.int .u8 0), (.int .u8 0), (.int .u8 0), (.int .u8 0), (.int .u8 0), (.int .u8 0), (.slice none 0 0), (.bool false), (.bool false)], true⟩
theorem tyOk161 : tyOf Tryz.prog 161 = some ty161 := by kernel_rfl
def ty163 : Ty := ⟨(.int .i8), 1, 1, [(.int .i8 0)], true⟩
theorem tyOk163 : tyOf Tryz.prog 163 = some ty163 := by kernel_rfl
def ty165 : Ty := ⟨(.struct [(5, 0, true), (5, 1, true), (163, 2, true), (4, 3, true), (63, 4, true)]), 8, 8, [(.int .u8 0), (.int .u8 0), (.int .i8 0), (.bool false), (.int .u8 0), (.int .u8 0), (.int .u8 0), (.int .u8 0)], true⟩
theorem tyOk165 : tyOf Tryz.prog 165 = some ty165 := by kernel_rfl
def ty166 : Ty := ⟨(.array 4 165), 32, 32, [(.int .u8 0), (.int .u8 0), (.int .i8 0), (.bool false), (.int .u8 0), (.int .u8 0), (.int .u8 0), (.int .u8 0), (.int .u8 0), (.int .u8 0), (.int .i8 0), (.bool false), (.int .u8 0), (.int .u8 0), (.int .u8 0), (.int .u8 0), (.int .u8 0), (.int .u8 0), (.int .i8 0), (.bool false), (.int .u8 0), (.int .u8 0), (.int .u8 0), (.int .u8 0), (.int .u8 0), (.int .u8 0), (.int .i8 0), (.bool false)] ++ (List.replicate 4 ([(.int .u8 0)] : List Value)).flatten, true⟩
theorem tyOk166 : tyOf Tryz.prog 166 = some ty166 := by kernel_rfl
def ty167 : Ty := ⟨(.array 4 166), 128, 128, [(.int .u8 0), (.int .u8 0), (.int .i8 0), (.bool false), (.int .u8 0), (.int .u8 0), (.int .u8 0), (.int .u8 0), (.int .u8 0), (.int .u8 0), (.int .i8 0), (.bool false), (.int .u8 0), (.int .u8 0), (.int .u8 0), (.int .u8 0), (.int .u8 0), (.int .u8 0), (.int .i8 0), (.bool false), (.int .u8 0), (.int .u8 0), (.int .u8 0), (.int .u8 0), (.int .u8 0), (.int .u8 0), (.int .i8 0), (.bool false), (.int .u8 0), (.int .u8 0), (.int .u8 0), (.int .u8 0), (.int .u8 0), (.int .u8 0), (.int .i8 0), (.bool false), (.int .u8 0), (.int .u8 0), (.int .u8 0), (.int .u8 0), (.int .u8 0), (.int .u8 0), (.int .i8 0), (.bool false), (.int .u8 0), (.int .u8 0), (.int .u8 0), (.int .u8 0), (.int .u8 0), (.int .u8 0), (.int .i8 0), (.bool false), (.int .u8 0), (.int .u8 0), (.int .u8 0), (.int .u8 0), (.int .u8 0), (.int .u8 0), (.int .i8 0), (.bool false), (.int .u8 0), (.int .u8 0), (.int .u8 0), (.int .u8 0), (.int .u8 0), (.int .u8 0), (.int .i8 0), (.bool false), (.int .u8 0), (.int .u8 0), (.int .u8 0), (.int .u8 0), (.int .u8 0), (.int .u8 0), (.int .i8 0), (.bool false), (.int .u8 0), (.int .u8 0), (.int .u8 0), (.int .u8 0), (.int .u8 0), (.int .u8 0), (.int .i8 0), (.bool false), (.int .u8 0), (.int .u8 0), (.int .u8 0), (.int .u8 0), (.int .u8 0), (.int .u8 0), (.int .i8 0), (.bool false), (.int .u8 0), (.int .u8 0), (.int .u8 0), (.int .u8 0), (.int .u8 0), (.int .u8 0), (.int .i8 0), (.bool false), (.int .u8 0), (.int .u8 0), (.int .u8 0), (.int .u8 0), (.int .u8 0), (.int .u8 0), (.int .i8 0), (.bool false), (.int .u8 0), (.int .u8 0), (.int .u8 0), (.int .u8 0), (.int .u8 0), (.int .u8 0), (.int .i8 0), (.bool false), (.int .u8 0), (.int .u8 0), (.int .u8 0), (.int .u8 0), (.int .u8 0), (.int .u8 0), (.int .i8 0), (.bool false)] ++ (List.replicate 4 ([(.int .u8 0)] : List Value)).flatten, true⟩
theorem tyOk167 : tyOf Tryz.prog 167 = some ty167 := by kernel_rfl
def ty169 : Ty := ⟨(.struct [(5, 0, true), (3, 1, true), (62, 2, true), (5, 6, true)]), 7, 24, [(.int .u8 0), (.int .i64 0), (.int .u8 0), (.int .u8 0), (.int .u8 0), (.int .u8 0), (.int .u8 0)], true⟩
theorem tyOk169 : tyOf Tryz.prog 169 = some ty169 := by kernel_rfl
def ty170 : Ty := ⟨(.array 4 169), 28, 96, [(.int .u8 0), (.int .i64 0), (.int .u8 0), (.int .u8 0), (.int .u8 0), (.int .u8 0), (.int .u8 0), (.int .u8 0), (.int .i64 0), (.int .u8 0), (.int .u8 0), (.int .u8 0), (.int .u8 0), (.int .u8 0), (.int .u8 0), (.int .i64 0), (.int .u8 0), (.int .u8 0), (.int .u8 0), (.int .u8 0), (.int .u8 0), (.int .u8 0), (.int .i64 0), (.int .u8 0), (.int .u8 0), (.int .u8 0), (.int .u8 0), (.int .u8 0)], true⟩
theorem tyOk170 : tyOf Tryz.prog 170 = some ty170 := by kernel_rfl
def ty172 : Ty := ⟨(.struct [(5, 0, true), (5, 1, true), (5, 2, true), (5, 3, true)]), 4, 4, [(.int .u8 0), (.int .u8 0), (.int .u8 0), (.int .u8 0)], true⟩
theorem tyOk172 : tyOf Tryz.prog 172 = some ty172 := by kernel_rfl
def ty174 : Ty := ⟨(.struct [(167, 0, true), (170, 128, true), (172, 156, true)]), 160, 232, [(.int .u8 0), (.int .u8 0), (.int .i8 0), (.bool false), (.int .u8 0), (.int .u8 0), (.int .u8 0), (.int .u8 0), (.int .u8 0), (.int .u8 0), (.int .i8 0), (.bool false), (.int .u8 0), (.int .u8 0), (.int .u8 0), (.int .u8 0), (.int .u8 0), (.int .u8 0), (.int .i8 0), (.bool false), (.int .u8 0), (.int .u8 0), (.int .u8 0), (.int .u8 0), (.int .u8 0), (.int .u8 0), (.int .i8 0), (.bool false), (.int .u8 0), (.int .u8 0), (.int .u8 0), (.int .u8 0), (.int .u8 0), (.int .u8 0), (.int .i8 0), (.bool false), (.int .u8 0), (.int .u8 0), (.int .u8 0), (.int .u8 0), (.int .u8 0), (.int .u8 0), (.int .i8 0), (.bool false), (.int .u8 0), (.int .u8 0), (.int .u8 0), (.int .u8 0), (.int .u8 0), (.int .u8 0), (.int .i8 0), (.bool false), (.int .u8 0), (.int .u8 0), (.int .u8 0), (.int .u8 0), (.int .u8 0), (.int .u8 0), (.int .i8 0), (.bool false), (.int .u8 0), (.int .u8 0), (.int .u8 0), (.int .u8 0), (.int .u8 0), (.int .u8 0), (.int .i8 0), (.bool false), (.int .u8 0), (.int .u8 0), (.int .u8 0), (.int .u8 0), (.int .u8 0), (.int .u8 0), (.int .i8 0), (.bool false), (.int .u8 0), (.int .u8 0), (.int .u8 0), (.int .u8 0), (.int .u8 0), (.int .u8 0), (.int .i8 0), (.bool false), (.int .u8 0), (.int .u8 0), (.int .u8 0), (.int .u8 0), (.int .u8 0), (.int .u8 0), (.int .i8 0), (.bool false), (.int .u8 0), (.int .u8 0), (.int .u8 0), (.int .u8 0), (.int .u8 0), (.int .u8 0), (.int .i8 0), (.bool false), (.int .u8 0), (.int .u8 0), (.int .u8 0), (.int .u8 0), (.int .u8 0), (.int .u8 0), (.int .i8 0), (.bool false), (.int .u8 0), (.int .u8 0), (.int .u8 0), (.int .u8 0), (.int .u8 0), (.int .u8 0), (.int .i8 0), (.bool false), (.int .u8 0), (.int .u8 0), (.int .u8 0), (.int .u8 0), (.int .u8 0), (.int .u8 0), (.int .i8 0), (.bool false), (.int .u8 0), (.int .u8 0), (.int .u8 0), (.int .u8 0), (.int .u8 0), (.int .i64 0), (.int .u8 0), (.int .u8 0), (.int .u8 0), (.int .u8 0), (.int .u8 0), (.int .u8 0), (.int .i64 0), (.int .u8 0), (.int .u8 0), (.int .u8 0), (.int .u8 0), (.int .u8 0), (.int .u8 0), (.int .i64 0), (.int .u8 0), (.int .u8 0), (.int .u8 0), (.int .u8 0), (.int .u8 0), (.int .u8 0), (.int .i64 0)] ++ (List.replicate 9 ([(.int .u8 0)] : List Value)).flatten, true⟩
theorem tyOk174 : tyOf Tryz.prog 174 = some ty174 := by kernel_rfl
def ty180 : Ty := ⟨(.map 5 138), 1, 8, [(.map none)], true⟩
theorem tyOk180 : tyOf Tryz.prog 180 = some ty180 := by kernel_rfl
def ty182 : Ty := ⟨(.struct [(54, 0, true), (69, 585, true), (180, 654, true), (70, 655, true)]), 656, 1304, [(.string ⟨#[]⟩), (.slice none 0 0), (.slice none 0 0), (.slice none 0 0), (.int .u8 0), (.int .u8 0), (.int .u8 0), (.int .u8 0), (.int .u8 0), (.slice none 0 0), (.int .i64 0), (.int .i64 0), (.int .i64 0), (.int .i64 0), (.int .i64 0), (.int .u8 0), (.int .u8 0), (.int .u8 0), (.int .i64 0), (.bool false), (.string ⟨#[]⟩), (.int .u8 0), (.int .u8 0), (.int .u16 0), (.int .u8 0), (.int .u8 0), (.int .u16 0), (.int .u8 0), (.int .u8 0), (.int .u16 0), (.int .u8 0), (.int .u8 0), (.int .u16 0), (.int .u8 0), (.int .u8 0), (.int .u16 0), (.int .u8 0), (.int .u8 0), (.int .u16 0), (.int .u8 0), (.int .u8 0), (.int .u16 0), (.int .u8 0), (.int .u8 0), (.int .u16 0), (.int .u8 0), (.int .u8 0), (.int .u16 0), (.int .u8 0), (.int .u8 0), (.int .u16 0), (.int .u8 0), (.int .u8 0), (.int .u16 0), (.int .u8 0), (.int .u8 0), (.int .u16 0), (.int .u8 0), (.int .u8 0), (.int .u16 0), (.int .u8 0), (.int .u8 0), (.int .u16 0), (.int .u8 0), (.int .u8 0), (.int .u16 0), (.int .u8 0), (.int .u8 0), (.int .u16 0), (.int .u8 0), (.int .u8 0), (.int .u16 0), (.int .u8 0), (.int .u8 0), (.int .u16 0), (.int .u8 0), (.int .u8 0), (.int .u16 0), (.int .u8 0), (.int .u8 0), (.int .u16 0), (.int .u8 0), (.int .u8 0), (.int .u16 0), (.int .u8 0), (.int .u8 0), (.int .u16 0), (.int .u8 0), (.int .u8 0), (.int .u16 0), (.int .u8 0), (.int .u8 0), (.int .u16 0), (.int .u8 0), (.int .u8 0), (.int .u16 0), (.int .u8 0), (.int .u8 0), (.int .u16 0), (.int .u8 0), (.int .u8 0), (.int .u16 0), (.int .u8 0), (.int .u8 0), (.int .u16 0), (.int .u8 0), (.int .u8 0), (.int .u16 0), (.int .u8 0), (.int .u8 0), (.int .u16 0), (.int .u8 0), (.int .u8 0), (.int .u16 0), (.int .u8 0), (.int .u8 0), (.int .u16 0), (.int .u8 0), (.int .u8 0), (.int .u16 0), (.int .u8 0), (.int .u8 0), (.int .u16 0), (.int .u8 0), (.int .u8 0), (.int .u16 0), (.int .u8 0), (.int .u8 0), (.int .u16 0), (.int .u8 0), (.int .u8 0), (.int .u16 0), (.int .u8 0), (.int .u8 0), (.int .u16 0), (.int .u8 0), (.int .u8 0), (.int .u16 0), (.int .u8 0), (.int .u8 0), (.int .u16 0), (.int .u8 0), (.int .u8 0), (.int .u16 0), (.int .u8 0), (.int .u8 0), (.int .u16 0), (.int .u8 0), (.int .u8 0), (.int .u16 0), (.int .u8 0), (.int .u8 0), (.int .u16 0), (.int .u8 0), (.int .u8 0), (.int .u16 0), (.int .u8 0), (.int .u8 0), (.int .u16 0), (.int .u8 0), (.int .u8 0), (.int .u16 0), (.int .u8 0), (.int .u8 0), (.int .u16 0), (.int .u8 0), (.int .u8 0), (.int .u16 0), (.int .u8 0), (.int .u8 0), (.int .u16 0), (.int .u8 0), (.int .u8 0), (.int .u16 0), (.int .u8 0), (.int .u8 0), (.int .u16 0), (.int .u8 0), (.int .u8 0), (.int .u16 0), (.int .u8 0), (.int .u8 0), (.int .u16 0), (.int .u8 0), (.int .u8 0), (.int .u16 0), (.int .u8 0), (.int .u8 0), (.int .u16 0), (.int .u8 0), (.int .u8 0), (.int .u16 0), (.int .u8 0), (.int .u8 0), (.int .u16 0), (.int .u8 0), (.int .u8 0), (.int .u16 0), (.int .u8 0), (.int .u8 0), (.int .u16 0), (.int .u8 0), (.int .u8 0), (.int .u16 0), (.int .u8 0), (.int .u8 0), (.int .u16 0), (.int .u8 0), (.int .u8 0), (.int .u16 0), (.int .u8 0), (.int .u8 0), (.int .u16 0), (.int .u8 0), (.int .u8 0), (.int .u16 0), (.int .u8 0), (.int .u8 0), (.int .u16 0), (.int .u8 0), (.int .u8 0), (.int .u16 0), (.int .u8 0), (.int .u8 0), (.int .u16 0), (.int .u8 0), (.int .u8 0), (.int .u16 0), (.int .u8 0), (.int .u8 0), (.int .u16 0), (.int .u8 0), (.int .u8 0), (.int .u16 0), (.int .u8 0), (.int .u8 0), (.int .u16 0), (.int .u8 0), (.int .u8 0), (.int .u16 0), (.int .u8 0), (.int .u8 0), (.int .u16 0), (.int .u8 0), (.int .u8 0), (.int .u16 0), (.int .u8 0), (.int .u8 0), (.int .u16 0), (.int .u8 0), (.int .u8 0), (.int .u16 0), (.int .u8 0), (.int .u8 0), (.int .u16 0), (.int .u8 0), (.int .u8 0), (.int .u16 0), (.int .u8 0), (.int .u8 0), (.int .u16 0), (.int .u8 0), (.int .u8 0), (.int .u16 0), (.int .u8 0), (.int .u8 0), (.int .u16 0), (.int .u8 0), (.int .u8 0), (.int .u16 0), (.int .u8 0), (.int .u8 0), (.int .u16 0), (.int .u8 0), (.int .u8 0), (.int .u16 0), (.int .u8 0), (.int .u8 0), (.int .u16 0), (.int .u8 0), (.int .u8 0), (.int .u16 0), (.int .u8 0), (.int .u8 0), (.int .u16 0), (.int .u8 0), (.int .u8 0), (.int .u16 0), (.int .u8 0), (.int .u8 0), (.int .u16 0), (.int .u8 0), (.int .u8 0), (.int .u16 0), (.int .u8 0), (.int .u8 0), (.int .u16 0), (.int .u8 0), (.int .u8 0), (.int .u16 0), (.int .u8 0), (.int .u8 0), (.int .u16 0), (.int .u8 0), (.int .u8 0), (.int .u16 0), (.int .u8 0), (.int .u8 0), (.int .u16 0), (.int .u8 0), (.int .u8 0), (.int .u16 0), (.int .u8 0), (.int .u8 0), (.int .u16 0), (.int .u8 0), (.int .u8 0), (.int .u16 0), (.int .u8 0), (.int .u8 0), (.int .u16 0), (.int .u8 0), (.int .u8 0), (.int .u16 0), (.int .u8 0), (.int .u8 0), (.int .u16 0), (.int .u8 0), (.int .u8 0), (.int .u16 0), (.int .u8 0), (.int .u8 0), (.int .u16 0), (.int .u8 0), (.int .u8 0), (.int .u16 0), (.int .u8 0), (.int .u8 0), (.int .u16 0), (.int .u8 0), (.int .u8 0), (.int .u16 0), (.int .u8 0), (.int .u8 0), (.int .u16 0), (.int .u8 0), (.int .u8 0), (.int .u16 0), (.int .u8 0), (.int .u8 0), (.int .u16 0), (.int .u8 0), (.int .u8 0), (.int .u16 0), (.int .u8 0), (.int .u8 0), (.int .u16 0), (.int .u8 0), (.int .u8 0), (.int .u16 0), (.int .u8 0), (.int .u8 0), (.int .u16 0), (.int .u8 0), (.int .u8 0), (.int .u16 0), (.int .u8 0), (.int .u8 0), (.int .u16 0), (.int .u8 0), (.int .u8 0), (.int .u16 0), (.int .u8 0), (.int .u8 0), (.int .u16 0), (.int .u8 0), (.int .u8 0), (.int .u16 0), (.int .u8 0), (.int .u8 0), (.int .u16 0), (.int .u8 0), (.int .u8 0), (.int .u16 0), (.int .u8 0), (.int .u8 0), (.int .u16 0), (.int .u8 0), (.int .u8 0), (.int .u16 0), (.int .u8 0), (.int .u8 0), (.int .u16 0), (.int .u8 0), (.int .u8 0), (.int .u16 0), (.int .u8 0), (.int .u8 0), (.int .u16 0), (.int .u8 0), (.int .u8 0), (.int .u16 0), (.int .u8 0), (.int .u8 0), (.int .u16 0), (.int .u8 0), (.int .u8 0), (.int .u16 0), (.int .u8 0), (.int .u8 0), (.int .u16 0), (.int .u8 0), (.int .u8 0), (.int .u16 0), (.int .u8 0), (.int .u8 0), (.int .u16 0), (.int .u8 0), (.int .u8 0), (.int .u16 0), (.int .u8 0), (.int .u8 0), (.int .u16 0), (.int .u8 0), (.int .u8 0), (.int .u16 0), (.int .u8 0), (.int .u8 0), (.int .u16 0), (.int .u8 0), (.int .u8 0), (.int .u16 0), (.int .u8 0), (.int .u8 0), (.int .u16 0), (.int .u8 0), (.int .u8 0), (.int .u16 0), (.int .u8 0), (.int .u8 0), (.int .u16 0), (.int .u8 0), (.int .u8 0), (.int .u16 0), (.int .u8 0), (.int .u8 0), (.int .u16 0), (.int .u8 0), (.int .u8 0), (.int .u16 0), (.int .u8 0), (.int .u8 0), (.int .u16 0), (.int .u8 0), (.int .u8 0), (.int .u16 0), (.int .u8 0), (.int .u8 0), (.int .u16 0), (.int .u8 0), (.int .u8 0), (.int .u16 0), (.int .u8 0), (.int .u8 0), (.int .u16 0), (.int .u8 0), (.int .u8 0), (.int .u16 0), (.int .u8 0), (.int .u8 0), (.int .u16 0), (.int .u8 0), (.int .u8 0), (.int .u16 0), (.int .u8 0), (.int .u8 0), (.int .u16 0), (.int .u8 0), (.int .u8 0), (.int .u16 0), (.int .u8 0), (.int .u8 0), (.int .u16 0), (.int .u8 0), (.int .u8 0), (.int .u16 0), (.int .u8 0), (.int .u8 0), (.int .u16 0), (.int .u8 0), (.int .u8 0), (.int .u16 0), (.int .u8 0), (.int .u8 0), (.int .u16 0), (.int .u8 0), (.int .u8 0), (.int .u16 0), (.int .u8 0), (.int .u8 0), (.int .u16 0), (.int .u8 0), (.int .u8 0), (.int .u16 0), (.int .u8 0), (.int .u8 0), (.int .u16 0), (.int .u8 0), (.int .u8 0), (.int .u16 0), (.int .u8 0), (.int .u8 0), (.int .u16 0), (.int .u8 0), (.int .u8 0), (.int .u16 0), (.int .u8 0), (.int .u8 0), (.int .u16 0), (.int .u8 0), (.int .u8 0), (.int .u16 0), (.int .u8 0), (.int .u8 0), (.int .u16 0), (.int .u8 0), (.int .u8 0), (.int .u16 0), (.int .u8 0), (.int .u8 0), (.int .u16 0), (.int .u8 0), (.int .u8 0), (.int .u16 0), (.int .u8 0), (.int .u8 0), (.int .u16 0), (.int .u8 0), (.int .u8 0), (.int .u16 0), (.int .u8 0), (.int .u8 0), (.int .u16 0), (.int .u8 0), (.int .u8 0), (.int .u16 0), (.int .u8 0), (.int .u8 0), (.int .u16 0), (.int .u8 0), (.int .u8 0), (.int .u16 0), (.int .u8 0), (.int .u8 0), (.int .u16 0), (.int .u8 0), (.int .u8 0), (.int .u16 0), (.int .u8 0), (.int .u8 0), (.int .u16 0), (.int .u8 0), (.int .u8 0), (.int .u16 0), (.int .u8 0), (.int .u8 0), (.int .u16 0), (.int .u8 0), (.int .u8 0), (.int .u16 0), (.int .u8 0), (.int .u8 0), (.int .u16 0), (.int .u8 0), (.int .u8 0), (.int .u16 0), (.int .u8 0), (.int .u8 0), (.int .u16 0), (.int .u8 0), (.int .u8 0), (.int .u16 0), (.int .u8 0), (.int .u8 0), (.int .u16 0), (.slice none 0 0), (.slice none 0 0), (.int .u8 0), (.int .u8 0), (.int .u8 0), (.int .u64 0), (.bool false), (.int .u8 0), (.int .u8 0), (.int .u8 0), (.int .u8 0), (.int .u8 0), (.int .u8 0), (.int .u8 0), (.int .u8 0), (.int .u8 0), (.int .u64 0), (.bool false), (.int .u8 0), (.int .u8 0), (.int .u8 0), (.int .u8 0), (.int .u8 0), (.int .u8 0), (.int .u8 0), (.int .u8 0), (.int .u8 0), (.int .u64 0), (.bool false), (.int .u8 0), (.int .u8 0), (.int .u8 0), (.int .u8 0), (.int .u8 0), (.int .u8 0), (.int .u8 0), (.int .u8 0), (.int .u8 0), (.int .u64 0), (.bool false), (.int .u8 0), (.int .u8 0), (.int .u8 0), (.int .u8 0), (.int .u8 0), (.int .u8 0), (.int .u8 0), (.int .u8 0), (.int .u8 0), (.int .u64 0), (.bool false), (.int .u8 0), (.int .u8 0), (.int .u8 0), (.int .u8 0), (.int .u8 0), (.int .u8 0), (.int .u8 0), (.int .u8 0), (.int .u8 0), (.int .u64 0), (.bool false), (.int .u8 0), (.int .u8 0), (.int .u8 0), (.int .u8 0), (.int .u8 0), (.int .u8 0), (.slice none 0 0), (.map none), (.slice none 0 0)], true⟩
theorem tyOk182 : tyOf Tryz.prog 182 = some ty182 := by kernel_rfl
def ty183 : Ty := ⟨(.array 3 5), 3, 3, [(.int .u8 0), (.int .u8 0), (.int .u8 0)], true⟩
theorem tyOk183 : tyOf Tryz.prog 183 = some ty183 := by kernel_rfl
def ty194 : Ty := ⟨(.array 13 5), 13, 13, [(.int .u8 0), (.int .u8 0), (.int .u8 0), (.int .u8 0), (.int .u8 0), (.int .u8 0), (.int .u8 0), (.int .u8 0), (.int .u8 0), (.int .u8 0), (.int .u8 0), (.int .u8 0), (.int .u8 0)], true⟩
theorem tyOk194 : tyOf Tryz.prog 194 = some ty194 := by kernel_rfl
def ty204 : Ty := ⟨(.struct [(41, 0, true)]), 5, 40, [(.int .i64 0), (.int .i64 0), (.int .i64 0), (.int .i64 0), (.int .i64 0)], true⟩
theorem tyOk204 : tyOf Tryz.prog 204 = some ty204 := by kernel_rfl
def ty226 : Ty := ⟨.func, 1, 8, [.nilFunc], true⟩
theorem tyOk226 : tyOf Tryz.prog 226 = some ty226 := by kernel_rfl
def ty242 : Ty := ⟨(.struct [(5, 0, true), (5, 1, true)]), 2, 2, [(.int .u8 0), (.int .u8 0)], true⟩
theorem tyOk242 : tyOf Tryz.prog 242 = some ty242 := by kernel_rfl
def ty258 : Ty := ⟨(.slice 262), 1, 24, [(.slice none 0 0)], true⟩
theorem tyOk258 : tyOf Tryz.prog 258 = some ty258 := by kernel_rfl
def ty260 : Ty := ⟨(.ptr 39), 1, 8, [(.pointer none)], true⟩
theorem tyOk260 : tyOf Tryz.prog 260 = some ty260 := by kernel_rfl
def ty262 : Ty := ⟨(.struct [(27, 0, true), (23, 1, true)]), 2, 16, [(.int .i64 0), .nilFunc], true⟩
theorem tyOk262 : tyOf Tryz.prog 262 = some ty262 := by kernel_rfl
def ty263 : Ty := ⟨(.array 5 3), 5, 40, [(.int .i64 0), (.int .i64 0), (.int .i64 0), (.int .i64 0), (.int .i64 0)], true⟩
theorem tyOk263 : tyOf Tryz.prog 263 = some ty263 := by kernel_rfl
def ty267 : Ty := ⟨(.int .i64), 1, 8, [(.int .i64 0)], true⟩
theorem tyOk267 : tyOf Tryz.prog 267 = some ty267 := by kernel_rfl
def ty269 : Ty := ⟨(.struct [(9, 0, true), (267, 1, true), (267, 2, true), (267, 3, true)]), 4, 40, [(.string ⟨#[]⟩), (.int .i64 0), (.int .i64 0), (.int .i64 0)], true⟩
theorem tyOk269 : tyOf Tryz.prog 269 = some ty269 := by kernel_rfl
def ty271 : Ty := ⟨(.struct [(269, 0, true), (3, 4, true), (3, 5, true)]), 6, 56, [(.string ⟨#[]⟩), (.int .i64 0), (.int .i64 0), (.int .i64 0), (.int .i64 0), (.int .i64 0)], true⟩
theorem tyOk271 : tyOf Tryz.prog 271 = some ty271 := by kernel_rfl
def ty281 : Ty := ⟨(.struct [(161, 0, true), (104, 12, true), (103, 13, true)]), 23, 88, [(.int .u8 0), (.int .u8 0), (.int .u8 0), (.int .u8 0), (.int .u8 0), (.int .u8 0), (.int .u8 0), (.int .u8 0), (.int .u8 0), (.slice none 0 0), (.bool false), (.bool false), (.slice none 0 0), (.int .u8 0), (.int .u8 0), (.int .u8 0), (.bool false), (.int .u8 0), (.bool false), (.int .u8 0), (.int .u8 0), (.int .u8 0), (.int .u8 0)], true⟩
theorem tyOk281 : tyOf Tryz.prog 281 = some ty281 := by kernel_rfl
def ty282 : Ty := ⟨.func, 1, 8, [.nilFunc], true⟩
theorem tyOk282 : tyOf Tryz.prog 282 = some ty282 := by kernel_rfl
def ty284 : Ty := ⟨(.ptr 281), 1, 8, [(.pointer none)], true⟩
theorem tyOk284 : tyOf Tryz.prog 284 = some ty284 := by kernel_rfl
def ty285 : Ty := ⟨(.map 5 282), 1, 8, [(.map none)], true⟩
theorem tyOk285 : tyOf Tryz.prog 285 = some ty285 := by kernel_rfl
def ty294 : Ty := ⟨.func, 1, 8, [.nilFunc], true⟩
theorem tyOk294 : tyOf Tryz.prog 294 = some ty294 := by kernel_rfl
def ty297 : Ty := ⟨(.ptr 309), 1, 8, [(.pointer none)], true⟩
theorem tyOk297 : tyOf Tryz.prog 297 = some ty297 := by kernel_rfl
def ty300 : Ty := ⟨(.struct [(5, 0, true), (172, 1, true), (5, 5, true), (5, 6, true)]), 7, 7, [(.int .u8 0), (.int .u8 0), (.int .u8 0), (.int .u8 0), (.int .u8 0), (.int .u8 0), (.int .u8 0)], true⟩
theorem tyOk300 : tyOf Tryz.prog 300 = some ty300 := by kernel_rfl
def ty309 : Ty := ⟨(.struct [(174, 0, true), (41, 160, true), (5, 165, true), (165, 166, true), (5, 174, true), (77, 175, true), (4, 186, true), (4, 187, true), (4, 188, true), (67, 189, true), (70, 190, true)]), 191, 344, [(.int .u8 0), (.int .u8 0), (.int .i8 0), (.bool false), (.int .u8 0), (.int .u8 0), (.int .u8 0), (.int .u8 0), (.int .u8 0), (.int .u8 0), (.int .i8 0), (.bool false), (.int .u8 0), (.int .u8 0), (.int .u8 0), (.int .u8 0), (.int .u8 0), (.int .u8 0), (.int .i8 0), (.bool false), (.int .u8 0), (.int .u8 0), (.int .u8 0), (.int .u8 0), (.int .u8 0), (.int .u8 0), (.int .i8 0), (.bool false), (.int .u8 0), (.int .u8 0), (.int .u8 0), (.int .u8 0), (.int .u8 0), (.int .u8 0), (.int .i8 0), (.bool false), (.int .u8 0), (.int .u8 0), (.int .u8 0), (.int .u8 0), (.int .u8 0), (.int .u8 0), (.int .i8 0), (.bool false), (.int .u8 0), (.int .u8 0), (.int .u8 0), (.int .u8 0), (.int .u8 0), (.int .u8 0), (.int .i8 0), (.bool false), (.int .u8 0), (.int .u8 0), (.int .u8 0), (.int .u8 0), (.int .u8 0), (.int .u8 0), (.int .i8 0), (.bool false), (.int .u8 0), (.int .u8 0), (.int .u8 0), (.int .u8 0), (.int .u8 0), (.int .u8 0), (.int .i8 0), (.bool false), (.int .u8 0), (.int .u8 0), (.int .u8 0), (.int .u8 0), (.int .u8 0), (.int .u8 0), (.int .i8 0), (.bool false), (.int .u8 0), (.int .u8 0), (.int .u8 0), (.int .u8 0), (.int .u8 0), (.int .u8 0), (.int .i8 0), (.bool false), (.int .u8 0), (.int .u8 0), (.int .u8 0), (.int .u8 0), (.int .u8 0), (.int .u8 0), (.int .i8 0), (.bool false), (.int .u8 0), (.int .u8 0), (.int .u8 0), (.int .u8 0), (.int .u8 0), (.int .u8 0), (.int .i8 0), (.bool false), (.int .u8 0), (.int .u8 0), (.int .u8 0), (.int .u8 0), (.int .u8 0), (.int .u8 0), (.int .i8 0), (.bool false), (.int .u8 0), (.int .u8 0), (.int .u8 0), (.int .u8 0), (.int .u8 0), (.int .u8 0), (.int .i8 0), (.bool false), (.int .u8 0), (.int .u8 0), (.int .u8 0), (.int .u8 0), (.int .u8 0), (.int .u8 0), (.int .i8 0), (.bool false), (.int .u8 0), (.int .u8 0), (.int .u8 0), (.int .u8 0), (.int .u8 0), (.int .i64 0), (.int .u8 0), (.int .u8 0), (.int .u8 0), (.int .u8 0), (.int .u8 0), (.int .u8 0), (.int .i64 0), (.int .u8 0), (.int .u8 0), (.int .u8 0), (.int .u8 0), (.int .u8 0), (.int .u8 0), (.int .i64 0), (.int .u8 0), (.int .u8 0), (.int .u8 0), (.int .u8 0), (.int .u8 0), (.int .u8 0), (.int .i64 0), (.int .u8 0), (.int .u8 0), (.int .u8 0), (.int .u8 0), (.int .u8 0), (.int .u8 0), (.int .u8 0), (.int .u8 0), (.int .u8 0), (.int .i64 0), (.int .i64 0), (.int .i64 0), (.int .i64 0), (.int .i64 0), (.int .u8 0), (.int .u8 0), (.int .u8 0), (.int .i8 0), (.bool false), (.int .u8 0), (.int .u8 0), (.int .u8 0), (.int .u8 0), (.int .u8 0), (.int .u8 0), (.int .u8 0), (.int .u8 0), (.int .u8 0), (.int .u8 0), (.int .u8 0), (.bool false), (.int .u8 0), (.int .u8 0), (.int .u8 0), (.int .u8 0), (.bool false), (.bool false), (.bool false), (.slice none 0 0), (.slice none 0 0)], true⟩
theorem tyOk309 : tyOf Tryz.prog 309 = some ty309 := by kernel_rfl
def ty316 : Ty := ⟨(.struct [(65, 0, true), (41, 11, true), (5, 16, true), (77, 17, true), (5, 28, true), (67, 29, true)]), 30, 120, [(.int .u8 0), (.int .u8 0), (.int .u8 0), (.int .u64 0), (.bool false), (.int .u8 0), (.int .u8 0), (.int .u8 0), (.int .u8 0), (.int .u8 0), (.int .u8 0), (.int .i64 0), (.int .i64 0), (.int .i64 0), (.int .i64 0), (.int .i64 0), (.int .u8 0), (.int .u8 0), (.int .u8 0), (.int .u8 0), (.int .u8 0), (.int .u8 0), (.int .u8 0), (.bool false), (.int .u8 0), (.int .u8 0), (.int .u8 0), (.int .u8 0), (.int .u8 0), (.slice none 0 0)], true⟩
theorem tyOk316 : tyOf Tryz.prog 316 = some ty316 := by kernel_rfl
def ty318 : Ty := ⟨(.map 183 3), 1, 8, [(.map none)], true⟩
theorem tyOk318 : tyOf Tryz.prog 318 = some ty318 := by kernel_rfl
def ty335 : Ty := ⟨.func, 1, 8, [.nilFunc], true⟩
theorem tyOk335 : tyOf Tryz.prog 335 = some ty335 := by kernel_rfl
def ty336 : Ty := ⟨.func, 1, 8, [.nilFunc], true⟩
theorem tyOk336 : tyOf Tryz.prog 336 = some ty336 := by kernel_rfl
def ty342 : Ty := ⟨.func, 1, 8, [.nilFunc], true⟩
theorem tyOk342 : tyOf Tryz.prog 342 = some ty342 := by kernel_rfl
def ty344 : Ty := ⟨(.struct [(41, 0, true)]), 5, 40, [(.int .i64 0), (.int .i64 0), (.int .i64 0), (.int .i64 0), (.int .i64 0)], true⟩
theorem tyOk344 : tyOf Tryz.prog 344 = some ty344 := by kernel_rfl
def ty346 : Ty := ⟨(.ptr 174), 1, 8, [(.pointer none)], true⟩
theorem tyOk346 : tyOf Tryz.prog 346 = some ty346 := by kernel_rfl
def ty353 : Ty := ⟨.func, 1, 8, [.nilFunc], true⟩
theorem tyOk353 : tyOf Tryz.prog 353 = some ty353 := by kernel_rfl
def ty354 : Ty := ⟨(.array 10 353), 10, 80, [.nilFunc, .nilFunc, .nilFunc, .nilFunc, .nilFunc, .nilFunc, .nilFunc, .nilFunc, .nilFunc, .nilFunc], true⟩
theorem tyOk354 : tyOf Tryz.prog 354 = some ty354 := by kernel_rfl
def ty357 : Ty := ⟨(.slice 67), 1, 24, [(.slice none 0 0)], true⟩
theorem tyOk357 : tyOf Tryz.prog 357 = some ty357 := by kernel_rfl
def ty360 : Ty := ⟨(.ptr 316), 1, 8, [(.pointer none)], true⟩
theorem tyOk360 : tyOf Tryz.prog 360 = some ty360 := by kernel_rfl
def ty361 : Ty := ⟨.func, 1, 8, [.nilFunc], true⟩
theorem tyOk361 : tyOf Tryz.prog 361 = some ty361 := by kernel_rfl
def ty362 : Ty := ⟨(.array 15 361), 15, 120, [.nilFunc, .nilFunc, .nilFunc, .nilFunc, .nilFunc, .nilFunc, .nilFunc, .nilFunc, .nilFunc, .nilFunc, .nilFunc, .nilFunc, .nilFunc, .nilFunc, .nilFunc], true⟩
theorem tyOk362 : tyOf Tryz.prog 362 = some ty362 := by kernel_rfl
def ty367 : Ty := ⟨(.slice 372), 1, 24, [(.slice none 0 0)], true⟩
theorem tyOk367 : tyOf Tryz.prog 367 = some ty367 := by kernel_rfl
def ty370 : Ty := ⟨(.int .u8), 1, 1, [(.int .u8 0)], true⟩
theorem tyOk370 : tyOf Tryz.prog 370 = some ty370 := by kernel_rfl
def ty372 : Ty := ⟨(.struct [(370, 0, true), (9, 1, true), (3, 2, true)]), 3, 32, [(.int .u8 0), (.string ⟨#[]⟩), (.int .i64 0)], true⟩
theorem tyOk372 : tyOf Tryz.prog 372 = some ty372 := by kernel_rfl
def ty375 : Ty := ⟨(.struct [(103, 0, true), (3, 10, true), (3, 11, true)]), 12, 32, [(.int .u8 0), (.int .u8 0), (.int .u8 0), (.bool false), (.int .u8 0), (.bool false), (.int .u8 0), (.int .u8 0), (.int .u8 0), (.int .u8 0), (.int .i64 0), (.int .i64 0)], true⟩
theorem tyOk375 : tyOf Tryz.prog 375 = some ty375 := by kernel_rfl
def ty376 : Ty := ⟨(.slice 23), 1, 24, [(.slice none 0 0)], true⟩
theorem tyOk376 : tyOf Tryz.prog 376 = some ty376 := by kernel_rfl
def ty379 : Ty := ⟨(.ptr 37), 1, 8, [(.pointer none)], true⟩
theorem tyOk379 : tyOf Tryz.prog 379 = some ty379 := by kernel_rfl
def ty380 : Ty := ⟨.func, 1, 8, [.nilFunc], true⟩
theorem tyOk380 : tyOf Tryz.prog 380 = some ty380 := by kernel_rfl
def ty381 : Ty := ⟨.func, 1, 8, [.nilFunc], true⟩
theorem tyOk381 : tyOf Tryz.prog 381 = some ty381 := by kernel_rfl
def ty383 : Ty := ⟨(.struct [(380, 0, true), (380, 1, true), (381, 2, true)]), 3, 24, [.nilFunc, .nilFunc, .nilFunc], true⟩
theorem tyOk383 : tyOf Tryz.prog 383 = some ty383 := by kernel_rfl
def ty385 : Ty := ⟨(.map 5 383), 1, 8, [(.map none)], true⟩
theorem tyOk385 : tyOf Tryz.prog 385 = some ty385 := by kernel_rfl
def ty390 : Ty := ⟨(.struct [(169, 0, true)]), 7, 24, [(.int .u8 0), (.int .i64 0), (.int .u8 0), (.int .u8 0), (.int .u8 0), (.int .u8 0), (.int .u8 0)], true⟩
theorem tyOk390 : tyOf Tryz.prog 390 = some ty390 := by kernel_rfl
def ty404 : Ty := ⟨(.struct [(9, 0, true), (3, 1, true)]), 2, 24, [(.string ⟨#[]⟩), (.int .i64 0)], true⟩
theorem tyOk404 : tyOf Tryz.prog 404 = some ty404 := by kernel_rfl
def ty406 : Ty := ⟨(.struct [(404, 0, true), (4, 2, true)]), 3, 32, [(.string ⟨#[]⟩), (.int .i64 0), (.bool false)], true⟩
theorem tyOk406 : tyOf Tryz.prog 406 = some ty406 := by kernel_rfl
def ty411 : Ty := ⟨(.ptr 375), 1, 8, [(.pointer none)], true⟩
theorem tyOk411 : tyOf Tryz.prog 411 = some ty411 := by kernel_rfl
def ty421 : Ty := ⟨.func, 1, 8, [.nilFunc], true⟩
theorem tyOk421 : tyOf Tryz.prog 421 = some ty421 := by kernel_rfl
def ty423 : Ty := ⟨(.map 5 421), 1, 8, [(.map none)], true⟩
theorem tyOk423 : tyOf Tryz.prog 423 = some ty423 := by kernel_rfl
def ty426 : Ty := ⟨(.struct [(61, 0, true)]), 3, 24, [(.int .u8 0), (.int .u64 0), (.bool false)], true⟩
theorem tyOk426 : tyOf Tryz.prog 426 = some ty426 := by kernel_rfl
def ty427 : Ty := ⟨(.ptr 406), 1, 8, [(.pointer none)], true⟩
theorem tyOk427 : tyOf Tryz.prog 427 = some ty427 := by kernel_rfl
def ty432 : Ty := ⟨(.array 9 5), 9, 9, [(.int .u8 0), (.int .u8 0), (.int .u8 0), (.int .u8 0), (.int .u8 0), (.int .u8 0), (.int .u8 0), (.int .u8 0), (.int .u8 0)], true⟩
theorem tyOk432 : tyOf Tryz.prog 432 = some ty432 := by kernel_rfl
def ty439 : Ty := ⟨(.ptr 404), 1, 8, [(.pointer none)], true⟩
theorem tyOk439 : tyOf Tryz.prog 439 = some ty439 := by kernel_rfl
def passing : List Nat := [11, 12, 17, 20, 21, 22, 24, 26, 29, 30, 31, 34, 41, 42, 45, 47, 48, 49, 52, 53, 54, 56, 57, 70, 71, 72, 73, 74, 83, 84, 85, 86, 87, 88, 91, 92, 98, 99, 100, 106, 115, 119, 120, 122, 126, 129, 130, 134, 137, 140, 142, 144, 163, 164, 166, 168, 170, 173, 176, 177, 178, 179, 180, 181, 183, 188, 190, 191, 192, 193, 194, 197, 198, 205, 206, 221, 222, 224, 225, 226, 228, 229, 231, 232, 234, 238, 241, 244, 248, 249, 250, 251, 254, 255, 256, 257, 258, 259, 260, 261, 262, 263, 264, 265, 266, 267, 268, 275, 276, 279, 280, 282, 283, 284, 285, 286, 287, 288, 289, 290, 291, 292, 296, 297, 298, 299, 302, 307, 308, 309, 310, 311, 312, 313, 315, 316, 317, 319, 322, 323, 325, 326, 333, 334, 336, 338, 342, 343, 344, 345, 347, 349, 350, 351]
def kpL (a b : List Nat) (l : List (List Nat)) (i : Nat) : List Nat := bif Nat.beq i 1000000 then a else bif Nat.beq i 2000000 then b else l.getD i []
/-- A body in short, computed. -/
structure Got (a : M) where
 m : M
 h : a = m
def bodyOf (f : Func) : Code := f.body.getD .skip
/-- The bodies of a body's loops, in the order in which they open. -/
def loopsM : M → List M
 | .seq a b => loopsM a ++ loopsM b
 | .cond _ a b => loopsM a ++ loopsM b
 | .block _ a => loopsM a
 | .loop a => a :: loopsM a
 | .rf _ _ _ _ a b => (a :: loopsM a) ++ (b :: loopsM b)
 | _ => []
/- seisin/seisinlaw34.WalkTexts -/
def g3 : Got (cmp 23 (kpL passing [] [[0, 1], [0, 1], [], [0, 1]]) (bodyOf Tryz.f3)) := by
 refine ⟨?m, ?h⟩
 case h => conv => lhs; cbv
def m3 : M := g3.m
def fn3 : MFn := ⟨23, [.tmp 4], m3, .shut⟩
theorem fnOk3 : FnOk Tryz.prog 3 fn3 := ⟨Tryz.f3, _, _, Tryz.func3, rfl, rfl, by kernel_rfl, by kernel_rfl, g3.h⟩
/- seisin/seisinlaw34.WalkReads -/
def g4 : Got (cmp 96 (kpL passing [] [[0], [0], [], [0], [], [0], [0, 3, 4, 5], [0, 3, 4], [0, 4, 6, 7], [0, 3, 4, 5], [0, 3, 4, 5, 8, 9], [0, 3, 4, 5, 8, 9, 10], [0, 3, 4, 5, 8, 9, 10], [0, 3, 4, 5, 8, 9, 10], [0, 3, 4, 5, 9, 10], [0, 3, 4, 5, 9, 10], [0, 3, 4, 5, 8, 9], [0, 3, 4, 5, 8, 9, 13]]) (bodyOf Tryz.f4)) := by
 refine ⟨?m, ?h⟩
 case h => conv => lhs; cbv
def m4 : M := g4.m
def fn4 : MFn := ⟨96, [.tmp 2], m4, .shut⟩
theorem fnOk4 : FnOk Tryz.prog 4 fn4 := ⟨Tryz.f4, _, _, Tryz.func4, rfl, rfl, by kernel_rfl, by kernel_rfl, g4.h⟩
def g4_l0 : Got ((loopsM m4).getD 0 .bad) := by
 refine ⟨?m, ?h⟩
 case h => conv => lhs; cbv
def m4_l0 : M := g4_l0.m
theorem u4_l0 {C : Ctx} {k : List It} {st : St} {Q : Ex → St → Prop} : RunK C (.code m4_l0 :: k) st Q ↔ RunK C (.code g4_l0.m :: k) st Q := Iff.rfl
/- seisin/seisinlaw34.awake -/
def g5 : Got (cmp 43 (kpL passing [] [[], [], [1], [1, 2], [1, 2, 3, 4], [2, 3, 4, 5]]) (bodyOf Tryz.f5)) := by
 refine ⟨?m, ?h⟩
 case h => conv => lhs; cbv
def m5 : M := g5.m
def fn5 : MFn := ⟨43, [.tmp 0], m5, .shut⟩
theorem fnOk5 : FnOk Tryz.prog 5 fn5 := ⟨Tryz.f5, _, _, Tryz.func5, rfl, rfl, by kernel_rfl, by kernel_rfl, g5.h⟩
/- seisin/seisinlaw34.texts -/
def g6 : Got (cmp 25 (kpL passing [] [[0], [0], [0, 3, 4], [3, 4, 5, 6]]) (bodyOf Tryz.f6)) := by
 refine ⟨?m, ?h⟩
 case h => conv => lhs; cbv
def m6 : M := g6.m
def fn6 : MFn := ⟨25, [.tmp 2], m6, .shut⟩
theorem fnOk6 : FnOk Tryz.prog 6 fn6 := ⟨Tryz.f6, _, _, Tryz.func6, rfl, rfl, by kernel_rfl, by kernel_rfl, g6.h⟩
/- seisin/seisinlaw34.reads -/
def g7 : Got (cmp 34 (kpL passing [] [[0], [0], [0, 3, 4, 5], [3, 4, 5, 6, 7, 8]]) (bodyOf Tryz.f7)) := by
 refine ⟨?m, ?h⟩
 case h => conv => lhs; cbv
def m7 : M := g7.m
def fn7 : MFn := ⟨34, [.tmp 2], m7, .shut⟩
theorem fnOk7 : FnOk Tryz.prog 7 fn7 := ⟨Tryz.f7, _, _, Tryz.func7, rfl, rfl, by kernel_rfl, by kernel_rfl, g7.h⟩
/- seisin/walk.Read -/
def g8 : Got (cmp 34 (kpL passing [2, 3, 4, 5, 6] [[0], [0, 2, 3, 4], [0, 2, 3, 4, 5], [0, 2, 3, 4, 5, 6], [2, 3, 4, 5, 6, 13, 14], [2, 3, 4, 5, 6, 7, 14], [2, 3, 4, 5, 6, 7, 8], [2, 3, 4, 5, 6, 7, 8], [2, 3, 4, 5, 6, 8, 9, 10], [2, 3, 4, 6], [5, 9], [2, 3, 4, 5]]) (bodyOf Tryz.f8)) := by
 refine ⟨?m, ?h⟩
 case h => conv => lhs; reduce
def m8 : M := g8.m
def fn8 : MFn := ⟨34, [.cell 2 22, .cell 3 3, .cell 4 27], m8, .shut⟩
theorem fnOk8 : FnOk Tryz.prog 8 fn8 := ⟨Tryz.f8, _, _, Tryz.func8, rfl, rfl, by kernel_rfl, by kernel_rfl, g8.h⟩
def g8_l0 : Got ((loopsM m8).getD 0 .bad) := by
 refine ⟨?m, ?h⟩
 case h => conv => lhs; cbv
def m8_l0 : M := g8_l0.m
theorem u8_l0 {C : Ctx} {k : List It} {st : St} {Q : Ex → St → Prop} : RunK C (.code m8_l0 :: k) st Q ↔ RunK C (.code g8_l0.m :: k) st Q := Iff.rfl
def g8_l1 : Got ((loopsM m8).getD 1 .bad) := by
 refine ⟨?m, ?h⟩
 case h => conv => lhs; cbv
def m8_l1 : M := g8_l1.m
theorem u8_l1 {C : Ctx} {k : List It} {st : St} {Q : Ex → St → Prop} : RunK C (.code m8_l1 :: k) st Q ↔ RunK C (.code g8_l1.m :: k) st Q := Iff.rfl
/- seisin/walk.Text -/
def g9 : Got (cmp 27 (kpL passing [] [[0], [0], [0, 4], [4, 9, 10, 11], [4, 9, 10, 11], [4, 6, 9, 10, 11], [4, 7, 8, 9, 10, 11], [], [4, 7, 9, 10, 11], [4, 9, 10, 11], [4, 9, 10, 11], [4]]) (bodyOf Tryz.f9)) := by
 refine ⟨?m, ?h⟩
 case h => conv => lhs; cbv
def m9 : M := g9.m
def fn9 : MFn := ⟨27, [.tmp 2, .tmp 3], m9, .shut⟩
theorem fnOk9 : FnOk Tryz.prog 9 fn9 := ⟨Tryz.f9, _, _, Tryz.func9, rfl, rfl, by kernel_rfl, by kernel_rfl, g9.h⟩
def g9_l0 : Got ((loopsM m9).getD 0 .bad) := by
 refine ⟨?m, ?h⟩
 case h => conv => lhs; cbv
def m9_l0 : M := g9_l0.m
theorem u9_l0 {C : Ctx} {k : List It} {st : St} {Q : Ex → St → Prop} : RunK C (.code m9_l0 :: k) st Q ↔ RunK C (.code g9_l0.m :: k) st Q := Iff.rfl
/- seisin/seisinlaw34.small -/
def g10 : Got (cmp 21 (kpL passing [] [[0], [0, 2], [2, 3]]) (bodyOf Tryz.f10)) := by
 refine ⟨?m, ?h⟩
 case h => conv => lhs; cbv
def m10 : M := g10.m
def fn10 : MFn := ⟨21, [.cell 2 54], m10, .shut⟩
theorem fnOk10 : FnOk Tryz.prog 10 fn10 := ⟨Tryz.f10, _, _, Tryz.func10, rfl, rfl, by kernel_rfl, by kernel_rfl, g10.h⟩
/- seisin/walk.Play -/
def g11 : Got (cmp 64 (kpL passing [] [[0, 1], [1, 2, 4], [1, 2, 4, 5], [4, 5], [1, 2, 4, 5], [2, 4, 5, 26, 27, 28], [2, 4, 5, 26, 27, 28], [2, 4, 5, 7, 26, 27, 28], [2, 4, 5, 7, 8, 26, 27, 28], [2, 4, 5, 7, 8, 26, 27, 28], [2, 4, 5, 8, 9, 26, 27, 28], [2, 4, 5, 8, 9, 26, 27, 28], [2, 4, 5, 8, 9, 26, 27, 28], [2, 4, 5, 26, 27, 28], [4, 5]]) (bodyOf Tryz.f11)) := by
 refine ⟨?m, ?h⟩
 case h => conv => lhs; reduce
def m11 : M := g11.m
def fn11 : MFn := ⟨64, [.cell 4 72], m11, .pass⟩
theorem fnOk11 : FnOk Tryz.prog 11 fn11 := ⟨Tryz.f11, _, _, Tryz.func11, rfl, rfl, by kernel_rfl, by kernel_rfl, g11.h⟩
/- seisin/walk.Shrink -/
def g12 : Got (cmp 43 (kpL passing [] [[0, 1, 2], [1, 3, 5], [], [1, 3, 5], [1, 7], [7, 8], [], [7, 8], [7, 8, 9], [7, 8], [7, 8, 9], [7, 8, 9, 10], [7, 8, 9, 10], [7, 8, 9, 10], [7, 8, 9, 10, 11], [7, 10, 11], [8]]) (bodyOf Tryz.f12)) := by
 refine ⟨?m, ?h⟩
 case h => conv => lhs; reduce
def m12 : M := g12.m
def fn12 : MFn := ⟨43, [.tmp 6], m12, .pass⟩
theorem fnOk12 : FnOk Tryz.prog 12 fn12 := ⟨Tryz.f12, _, _, Tryz.func12, rfl, rfl, by kernel_rfl, by kernel_rfl, g12.h⟩
/- seisin/seisinlaw34.awake$1 -/
def g13 : Got (cmp 17 (kpL passing [] [[0], [1]]) (bodyOf Tryz.f13)) := by
 refine ⟨?m, ?h⟩
 case h => conv => lhs; cbv
def m13 : M := g13.m
def fn13 : MFn := ⟨17, [.tmp 2], m13, .shut⟩
theorem fnOk13 : FnOk Tryz.prog 13 fn13 := ⟨Tryz.f13, _, _, Tryz.func13, rfl, rfl, by kernel_rfl, by kernel_rfl, g13.h⟩
/- seisin/seisinkit.SameSteps -/
def g14 : Got (cmp 26 (kpL passing [] [[0, 1], [0, 1], [], [0, 1], [0, 1, 5], [0, 1, 5], [0, 1, 5], [], []]) (bodyOf Tryz.f14)) := by
 refine ⟨?m, ?h⟩
 case h => conv => lhs; reduce
def m14 : M := g14.m
def fn14 : MFn := ⟨26, [.tmp 4], m14, .shut⟩
theorem fnOk14 : FnOk Tryz.prog 14 fn14 := ⟨Tryz.f14, _, _, Tryz.func14, rfl, rfl, by kernel_rfl, by kernel_rfl, g14.h⟩
def g14_l0 : Got ((loopsM m14).getD 0 .bad) := by
 refine ⟨?m, ?h⟩
 case h => conv => lhs; cbv
def m14_l0 : M := g14_l0.m
theorem u14_l0 {C : Ctx} {k : List It} {st : St} {Q : Ex → St → Prop} : RunK C (.code m14_l0 :: k) st Q ↔ RunK C (.code g14_l0.m :: k) st Q := Iff.rfl
/- seisin/seisinref34.Text -/
def g15 : Got (cmp 29 (kpL passing [] [[0], [0], [0, 4], [0, 4, 5], [0, 4, 5], [0, 4, 5], [0, 4, 5, 6, 7], [], [0, 4, 5, 6], [4]]) (bodyOf Tryz.f15)) := by
 refine ⟨?m, ?h⟩
 case h => conv => lhs; cbv
def m15 : M := g15.m
def fn15 : MFn := ⟨29, [.tmp 2, .tmp 3], m15, .shut⟩
theorem fnOk15 : FnOk Tryz.prog 15 fn15 := ⟨Tryz.f15, _, _, Tryz.func15, rfl, rfl, by kernel_rfl, by kernel_rfl, g15.h⟩
def g15_l0 : Got ((loopsM m15).getD 0 .bad) := by
 refine ⟨?m, ?h⟩
 case h => conv => lhs; cbv
def m15_l0 : M := g15_l0.m
theorem u15_l0 {C : Ctx} {k : List It} {st : St} {Q : Ex → St → Prop} : RunK C (.code m15_l0 :: k) st Q ↔ RunK C (.code g15_l0.m :: k) st Q := Iff.rfl
/- seisin/seisinref34.Read -/
def g16 : Got (cmp 46 (kpL passing [] [[0], [0], [0, 5], [0, 5, 6], [0, 5, 6, 7], [0, 5, 6, 7, 8], [0, 5, 6, 7, 8], [0, 5, 6, 7, 8], [0, 5, 6, 7, 8], [0, 5, 6, 8, 9, 10], [6], [0, 5, 6, 8, 9], [0, 5, 6, 8], [0, 5, 6, 8], [0, 5, 6, 7], [6], [5]]) (bodyOf Tryz.f16)) := by
 refine ⟨?m, ?h⟩
 case h => conv => lhs; cbv
def m16 : M := g16.m
def fn16 : MFn := ⟨46, [.tmp 2, .tmp 3, .tmp 4], m16, .shut⟩
theorem fnOk16 : FnOk Tryz.prog 16 fn16 := ⟨Tryz.f16, _, _, Tryz.func16, rfl, rfl, by kernel_rfl, by kernel_rfl, g16.h⟩
def g16_l0 : Got ((loopsM m16).getD 0 .bad) := by
 refine ⟨?m, ?h⟩
 case h => conv => lhs; cbv
def m16_l0 : M := g16_l0.m
theorem u16_l0 {C : Ctx} {k : List It} {st : St} {Q : Ex → St → Prop} : RunK C (.code m16_l0 :: k) st Q ↔ RunK C (.code g16_l0.m :: k) st Q := Iff.rfl
/- seisin/walk.lines -/
def g17 : Got (cmp 4 (kpL passing [] [[0], [1]]) (bodyOf Tryz.f17)) := by
 refine ⟨?m, ?h⟩
 case h => conv => lhs; cbv
def m17 : M := g17.m
def fn17 : MFn := ⟨4, [.tmp 2], m17, .pass⟩
theorem fnOk17 : FnOk Tryz.prog 17 fn17 := ⟨Tryz.f17, _, _, Tryz.func17, rfl, rfl, by kernel_rfl, by kernel_rfl, g17.h⟩
/- seisin/walk.read -/
def g18 : Got (cmp 75 (kpL passing [] [[0], [0, 2], [0, 2, 4, 5], [0, 2, 4, 5, 7], [0, 2, 4, 5, 7, 8], [0, 2, 4, 5, 7, 8], [0, 2, 4, 5, 7, 8], [0, 2, 4, 5, 7, 8], [0, 2, 5, 7], [0, 2, 5, 7], [0, 2, 7, 11, 12], [0, 2, 7, 12], [0, 2, 5, 7, 33], [2], [0, 2, 5, 7, 33], [0, 2, 5, 7], [0, 2, 7, 9, 10], [2], [0, 2, 7, 9], [0, 2, 7], [0, 2, 7, 14, 15], [2], [2, 7]]) (bodyOf Tryz.f18)) := by
 refine ⟨?m, ?h⟩
 case h => conv => lhs; cbv
def m18 : M := g18.m
def fn18 : MFn := ⟨75, [.cell 2 84, .tmp 3], m18, .shut⟩
theorem fnOk18 : FnOk Tryz.prog 18 fn18 := ⟨Tryz.f18, _, _, Tryz.func18, rfl, rfl, by kernel_rfl, by kernel_rfl, g18.h⟩
def g18_l0 : Got ((loopsM m18).getD 0 .bad) := by
 refine ⟨?m, ?h⟩
 case h => conv => lhs; cbv
def m18_l0 : M := g18_l0.m
theorem u18_l0 {C : Ctx} {k : List It} {st : St} {Q : Ex → St → Prop} : RunK C (.code m18_l0 :: k) st Q ↔ RunK C (.code g18_l0.m :: k) st Q := Iff.rfl
/- seisin/walk.format -/
def g19 : Got (cmp 30 (kpL passing [] [[0], [1], [1, 4], [1, 4, 5], [1, 6], [1, 7, 8], [], [1, 7]]) (bodyOf Tryz.f19)) := by
 refine ⟨?m, ?h⟩
 case h => conv => lhs; cbv
def m19 : M := g19.m
def fn19 : MFn := ⟨30, [.tmp 2, .tmp 3], m19, .shut⟩
theorem fnOk19 : FnOk Tryz.prog 19 fn19 := ⟨Tryz.f19, _, _, Tryz.func19, rfl, rfl, by kernel_rfl, by kernel_rfl, g19.h⟩
/- (*strings.Builder).WriteString -/
def g20 : Got (cmp 19 (kpL passing [] [[0, 1], [0, 1], [0, 1], [1]]) (bodyOf Tryz.f20)) := by
 refine ⟨?m, ?h⟩
 case h => conv => lhs; cbv
def m20 : M := g20.m
def fn20 : MFn := ⟨19, [.tmp 4, .tmp 5], m20, .pass⟩
theorem fnOk20 : FnOk Tryz.prog 20 fn20 := ⟨Tryz.f20, _, _, Tryz.func20, rfl, rfl, by kernel_rfl, by kernel_rfl, g20.h⟩
/- (*strings.Builder).WriteByte -/
def g21 : Got (cmp 17 (kpL passing [] [[0, 1], [0, 1], [0, 1], []]) (bodyOf Tryz.f21)) := by
 refine ⟨?m, ?h⟩
 case h => conv => lhs; cbv
def m21 : M := g21.m
def fn21 : MFn := ⟨17, [.tmp 4], m21, .pass⟩
theorem fnOk21 : FnOk Tryz.prog 21 fn21 := ⟨Tryz.f21, _, _, Tryz.func21, rfl, rfl, by kernel_rfl, by kernel_rfl, g21.h⟩
/- (*strings.Builder).String -/
def g22 : Got (cmp 14 (kpL passing [] [[0], [0]]) (bodyOf Tryz.f22)) := by
 refine ⟨?m, ?h⟩
 case h => conv => lhs; reduce
def m22 : M := g22.m
def fn22 : MFn := ⟨14, [.tmp 2], m22, .pass⟩
theorem fnOk22 : FnOk Tryz.prog 22 fn22 := ⟨Tryz.f22, _, _, Tryz.func22, rfl, rfl, by kernel_rfl, by kernel_rfl, g22.h⟩
/- seisin/seisinref26.Make -/
def g23 : Got (cmp 54 (kpL passing [] [[0], [0, 2], [2], [0, 2], [0, 2, 4], [0, 2, 4, 5], [0, 2, 4, 5], [0, 2, 4, 5], [0, 2, 4, 5, 6], [0, 2, 4, 5, 6], [0, 2, 4, 5, 6], [0, 2, 4], [0, 2, 4, 7], [0, 2, 4, 7], [0, 2, 4, 7], [0, 2, 4, 7, 8], [0, 2, 4, 7, 8], [0, 2, 4, 7, 8], [0, 2, 4], [0, 2, 4], [0, 2, 4], [2, 4]]) (bodyOf Tryz.f23)) := by
 refine ⟨?m, ?h⟩
 case h => conv => lhs; cbv
def m23 : M := g23.m
def fn23 : MFn := ⟨54, [.cell 2 52, .tmp 3], m23, .shut⟩
theorem fnOk23 : FnOk Tryz.prog 23 fn23 := ⟨Tryz.f23, _, _, Tryz.func23, rfl, rfl, by kernel_rfl, by kernel_rfl, g23.h⟩
/- seisin/walk.record -/
def g24 : Got (cmp 27 (kpL passing [] [[0], [1], [1, 3], [3, 4, 5], [3], [3], [3, 4], [3]]) (bodyOf Tryz.f24)) := by
 refine ⟨?m, ?h⟩
 case h => conv => lhs; cbv
def m24 : M := g24.m
def fn24 : MFn := ⟨27, [.tmp 2], m24, .pass⟩
theorem fnOk24 : FnOk Tryz.prog 24 fn24 := ⟨Tryz.f24, _, _, Tryz.func24, rfl, rfl, by kernel_rfl, by kernel_rfl, g24.h⟩
/- seisin/sys.Steps -/
def g25 : Got (cmp 36 (kpL passing [5, 6] [[0, 1], [2, 3, 4], [], [2, 3, 4], [4, 5], [4, 5, 6], [5, 6, 19], [5, 6, 7], [6, 7, 9], [6, 7], [6, 7, 26], [6, 7, 26], [6, 7, 26], [6]]) (bodyOf Tryz.f25)) := by
 refine ⟨?m, ?h⟩
 case h => conv => lhs; reduce
def m25 : M := g25.m
def fn25 : MFn := ⟨36, [.tmp 4], m25, .shut⟩
theorem fnOk25 : FnOk Tryz.prog 25 fn25 := ⟨Tryz.f25, _, _, Tryz.func25, rfl, rfl, by kernel_rfl, by kernel_rfl, g25.h⟩
/- (*seisin/walk.recorder).step -/
def g26 : Got (cmp 58 (kpL passing [] [[0, 1], [0, 3], [0, 3, 5, 6, 7], [0, 5, 6, 7], [0, 7], [], [0, 5, 6], [0, 6], []]) (bodyOf Tryz.f26)) := by
 refine ⟨?m, ?h⟩
 case h => conv => lhs; reduce
def m26 : M := g26.m
def fn26 : MFn := ⟨58, [.tmp 4], m26, .pass⟩
theorem fnOk26 : FnOk Tryz.prog 26 fn26 := ⟨Tryz.f26, _, _, Tryz.func26, rfl, rfl, by kernel_rfl, by kernel_rfl, g26.h⟩
/- seisin/walk.Shrink$1 -/
def g27 : Got (cmp 20 (kpL passing [] [[0, 1, 2], [0, 1, 2], [0, 2, 5]]) (bodyOf Tryz.f27)) := by
 refine ⟨?m, ?h⟩
 case h => conv => lhs; cbv
def m27 : M := g27.m
def fn27 : MFn := ⟨20, [.tmp 4], m27, .shut⟩
theorem fnOk27 : FnOk Tryz.prog 27 fn27 := ⟨Tryz.f27, _, _, Tryz.func27, rfl, rfl, by kernel_rfl, by kernel_rfl, g27.h⟩
/- seisin/walk.Replay -/
def g28 : Got (cmp 39 (kpL passing [] [[0, 1], [1, 2, 4], [1, 4, 5], [4, 5], [1, 4, 5], [4, 5, 24, 25, 26], [4, 5, 24, 25, 26], [4, 5, 7, 24, 25, 26], [4, 5, 24, 25, 26], [4, 5]]) (bodyOf Tryz.f28)) := by
 refine ⟨?m, ?h⟩
 case h => conv => lhs; cbv
def m28 : M := g28.m
def fn28 : MFn := ⟨39, [.cell 4 72], m28, .shut⟩
theorem fnOk28 : FnOk Tryz.prog 28 fn28 := ⟨Tryz.f28, _, _, Tryz.func28, rfl, rfl, by kernel_rfl, by kernel_rfl, g28.h⟩
/- slices.Clone[[]seisin/api.Step,seisin/api.Step] -/
def g30 : Got (cmp 8 (kpL passing [] [[0], [0], [], [0]]) (bodyOf Tryz.f30)) := by
 refine ⟨?m, ?h⟩
 case h => conv => lhs; cbv
def m30 : M := g30.m
def fn30 : MFn := ⟨8, [.tmp 2], m30, .pass⟩
theorem fnOk30 : FnOk Tryz.prog 30 fn30 := ⟨Tryz.f30, _, _, Tryz.func30, rfl, rfl, by kernel_rfl, by kernel_rfl, g30.h⟩
/- slices.Concat[[]seisin/api.Step,seisin/api.Step] -/
def g31 : Got (cmp 36 (kpL passing [] [[0], [0], [0, 3], [0, 3, 9, 10, 11], [0, 3, 9, 10, 11], [0, 3, 5, 9, 10, 11], [0, 3, 9, 10, 11], [0, 3, 9, 10, 11], [0, 3, 9, 10, 11], [0, 3], [0, 6], [6, 25, 26, 27], [6, 25, 26, 27], [6, 8, 25, 26, 27], [6, 25, 26, 27], [6]]) (bodyOf Tryz.f31)) := by
 refine ⟨?m, ?h⟩
 case h => conv => lhs; cbv
def m31 : M := g31.m
def fn31 : MFn := ⟨36, [.tmp 2], m31, .pass⟩
theorem fnOk31 : FnOk Tryz.prog 31 fn31 := ⟨Tryz.f31, _, _, Tryz.func31, rfl, rfl, by kernel_rfl, by kernel_rfl, g31.h⟩
/- seisin/seisinref34.line -/
def g32 : Got (cmp 67 (kpL passing [] [[0], [1], [1, 4], [1, 4, 11], [1, 4], [1, 4, 11], [1, 4], [1, 4, 11], [1, 4], [1, 4, 11], [1, 4], [1, 4], [1, 11], [1], []]) (bodyOf Tryz.f32)) := by
 refine ⟨?m, ?h⟩
 case h => conv => lhs; reduce
def m32 : M := g32.m
def fn32 : MFn := ⟨67, [.tmp 2, .tmp 3], m32, .shut⟩
theorem fnOk32 : FnOk Tryz.prog 32 fn32 := ⟨Tryz.f32, _, _, Tryz.func32, rfl, rfl, by kernel_rfl, by kernel_rfl, g32.h⟩
/- seisin/seisinref34.step -/
def g33 : Got (cmp 80 (kpL passing [] [[0], [0, 2], [0, 2], [2, 4, 5], [0, 2], [0, 2, 6], [0, 2, 6], [0, 2, 6], [0, 2, 6, 7], [0, 2, 6, 7], [0, 2, 6, 7], [0, 2, 6, 7, 8], [0, 2, 6, 7, 8], [0, 2, 6, 7, 8], [0, 2, 6, 7, 8], [0, 2, 6, 7, 8, 9], [0, 2, 6, 7, 8, 9, 10], [2, 9], [0, 2, 6, 7, 8], [2]]) (bodyOf Tryz.f33)) := by
 refine ⟨?m, ?h⟩
 case h => conv => lhs; cbv
def m33 : M := g33.m
def fn33 : MFn := ⟨80, [.cell 2 84, .tmp 3], m33, .shut⟩
theorem fnOk33 : FnOk Tryz.prog 33 fn33 := ⟨Tryz.f33, _, _, Tryz.func33, rfl, rfl, by kernel_rfl, by kernel_rfl, g33.h⟩
/- seisin/walk.lines$1 -/
def g34 : Got (cmp 20 (kpL passing [] [[0, 1], [0, 1], [0, 1, 3, 4, 5], [0, 1, 4]]) (bodyOf Tryz.f34)) := by
 refine ⟨?m, ?h⟩
 case h => conv => lhs; cbv
def m34 : M := g34.m
def fn34 : MFn := ⟨20, [], m34, .pass⟩
theorem fnOk34 : FnOk Tryz.prog 34 fn34 := ⟨Tryz.f34, _, _, Tryz.func34, rfl, rfl, by kernel_rfl, by kernel_rfl, g34.h⟩
def g34_l0 : Got ((loopsM m34).getD 0 .bad) := by
 refine ⟨?m, ?h⟩
 case h => conv => lhs; cbv
def m34_l0 : M := g34_l0.m
theorem u34_l0 {C : Ctx} {k : List It} {st : St} {Q : Ex → St → Prop} : RunK C (.code m34_l0 :: k) st Q ↔ RunK C (.code g34_l0.m :: k) st Q := Iff.rfl
/- strings.Cut -/
def g35 : Got (cmp 13 (kpL passing [] [[0, 1], [0, 1]]) (bodyOf Tryz.f35)) := by
 refine ⟨?m, ?h⟩
 case h => conv => lhs; cbv
def m35 : M := g35.m
def fn35 : MFn := ⟨13, [.tmp 4, .tmp 5, .tmp 6], m35, .shut⟩
theorem fnOk35 : FnOk Tryz.prog 35 fn35 := ⟨Tryz.f35, _, _, Tryz.func35, rfl, rfl, by kernel_rfl, by kernel_rfl, g35.h⟩
/- seisin/walk.word -/
def g36 : Got (cmp 12 (kpL passing [] [[0], [0], [3], [], [3], [], [3], [], [3], [], []]) (bodyOf Tryz.f36)) := by
 refine ⟨?m, ?h⟩
 case h => conv => lhs; cbv
def m36 : M := g36.m
def fn36 : MFn := ⟨12, [.tmp 2], m36, .shut⟩
theorem fnOk36 : FnOk Tryz.prog 36 fn36 := ⟨Tryz.f36, _, _, Tryz.func36, rfl, rfl, by kernel_rfl, by kernel_rfl, g36.h⟩
/- seisin/msg.Parse -/
def g37 : Got (cmp 22 (kpL passing [] [[0], [0, 2], [0, 2, 4, 5], [2], [2, 4]]) (bodyOf Tryz.f37)) := by
 refine ⟨?m, ?h⟩
 case h => conv => lhs; cbv
def m37 : M := g37.m
def fn37 : MFn := ⟨22, [.cell 2 77, .tmp 3], m37, .shut⟩
theorem fnOk37 : FnOk Tryz.prog 37 fn37 := ⟨Tryz.f37, _, _, Tryz.func37, rfl, rfl, by kernel_rfl, by kernel_rfl, g37.h⟩
/- seisin/walk.format$1 -/
def g39 : Got (cmp 6 (kpL passing [] [[0], [0]]) (bodyOf Tryz.f39)) := by
 refine ⟨?m, ?h⟩
 case h => conv => lhs; cbv
def m39 : M := g39.m
def fn39 : MFn := ⟨6, [.tmp 2], m39, .shut⟩
theorem fnOk39 : FnOk Tryz.prog 39 fn39 := ⟨Tryz.f39, _, _, Tryz.func39, rfl, rfl, by kernel_rfl, by kernel_rfl, g39.h⟩
/- seisin/walk.format$2 -/
def g41 : Got (cmp 21 (kpL passing [] [[0, 1], [1, 2]]) (bodyOf Tryz.f41)) := by
 refine ⟨?m, ?h⟩
 case h => conv => lhs; reduce
def m41 : M := g41.m
def fn41 : MFn := ⟨21, [.tmp 3, .tmp 4], m41, .pass⟩
theorem fnOk41 : FnOk Tryz.prog 41 fn41 := ⟨Tryz.f41, _, _, Tryz.func41, rfl, rfl, by kernel_rfl, by kernel_rfl, g41.h⟩
/- seisin/walk.format$3 -/
def g42 : Got (cmp 24 (kpL passing [] [[0, 1], [1, 2]]) (bodyOf Tryz.f42)) := by
 refine ⟨?m, ?h⟩
 case h => conv => lhs; reduce
def m42 : M := g42.m
def fn42 : MFn := ⟨24, [.tmp 3, .tmp 4], m42, .pass⟩
theorem fnOk42 : FnOk Tryz.prog 42 fn42 := ⟨Tryz.f42, _, _, Tryz.func42, rfl, rfl, by kernel_rfl, by kernel_rfl, g42.h⟩
/- seisin/walk.format$4 -/
def g43 : Got (cmp 19 (kpL passing [] [[0], [1]]) (bodyOf Tryz.f43)) := by
 refine ⟨?m, ?h⟩
 case h => conv => lhs; reduce
def m43 : M := g43.m
def fn43 : MFn := ⟨19, [.tmp 2, .tmp 3], m43, .shut⟩
theorem fnOk43 : FnOk Tryz.prog 43 fn43 := ⟨Tryz.f43, _, _, Tryz.func43, rfl, rfl, by kernel_rfl, by kernel_rfl, g43.h⟩
/- seisin/msg.Text -/
def g44 : Got (cmp 88 (kpL passing [] [[0], [1], [1, 3], [1, 3, 4], [1, 3, 4], [1, 3, 4], [1, 3, 4], [1, 3, 4], [1, 3, 4], [1, 3, 4], [1, 3, 4], [1, 3, 4], [1, 3, 4], [1, 3, 4], [1, 3, 4], [1, 3, 4], [3, 4, 75, 76], [3, 4, 75, 76], [3, 4, 6, 75, 76], [3, 4, 75, 76], [3]]) (bodyOf Tryz.f44)) := by
 refine ⟨?m, ?h⟩
 case h => conv => lhs; reduce
def m44 : M := g44.m
def fn44 : MFn := ⟨88, [.tmp 2], m44, .shut⟩
theorem fnOk44 : FnOk Tryz.prog 44 fn44 := ⟨Tryz.f44, _, _, Tryz.func44, rfl, rfl, by kernel_rfl, by kernel_rfl, g44.h⟩
def g44_l0 : Got ((loopsM m44).getD 0 .bad) := by
 refine ⟨?m, ?h⟩
 case h => conv => lhs; cbv
def m44_l0 : M := g44_l0.m
theorem u44_l0 {C : Ctx} {k : List It} {st : St} {Q : Ex → St → Prop} : RunK C (.code m44_l0 :: k) st Q ↔ RunK C (.code g44_l0.m :: k) st Q := Iff.rfl
/- seisin/seisinref26.Name -/
def g46 : Got (cmp 10 (kpL passing [] [[0], [0], [3], [], [3], [], [3], [], []]) (bodyOf Tryz.f46)) := by
 refine ⟨?m, ?h⟩
 case h => conv => lhs; cbv
def m46 : M := g46.m
def fn46 : MFn := ⟨10, [.tmp 2], m46, .shut⟩
theorem fnOk46 : FnOk Tryz.prog 46 fn46 := ⟨Tryz.f46, _, _, Tryz.func46, rfl, rfl, by kernel_rfl, by kernel_rfl, g46.h⟩
/- seisin/seisinref26.stable -/
def g47 : Got (cmp 41 (kpL passing [] [[0, 1], [0, 1], [0, 1], [0, 1], [0, 1], [0, 1], [0, 1], [0, 1], [0, 1], [0, 1], [0, 1], [0, 1], [0]]) (bodyOf Tryz.f47)) := by
 refine ⟨?m, ?h⟩
 case h => conv => lhs; cbv
def m47 : M := g47.m
def fn47 : MFn := ⟨41, [], m47, .pass⟩
theorem fnOk47 : FnOk Tryz.prog 47 fn47 := ⟨Tryz.f47, _, _, Tryz.func47, rfl, rfl, by kernel_rfl, by kernel_rfl, g47.h⟩
/- seisin/seisinref26.asking -/
def g48 : Got (cmp 95 (kpL passing [] [[0, 1], [0, 1, 4], [0, 1, 4, 5], [0, 1, 4, 5], [0, 1, 4, 5], [0, 1], [0, 1], [0, 1], [0, 1], [0, 1], [0, 1, 6], [0, 1, 6], [0, 1, 6], [0, 1, 6], [0, 1, 6], [0, 1, 6], [0, 1], [0], [0], [0], [0], [0], [0], [0], [0], [0], [0], [0], [0], [0, 7], [0, 7], [0, 7], [0, 7]]) (bodyOf Tryz.f48)) := by
 refine ⟨?m, ?h⟩
 case h => conv => lhs; cbv
def m48 : M := g48.m
def fn48 : MFn := ⟨95, [], m48, .pass⟩
theorem fnOk48 : FnOk Tryz.prog 48 fn48 := ⟨Tryz.f48, _, _, Tryz.func48, rfl, rfl, by kernel_rfl, by kernel_rfl, g48.h⟩
/- seisin/seisinref26.homes -/
def g49 : Got (cmp 60 (kpL passing [] [[0, 1], [0, 1, 4], [0, 1, 4], [0, 1, 4], [0, 1], [0, 1], [0, 1], [0, 1], [0, 1], [0, 1], [0, 1], [0, 1], [0, 1], [0], [0], [0], [0], [0], [0], [0]]) (bodyOf Tryz.f49)) := by
 refine ⟨?m, ?h⟩
 case h => conv => lhs; cbv
def m49 : M := g49.m
def fn49 : MFn := ⟨60, [], m49, .pass⟩
theorem fnOk49 : FnOk Tryz.prog 49 fn49 := ⟨Tryz.f49, _, _, Tryz.func49, rfl, rfl, by kernel_rfl, by kernel_rfl, g49.h⟩
/- seisin/sys.New -/
def g50 : Got (cmp 84 (kpL passing [] [[0], [1, 2], [2], [1, 2], [1, 2, 4], [1, 2, 4, 15, 16], [1, 2, 4, 15, 16], [1, 2, 4, 15, 16], [1, 2, 4, 15, 16], [1, 2, 4], [1, 2, 4, 39, 40], [1, 2, 4, 39, 40], [1, 2, 4, 5, 39, 40], [1, 2, 4, 5, 6, 39, 40], [1, 2, 4, 5, 6, 39, 40, 46, 47, 48], [1, 2, 4, 5, 6, 39, 40, 46, 47, 48], [1, 2, 4, 5, 6, 8, 39, 40, 46, 47, 48], [1, 2, 4, 5, 6, 8, 39, 40, 46, 47, 48], [1, 2, 4, 5, 6, 39, 40, 46, 47, 48], [1, 2, 4, 5, 6, 39, 40], [1, 2, 4, 39, 40], [2, 4]]) (bodyOf Tryz.f50)) := by
 refine ⟨?m, ?h⟩
 case h => conv => lhs; reduce
def m50 : M := g50.m
def fn50 : MFn := ⟨84, [.cell 2 69, .tmp 3], m50, .shut⟩
theorem fnOk50 : FnOk Tryz.prog 50 fn50 := ⟨Tryz.f50, _, _, Tryz.func50, rfl, rfl, by kernel_rfl, by kernel_rfl, g50.h⟩
/- seisin/sys.fits -/
def g51 : Got (cmp 12 (kpL passing [] [[0, 1], [2, 3]]) (bodyOf Tryz.f51)) := by
 refine ⟨?m, ?h⟩
 case h => conv => lhs; cbv
def m51 : M := g51.m
def fn51 : MFn := ⟨12, [.tmp 4], m51, .shut⟩
theorem fnOk51 : FnOk Tryz.prog 51 fn51 := ⟨Tryz.f51, _, _, Tryz.func51, rfl, rfl, by kernel_rfl, by kernel_rfl, g51.h⟩
/- seisin/sys.begin -/
def g52 : Got (cmp 26 (kpL passing [] [[0, 1], [2, 3], [5], [5]]) (bodyOf Tryz.f52)) := by
 refine ⟨?m, ?h⟩
 case h => conv => lhs; cbv
def m52 : M := g52.m
def fn52 : MFn := ⟨26, [.tmp 4], m52, .pass⟩
theorem fnOk52 : FnOk Tryz.prog 52 fn52 := ⟨Tryz.f52, _, _, Tryz.func52, rfl, rfl, by kernel_rfl, by kernel_rfl, g52.h⟩
/- (*seisin/sys.run).candidates -/
def g53 : Got (cmp 4 (kpL passing [] [[0], [1]]) (bodyOf Tryz.f53)) := by
 refine ⟨?m, ?h⟩
 case h => conv => lhs; cbv
def m53 : M := g53.m
def fn53 : MFn := ⟨4, [.tmp 2], m53, .pass⟩
theorem fnOk53 : FnOk Tryz.prog 53 fn53 := ⟨Tryz.f53, _, _, Tryz.func53, rfl, rfl, by kernel_rfl, by kernel_rfl, g53.h⟩
/- (*seisin/sys.run).step -/
def g54 : Got (cmp 29 (kpL passing [] [[0, 1], [0, 3], [], [0, 3], [3, 6, 7], [], [3, 6]]) (bodyOf Tryz.f54)) := by
 refine ⟨?m, ?h⟩
 case h => conv => lhs; reduce
def m54 : M := g54.m
def fn54 : MFn := ⟨29, [.tmp 4, .tmp 5], m54, .pass⟩
theorem fnOk54 : FnOk Tryz.prog 54 fn54 := ⟨Tryz.f54, _, _, Tryz.func54, rfl, rfl, by kernel_rfl, by kernel_rfl, g54.h⟩
/- seisin/sys.Do -/
def g55 : Got (cmp 53 (kpL passing [] [[0, 1, 2], [3, 4, 5, 6], [6], [3, 4, 5, 6], [6], [3, 4, 5, 6], [5, 6, 9], [6, 9, 10, 11], [6, 11], [6, 9, 10], [6, 9], [6], [6, 9]]) (bodyOf Tryz.f55)) := by
 refine ⟨?m, ?h⟩
 case h => conv => lhs; reduce
def m55 : M := g55.m
def fn55 : MFn := ⟨53, [.cell 6 69, .tmp 7, .tmp 8], m55, .shut⟩
theorem fnOk55 : FnOk Tryz.prog 55 fn55 := ⟨Tryz.f55, _, _, Tryz.func55, rfl, rfl, by kernel_rfl, by kernel_rfl, g55.h⟩
/- seisin/walk.holds$1 -/
def g56 : Got (cmp 3 (kpL passing [] [[0], [0]]) (bodyOf Tryz.f56)) := by
 refine ⟨?m, ?h⟩
 case h => conv => lhs; cbv
def m56 : M := g56.m
def fn56 : MFn := ⟨3, [], m56, .pass⟩
theorem fnOk56 : FnOk Tryz.prog 56 fn56 := ⟨Tryz.f56, _, _, Tryz.func56, rfl, rfl, by kernel_rfl, by kernel_rfl, g56.h⟩
/- slices.Grow[[]seisin/api.Step,seisin/api.Step] -/
def g57 : Got (cmp 27 (kpL passing [] [[0, 1], [0, 1], [0, 1], [0, 1], [0, 1], [0, 1], [0]]) (bodyOf Tryz.f57)) := by
 refine ⟨?m, ?h⟩
 case h => conv => lhs; cbv
def m57 : M := g57.m
def fn57 : MFn := ⟨27, [.tmp 4], m57, .pass⟩
theorem fnOk57 : FnOk Tryz.prog 57 fn57 := ⟨Tryz.f57, _, _, Tryz.func57, rfl, rfl, by kernel_rfl, by kernel_rfl, g57.h⟩
/- seisin/seisinref34.number -/
def g58 : Got (cmp 21 (kpL passing [] [[0], [0], [0, 3], [0, 3], [0, 3], [3]]) (bodyOf Tryz.f58)) := by
 refine ⟨?m, ?h⟩
 case h => conv => lhs; cbv
def m58 : M := g58.m
def fn58 : MFn := ⟨21, [.tmp 2], m58, .shut⟩
theorem fnOk58 : FnOk Tryz.prog 58 fn58 := ⟨Tryz.f58, _, _, Tryz.func58, rfl, rfl, by kernel_rfl, by kernel_rfl, g58.h⟩
/- seisin/seisinref17.Text -/
def g59 : Got (cmp 83 (kpL passing [] [[0], [1], [1, 3], [1], [1, 3], [1, 3], [1, 3], [1, 3], [1, 3], [1, 3], [1, 3], [1, 3], [1, 3], [1, 3], [1, 3, 4], [1, 3, 4], [1, 3, 4], [3]]) (bodyOf Tryz.f59)) := by
 refine ⟨?m, ?h⟩
 case h => conv => lhs; reduce
def m59 : M := g59.m
def fn59 : MFn := ⟨83, [.tmp 2], m59, .shut⟩
theorem fnOk59 : FnOk Tryz.prog 59 fn59 := ⟨Tryz.f59, _, _, Tryz.func59, rfl, rfl, by kernel_rfl, by kernel_rfl, g59.h⟩
/- seisin/seisinref17.Parse -/
def g60 : Got (cmp 131 (kpL passing [] [[0], [0, 2], [0, 2, 4], [0, 2, 4, 5], [0, 2, 4, 5], [0, 2, 4, 5], [0, 2, 4, 5], [0, 2, 4, 5, 6], [0, 2, 4, 5, 6], [0, 2, 4, 5, 6], [0, 2, 4, 5, 6], [0, 2, 4, 5], [0, 2, 4, 5, 7], [0, 2, 4, 5, 7], [0, 2, 4, 5, 7], [0, 2, 4, 5, 7, 8], [0, 2, 4, 5, 7, 8, 9], [0, 2, 4, 5, 7, 8], [0, 2, 4, 5, 7, 8, 9], [0, 2, 4, 5, 7, 8, 9], [0, 2, 4, 5, 7, 9], [0, 2, 4, 5, 7, 8, 9], [0, 2, 4, 5, 7, 9], [0, 2, 4, 5, 7, 8, 9], [0, 2, 4, 5, 7, 9], [0, 2, 4, 5, 7, 8, 9], [0, 2, 4, 5, 7, 9], [0, 2, 4, 5, 7, 8, 9], [0, 2, 4, 5, 7], [0, 2, 4, 5, 7, 8, 9], [0, 2, 4, 5, 7, 9], [0, 2, 5], [2], [2, 5]]) (bodyOf Tryz.f60)) := by
 refine ⟨?m, ?h⟩
 case h => conv => lhs; reduce
def m60 : M := g60.m
def fn60 : MFn := ⟨131, [.cell 2 77, .tmp 3], m60, .shut⟩
theorem fnOk60 : FnOk Tryz.prog 60 fn60 := ⟨Tryz.f60, _, _, Tryz.func60, rfl, rfl, by kernel_rfl, by kernel_rfl, g60.h⟩
/- seisin/seisinref34.begins -/
def g61 : Got (cmp 18 (kpL passing [] [[0, 1], [0, 1]]) (bodyOf Tryz.f61)) := by
 refine ⟨?m, ?h⟩
 case h => conv => lhs; cbv
def m61 : M := g61.m
def fn61 : MFn := ⟨18, [.tmp 4], m61, .shut⟩
theorem fnOk61 : FnOk Tryz.prog 61 fn61 := ⟨Tryz.f61, _, _, Tryz.func61, rfl, rfl, by kernel_rfl, by kernel_rfl, g61.h⟩
/- internal/stringslite.Cut -/
def g62 : Got (cmp 23 (kpL passing [] [[0, 1], [0, 1], [0, 1, 7], [0, 1, 7], [0]]) (bodyOf Tryz.f62)) := by
 refine ⟨?m, ?h⟩
 case h => conv => lhs; reduce
def m62 : M := g62.m
def fn62 : MFn := ⟨23, [.tmp 4, .tmp 5, .tmp 6], m62, .shut⟩
theorem fnOk62 : FnOk Tryz.prog 62 fn62 := ⟨Tryz.f62, _, _, Tryz.func62, rfl, rfl, by kernel_rfl, by kernel_rfl, g62.h⟩
/- seisin/msg.scan -/
def g63 : Got (cmp 87 (kpL passing [] [[0], [1, 2, 3], [1, 2, 3], [1, 2, 3, 4], [1, 2, 3, 4, 5], [1, 2, 3, 4, 5, 6], [1, 2, 3, 4, 5, 6], [1, 2, 3, 4, 5, 6], [1, 2, 3, 4, 5, 6], [1, 2, 3, 4, 5, 6, 7, 8], [1, 2, 3, 4, 5, 6], [1, 2, 3, 4, 5, 6], [1, 2, 3, 4, 5, 6], [1, 2, 3, 4, 5, 6], [1, 2, 3, 4, 5, 6], [1, 2, 3, 4, 5, 6], [1, 2, 3, 4, 5, 6], [1, 2, 3, 4, 5, 6], [1, 2, 3, 4, 5], [1, 2, 3, 4, 5, 69], [1, 2, 3, 4, 5, 69], [1, 2, 3, 4, 5, 10, 69], [1, 2, 3, 4, 5, 69], [1, 2, 3]]) (bodyOf Tryz.f63)) := by
 refine ⟨?m, ?h⟩
 case h => conv => lhs; reduce
def m63 : M := g63.m
def fn63 : MFn := ⟨87, [.cell 2 77, .cell 3 4], m63, .shut⟩
theorem fnOk63 : FnOk Tryz.prog 63 fn63 := ⟨Tryz.f63, _, _, Tryz.func63, rfl, rfl, by kernel_rfl, by kernel_rfl, g63.h⟩
def g63_l0 : Got ((loopsM m63).getD 0 .bad) := by
 refine ⟨?m, ?h⟩
 case h => conv => lhs; cbv
def m63_l0 : M := g63_l0.m
theorem u63_l0 {C : Ctx} {k : List It} {st : St} {Q : Ex → St → Prop} : RunK C (.code m63_l0 :: k) st Q ↔ RunK C (.code g63_l0.m :: k) st Q := Iff.rfl
/- strings.SplitN -/
def g64 : Got (cmp 11 (kpL passing [] [[0, 1, 2], [0, 1, 2]]) (bodyOf Tryz.f64)) := by
 refine ⟨?m, ?h⟩
 case h => conv => lhs; cbv
def m64 : M := g64.m
def fn64 : MFn := ⟨11, [.tmp 6], m64, .shut⟩
theorem fnOk64 : FnOk Tryz.prog 64 fn64 := ⟨Tryz.f64, _, _, Tryz.func64, rfl, rfl, by kernel_rfl, by kernel_rfl, g64.h⟩
/- seisin/msg.Text$1 -/
def g67 : Got (cmp 6 (kpL passing [] [[0], [0]]) (bodyOf Tryz.f67)) := by
 refine ⟨?m, ?h⟩
 case h => conv => lhs; cbv
def m67 : M := g67.m
def fn67 : MFn := ⟨6, [.tmp 2], m67, .shut⟩
theorem fnOk67 : FnOk Tryz.prog 67 fn67 := ⟨Tryz.f67, _, _, Tryz.func67, rfl, rfl, by kernel_rfl, by kernel_rfl, g67.h⟩
/- seisin/msg.Class -/
def g68 : Got (cmp 9 (kpL passing [] [[0], [0], [], [0]]) (bodyOf Tryz.f68)) := by
 refine ⟨?m, ?h⟩
 case h => conv => lhs; cbv
def m68 : M := g68.m
def fn68 : MFn := ⟨9, [.tmp 2], m68, .shut⟩
theorem fnOk68 : FnOk Tryz.prog 68 fn68 := ⟨Tryz.f68, _, _, Tryz.func68, rfl, rfl, by kernel_rfl, by kernel_rfl, g68.h⟩
/- seisin/seisinref26.at -/
def g71 : Got (cmp 22 (kpL passing [] [[0, 1, 2, 3, 4]]) (bodyOf Tryz.f71)) := by
 refine ⟨?m, ?h⟩
 case h => conv => lhs; reduce
def m71 : M := g71.m
def fn71 : MFn := ⟨22, [], m71, .pass⟩
theorem fnOk71 : FnOk Tryz.prog 71 fn71 := ⟨Tryz.f71, _, _, Tryz.func71, rfl, rfl, by kernel_rfl, by kernel_rfl, g71.h⟩
/- seisin/seisinref26.owner -/
def g72 : Got (cmp 33 (kpL passing [] [[0, 1, 2], [0, 1, 2], [0, 1, 2], [0, 1, 2], [0, 2], [0, 2], [0, 2]]) (bodyOf Tryz.f72)) := by
 refine ⟨?m, ?h⟩
 case h => conv => lhs; cbv
def m72 : M := g72.m
def fn72 : MFn := ⟨33, [], m72, .pass⟩
theorem fnOk72 : FnOk Tryz.prog 72 fn72 := ⟨Tryz.f72, _, _, Tryz.func72, rfl, rfl, by kernel_rfl, by kernel_rfl, g72.h⟩
/- seisin/seisinref26.wait -/
def g73 : Got (cmp 17 (kpL passing [] [[0, 1], [0, 1, 4], [0, 1, 4], [0, 1, 4]]) (bodyOf Tryz.f73)) := by
 refine ⟨?m, ?h⟩
 case h => conv => lhs; cbv
def m73 : M := g73.m
def fn73 : MFn := ⟨17, [], m73, .pass⟩
theorem fnOk73 : FnOk Tryz.prog 73 fn73 := ⟨Tryz.f73, _, _, Tryz.func73, rfl, rfl, by kernel_rfl, by kernel_rfl, g73.h⟩
/- seisin/seisinref26.home -/
def g74 : Got (cmp 22 (kpL passing [] [[0, 1, 2, 3, 4]]) (bodyOf Tryz.f74)) := by
 refine ⟨?m, ?h⟩
 case h => conv => lhs; reduce
def m74 : M := g74.m
def fn74 : MFn := ⟨22, [], m74, .pass⟩
theorem fnOk74 : FnOk Tryz.prog 74 fn74 := ⟨Tryz.f74, _, _, Tryz.func74, rfl, rfl, by kernel_rfl, by kernel_rfl, g74.h⟩
/- seisin/sys.Right -/
def g75 : Got (cmp 61 (kpL passing [] [[0], [1], [1, 3]]) (bodyOf Tryz.f75)) := by
 refine ⟨?m, ?h⟩
 case h => conv => lhs; cbv
def m75 : M := g75.m
def fn75 : MFn := ⟨61, [.tmp 2], m75, .shut⟩
theorem fnOk75 : FnOk Tryz.prog 75 fn75 := ⟨Tryz.f75, _, _, Tryz.func75, rfl, rfl, by kernel_rfl, by kernel_rfl, g75.h⟩
/- seisin/core.New -/
def g76 : Got (cmp 2 (kpL passing [] [[], [0]]) (bodyOf Tryz.f76)) := by
 refine ⟨?m, ?h⟩
 case h => conv => lhs; cbv
def m76 : M := g76.m
def fn76 : MFn := ⟨2, [.cell 0 161], m76, .shut⟩
theorem fnOk76 : FnOk Tryz.prog 76 fn76 := ⟨Tryz.f76, _, _, Tryz.func76, rfl, rfl, by kernel_rfl, by kernel_rfl, g76.h⟩
/- seisin/cache.New -/
def g77 : Got (cmp 17 (kpL passing [] [[0, 1], [1, 2, 4], [4, 5, 6], [4], [4, 5]]) (bodyOf Tryz.f77)) := by
 refine ⟨?m, ?h⟩
 case h => conv => lhs; cbv
def m77 : M := g77.m
def fn77 : MFn := ⟨17, [.cell 4 174], m77, .shut⟩
theorem fnOk77 : FnOk Tryz.prog 77 fn77 := ⟨Tryz.f77, _, _, Tryz.func77, rfl, rfl, by kernel_rfl, by kernel_rfl, g77.h⟩
/- seisin/geo.Lines -/
def g78 : Got (cmp 16 (kpL passing [] [[0], [1], [3, 4], [], [3]]) (bodyOf Tryz.f78)) := by
 refine ⟨?m, ?h⟩
 case h => conv => lhs; cbv
def m78 : M := g78.m
def fn78 : MFn := ⟨16, [.tmp 2], m78, .shut⟩
theorem fnOk78 : FnOk Tryz.prog 78 fn78 := ⟨Tryz.f78, _, _, Tryz.func78, rfl, rfl, by kernel_rfl, by kernel_rfl, g78.h⟩
/- seisin/geo.Locs -/
def g79 : Got (cmp 25 (kpL passing [7] [[0, 1], [1, 2, 4], [1, 4, 5, 6], [], [1, 4, 5], [1, 4, 5, 7], [7, 19], [7, 8], [7]]) (bodyOf Tryz.f79)) := by
 refine ⟨?m, ?h⟩
 case h => conv => lhs; reduce
def m79 : M := g79.m
def fn79 : MFn := ⟨25, [.tmp 4], m79, .shut⟩
theorem fnOk79 : FnOk Tryz.prog 79 fn79 := ⟨Tryz.f79, _, _, Tryz.func79, rfl, rfl, by kernel_rfl, by kernel_rfl, g79.h⟩
/- seisin/geo.Put -/
def g80 : Got (cmp 23 (kpL passing [] [[0, 1, 2, 3], [2, 3, 4, 5, 8], [2, 3, 5, 8, 9, 10], [2, 3, 5, 8, 9], [5, 8]]) (bodyOf Tryz.f80)) := by
 refine ⟨?m, ?h⟩
 case h => conv => lhs; cbv
def m80 : M := g80.m
def fn80 : MFn := ⟨23, [.cell 8 63], m80, .shut⟩
theorem fnOk80 : FnOk Tryz.prog 80 fn80 := ⟨Tryz.f80, _, _, Tryz.func80, rfl, rfl, by kernel_rfl, by kernel_rfl, g80.h⟩
/- seisin/home.New -/
def g81 : Got (cmp 12 (kpL passing [] [[0, 1, 2], [0, 1, 5, 6]]) (bodyOf Tryz.f81)) := by
 refine ⟨?m, ?h⟩
 case h => conv => lhs; reduce
def m81 : M := g81.m
def fn81 : MFn := ⟨12, [.cell 6 65], m81, .shut⟩
theorem fnOk81 : FnOk Tryz.prog 81 fn81 := ⟨Tryz.f81, _, _, Tryz.func81, rfl, rfl, by kernel_rfl, by kernel_rfl, g81.h⟩
/- seisin/pack.Fits -/
def g82 : Got (cmp 77 (kpL passing [] [[0, 1], [2, 3], [], [3], [3, 39, 40], [3, 39, 40], [3, 5, 39, 40], [], [3, 39, 40], [3], [3, 54, 55], [3, 54, 55], [3, 6, 54, 55], [3, 54, 55, 63, 64], [3, 54, 55, 63, 64], [3, 8, 54, 55, 63, 64], [], [3, 54, 55, 63, 64], [3, 54, 55], []]) (bodyOf Tryz.f82)) := by
 refine ⟨?m, ?h⟩
 case h => conv => lhs; cbv
def m82 : M := g82.m
def fn82 : MFn := ⟨77, [.tmp 4], m82, .shut⟩
theorem fnOk82 : FnOk Tryz.prog 82 fn82 := ⟨Tryz.f82, _, _, Tryz.func82, rfl, rfl, by kernel_rfl, by kernel_rfl, g82.h⟩
/- (*seisin/sys.run).stepCore -/
def g83 : Got (cmp 46 (kpL passing [] [[0, 1], [2, 3], [2, 6], [2, 6, 7], [2, 6, 7, 28], [2, 6, 7], [2, 6, 7, 28], [2, 6, 7], [2, 6, 7], []]) (bodyOf Tryz.f83)) := by
 refine ⟨?m, ?h⟩
 case h => conv => lhs; reduce
def m83 : M := g83.m
def fn83 : MFn := ⟨46, [.tmp 4, .tmp 5], m83, .pass⟩
theorem fnOk83 : FnOk Tryz.prog 83 fn83 := ⟨Tryz.f83, _, _, Tryz.func83, rfl, rfl, by kernel_rfl, by kernel_rfl, g83.h⟩
/- (*seisin/sys.run).stepDrain -/
def g84 : Got (cmp 36 (kpL passing [] [[0, 1], [0, 3], [0, 6], [0, 6, 7], [0, 6, 7, 8, 9], [], [0, 6, 7, 8], [0, 6, 7, 8]]) (bodyOf Tryz.f84)) := by
 refine ⟨?m, ?h⟩
 case h => conv => lhs; cbv
def m84 : M := g84.m
def fn84 : MFn := ⟨36, [.tmp 4, .tmp 5], m84, .pass⟩
theorem fnOk84 : FnOk Tryz.prog 84 fn84 := ⟨Tryz.f84, _, _, Tryz.func84, rfl, rfl, by kernel_rfl, by kernel_rfl, g84.h⟩
/- (*seisin/sys.run).stepTry -/
def g85 : Got (cmp 47 (kpL passing [] [[0, 1], [0, 3], [0, 3, 6], [0, 6, 7, 8, 9, 10]]) (bodyOf Tryz.f85)) := by
 refine ⟨?m, ?h⟩
 case h => conv => lhs; reduce
def m85 : M := g85.m
def fn85 : MFn := ⟨47, [.tmp 4, .tmp 5], m85, .pass⟩
theorem fnOk85 : FnOk Tryz.prog 85 fn85 := ⟨Tryz.f85, _, _, Tryz.func85, rfl, rfl, by kernel_rfl, by kernel_rfl, g85.h⟩
/- (*seisin/sys.run).stepEvict -/
def g86 : Got (cmp 76 (kpL passing [] [[0, 1], [0, 3], [0, 3, 6], [], [0, 3, 6], [0, 3, 6, 8], [], [0, 3, 6], [0, 6, 9, 10, 11]]) (bodyOf Tryz.f86)) := by
 refine ⟨?m, ?h⟩
 case h => conv => lhs; reduce
def m86 : M := g86.m
def fn86 : MFn := ⟨76, [.tmp 4, .tmp 5], m86, .pass⟩
theorem fnOk86 : FnOk Tryz.prog 86 fn86 := ⟨Tryz.f86, _, _, Tryz.func86, rfl, rfl, by kernel_rfl, by kernel_rfl, g86.h⟩
/- (*seisin/sys.run).stepMsg -/
def g87 : Got (cmp 144 (kpL passing [] [[0, 1], [2, 3], [2, 6], [2, 6, 7], [2, 6, 7, 8], [], [2, 6, 7, 8], [], [2, 6, 7, 8], [2, 6, 9, 11], [11], [2, 6, 9], [2, 6, 9], [2, 6, 9, 12], [2, 9, 12, 13, 14, 15, 16], [2, 9, 16, 17], [2, 6, 9], [2, 6, 9], [2, 6, 9, 18, 19, 20], []]) (bodyOf Tryz.f87)) := by
 refine ⟨?m, ?h⟩
 case h => conv => lhs; reduce
def m87 : M := g87.m
def fn87 : MFn := ⟨144, [.tmp 4, .tmp 5], m87, .pass⟩
theorem fnOk87 : FnOk Tryz.prog 87 fn87 := ⟨Tryz.f87, _, _, Tryz.func87, rfl, rfl, by kernel_rfl, by kernel_rfl, g87.h⟩
/- (*seisin/sys.run).candidates$1 -/
def g88 : Got (cmp 96 (kpL passing [] [[0, 1], [0, 1, 3], [0, 1, 3, 20, 21], [0, 1, 3, 20, 21], [0, 1, 3, 5, 20, 21], [0, 1, 3, 5, 20, 21, 24, 25], [0, 1, 3, 5, 20, 21, 24, 25], [0, 1, 3, 5, 6, 20, 21, 24, 25], [0, 1, 3, 5, 20, 21, 24, 25], [0, 1, 3, 20, 21], [0, 1, 3], [0, 1, 36, 37], [0, 1, 36, 37], [0, 1, 7, 36, 37], [0, 1, 7, 36, 37, 46, 47], [0, 1, 7, 36, 37, 46, 47], [0, 1, 7, 8, 36, 37, 46, 47], [0, 1, 7, 36, 37, 46, 47], [0, 1, 36, 37], [0, 1], [0, 1, 9], [0, 1, 9, 69, 70, 71], [0, 1, 9, 69, 70, 71], [0, 1, 9, 11, 69, 70, 71], [0, 1, 9, 12, 69, 70, 71], [0, 1, 9, 12, 69, 70, 71], [0, 1, 9, 12, 69, 70, 71], [0, 1, 9, 69, 70, 71]]) (bodyOf Tryz.f88)) := by
 refine ⟨?m, ?h⟩
 case h => conv => lhs; reduce
def m88 : M := g88.m
def fn88 : MFn := ⟨96, [], m88, .pass⟩
theorem fnOk88 : FnOk Tryz.prog 88 fn88 := ⟨Tryz.f88, _, _, Tryz.func88, rfl, rfl, by kernel_rfl, by kernel_rfl, g88.h⟩
/- seisin/net.Next -/
def g89 : Got (cmp 19 (kpL passing [5] [[0, 1], [0, 1, 4], [], [0, 1, 4], [0, 1, 4, 5], [5, 13], [5, 6], [5]]) (bodyOf Tryz.f89)) := by
 refine ⟨?m, ?h⟩
 case h => conv => lhs; reduce
def m89 : M := g89.m
def fn89 : MFn := ⟨19, [.tmp 4], m89, .shut⟩
theorem fnOk89 : FnOk Tryz.prog 89 fn89 := ⟨Tryz.f89, _, _, Tryz.func89, rfl, rfl, by kernel_rfl, by kernel_rfl, g89.h⟩
/- slices.Contains[[]seisin/api.Msg,seisin/api.Msg] -/
def g90 : Got (cmp 9 (kpL passing [] [[0, 1], [0, 3]]) (bodyOf Tryz.f90)) := by
 refine ⟨?m, ?h⟩
 case h => conv => lhs; cbv
def m90 : M := g90.m
def fn90 : MFn := ⟨9, [.tmp 4], m90, .shut⟩
theorem fnOk90 : FnOk Tryz.prog 90 fn90 := ⟨Tryz.f90, _, _, Tryz.func90, rfl, rfl, by kernel_rfl, by kernel_rfl, g90.h⟩
/- (*seisin/sys.run).formed -/
def g91 : Got (cmp 59 (kpL passing [] [[0, 1], [0, 3], [0, 3, 5], [0, 3, 5, 23], [0, 3, 5, 23], [0, 3, 5, 23], [3, 5], [0, 3, 5, 23], [0, 3, 5], [3, 23], [3], []]) (bodyOf Tryz.f91)) := by
 refine ⟨?m, ?h⟩
 case h => conv => lhs; reduce
def m91 : M := g91.m
def fn91 : MFn := ⟨59, [.tmp 4], m91, .pass⟩
theorem fnOk91 : FnOk Tryz.prog 91 fn91 := ⟨Tryz.f91, _, _, Tryz.func91, rfl, rfl, by kernel_rfl, by kernel_rfl, g91.h⟩
/- seisin/sys.own -/
def g92 : Got (cmp 36 (kpL passing [] [[0], [1, 2], [1, 2], [1, 2, 10, 11], [1, 2, 10, 11], [1, 2, 3, 10, 11], [1, 2, 10, 11], [1, 2], [1, 2], [1, 2]]) (bodyOf Tryz.f92)) := by
 refine ⟨?m, ?h⟩
 case h => conv => lhs; reduce
def m92 : M := g92.m
def fn92 : MFn := ⟨36, [.cell 2 69], m92, .pass⟩
theorem fnOk92 : FnOk Tryz.prog 92 fn92 := ⟨Tryz.f92, _, _, Tryz.func92, rfl, rfl, by kernel_rfl, by kernel_rfl, g92.h⟩
/- seisin/seisinref17.number -/
def g93 : Got (cmp 21 (kpL passing [] [[0], [0], [0, 3], [0, 3], [0, 3], [3]]) (bodyOf Tryz.f93)) := by
 refine ⟨?m, ?h⟩
 case h => conv => lhs; cbv
def m93 : M := g93.m
def fn93 : MFn := ⟨21, [.tmp 2], m93, .shut⟩
theorem fnOk93 : FnOk Tryz.prog 93 fn93 := ⟨Tryz.f93, _, _, Tryz.func93, rfl, rfl, by kernel_rfl, by kernel_rfl, g93.h⟩
/- seisin/seisinref17.Names -/
def g94 : Got (cmp 2 (kpL passing [] [[], []]) (bodyOf Tryz.f94)) := by
 refine ⟨?m, ?h⟩
 case h => conv => lhs; cbv
def m94 : M := g94.m
def fn94 : MFn := ⟨2, [.tmp 0], m94, .shut⟩
theorem fnOk94 : FnOk Tryz.prog 94 fn94 := ⟨Tryz.f94, _, _, Tryz.func94, rfl, rfl, by kernel_rfl, by kernel_rfl, g94.h⟩
/- seisin/seisinref17.words -/
def g95 : Got (cmp 41 (kpL passing [] [[0], [0], [0, 3], [0, 3, 4], [0, 3, 4, 5], [0, 3, 4, 5], [0, 3, 4, 5], [0, 3, 4, 5], [0, 3, 5], [0, 3, 4, 5], [3, 4]]) (bodyOf Tryz.f95)) := by
 refine ⟨?m, ?h⟩
 case h => conv => lhs; cbv
def m95 : M := g95.m
def fn95 : MFn := ⟨41, [.tmp 2], m95, .shut⟩
theorem fnOk95 : FnOk Tryz.prog 95 fn95 := ⟨Tryz.f95, _, _, Tryz.func95, rfl, rfl, by kernel_rfl, by kernel_rfl, g95.h⟩
/- seisin/seisinref17.value -/
def g96 : Got (cmp 25 (kpL passing [] [[0], [0], [0, 3], [0, 3, 4], [0, 3, 4], [0, 3, 4], [3]]) (bodyOf Tryz.f96)) := by
 refine ⟨?m, ?h⟩
 case h => conv => lhs; cbv
def m96 : M := g96.m
def fn96 : MFn := ⟨25, [.tmp 2], m96, .shut⟩
theorem fnOk96 : FnOk Tryz.prog 96 fn96 := ⟨Tryz.f96, _, _, Tryz.func96, rfl, rfl, by kernel_rfl, by kernel_rfl, g96.h⟩
/- internal/stringslite.Index -/
def g97 : Got (cmp 143 (kpL passing [] [[0, 1], [0, 1], [0, 1, 5], [], [0, 1, 5], [0, 1], [0, 1, 5], [], [0, 1, 5], [0, 1], [0, 1, 5], [0, 1, 5, 6], [0, 1, 5, 6, 7], [0, 1, 5, 6, 7, 8], [0, 1, 5, 6, 7, 8, 9], [0, 1, 5, 6, 7, 8, 9, 10], [0, 1, 5, 6, 7, 8, 9, 10], [0, 1, 5, 6, 7, 8, 9, 10], [0, 1, 5, 6, 7, 8, 9, 10, 11], [], [0, 1, 5, 6, 7, 8, 9, 10, 11], [0, 1, 5, 6, 7, 8, 9, 10], [8], [0, 1, 5, 6, 7, 8, 9, 10], [0, 1, 5, 6, 7, 8, 9, 10], [0, 1, 5, 6, 7, 8, 9, 10], [0, 1, 8], [8, 12], [8, 12], [], [0, 1, 5, 6, 7, 8, 9, 10], [0, 1, 8], [8, 13], [], [8, 13], []]) (bodyOf Tryz.f97)) := by
 refine ⟨?m, ?h⟩
 case h => conv => lhs; cbv
def m97 : M := g97.m
def fn97 : MFn := ⟨143, [.tmp 4], m97, .shut⟩
theorem fnOk97 : FnOk Tryz.prog 97 fn97 := ⟨Tryz.f97, _, _, Tryz.func97, rfl, rfl, by kernel_rfl, by kernel_rfl, g97.h⟩
def g97_l0 : Got ((loopsM m97).getD 0 .bad) := by
 refine ⟨?m, ?h⟩
 case h => conv => lhs; cbv
def m97_l0 : M := g97_l0.m
theorem u97_l0 {C : Ctx} {k : List It} {st : St} {Q : Ex → St → Prop} : RunK C (.code m97_l0 :: k) st Q ↔ RunK C (.code g97_l0.m :: k) st Q := Iff.rfl
/- seisin/msg.scan$1 -/
def g98 : Got (cmp 13 (kpL passing [] [[0, 1], [0, 1], [1], [], [0], [0, 3], [3]]) (bodyOf Tryz.f98)) := by
 refine ⟨?m, ?h⟩
 case h => conv => lhs; cbv
def m98 : M := g98.m
def fn98 : MFn := ⟨13, [.tmp 2], m98, .pass⟩
theorem fnOk98 : FnOk Tryz.prog 98 fn98 := ⟨Tryz.f98, _, _, Tryz.func98, rfl, rfl, by kernel_rfl, by kernel_rfl, g98.h⟩
/- seisin/msg.scan$3 -/
def g100 : Got (cmp 17 (kpL passing [] [[0, 1, 2], [0, 1, 2], [], [2], []]) (bodyOf Tryz.f100)) := by
 refine ⟨?m, ?h⟩
 case h => conv => lhs; cbv
def m100 : M := g100.m
def fn100 : MFn := ⟨17, [.tmp 4], m100, .pass⟩
theorem fnOk100 : FnOk Tryz.prog 100 fn100 := ⟨Tryz.f100, _, _, Tryz.func100, rfl, rfl, by kernel_rfl, by kernel_rfl, g100.h⟩
/- seisin/msg.kindOf -/
def g101 : Got (cmp 16 (kpL passing [] [[0], [0], [0, 5, 6], [0, 5, 6], [0, 3, 4, 5, 6], [3], [0, 5, 6], []]) (bodyOf Tryz.f101)) := by
 refine ⟨?m, ?h⟩
 case h => conv => lhs; cbv
def m101 : M := g101.m
def fn101 : MFn := ⟨16, [.tmp 2], m101, .shut⟩
theorem fnOk101 : FnOk Tryz.prog 101 fn101 := ⟨Tryz.f101, _, _, Tryz.func101, rfl, rfl, by kernel_rfl, by kernel_rfl, g101.h⟩
def g101_l0 : Got ((loopsM m101).getD 0 .bad) := by
 refine ⟨?m, ?h⟩
 case h => conv => lhs; cbv
def m101_l0 : M := g101_l0.m
theorem u101_l0 {C : Ctx} {k : List It} {st : St} {Q : Ex → St → Prop} : RunK C (.code m101_l0 :: k) st Q ↔ RunK C (.code g101_l0.m :: k) st Q := Iff.rfl
/- strings.genSplit -/
def g102 : Got (cmp 66 (kpL passing [] [[0, 1, 2, 3], [0, 1, 2, 3], [], [0, 1, 2, 3], [0, 3], [0, 1, 2, 3], [0, 1, 2], [0, 1, 2, 3], [0, 1, 2, 3], [0, 1, 2, 3, 9], [0, 1, 2, 3, 9], [0, 1, 2, 3, 9, 10], [0, 1, 2, 3, 9, 10], [0, 1, 2, 3, 9, 10, 11], [0, 1, 2, 3, 9, 10, 11], [0, 1, 2, 3, 9, 10, 11], [0, 1, 2, 3, 9, 10], [0, 9, 10], [9, 10]]) (bodyOf Tryz.f102)) := by
 refine ⟨?m, ?h⟩
 case h => conv => lhs; cbv
def m102 : M := g102.m
def fn102 : MFn := ⟨66, [.tmp 8], m102, .shut⟩
theorem fnOk102 : FnOk Tryz.prog 102 fn102 := ⟨Tryz.f102, _, _, Tryz.func102, rfl, rfl, by kernel_rfl, by kernel_rfl, g102.h⟩
def g102_l0 : Got ((loopsM m102).getD 0 .bad) := by
 refine ⟨?m, ?h⟩
 case h => conv => lhs; cbv
def m102_l0 : M := g102_l0.m
theorem u102_l0 {C : Ctx} {k : List It} {st : St} {Q : Ex → St → Prop} : RunK C (.code m102_l0 :: k) st Q ↔ RunK C (.code g102_l0.m :: k) st Q := Iff.rfl
/- seisin/seisinref26.acts -/
def g107 : Got (cmp 19 (kpL passing [] [[0], [0], [0, 3], [0, 3, 4], [0, 3, 4], [0, 3, 4], [3]]) (bodyOf Tryz.f107)) := by
 refine ⟨?m, ?h⟩
 case h => conv => lhs; cbv
def m107 : M := g107.m
def fn107 : MFn := ⟨19, [.tmp 2], m107, .shut⟩
theorem fnOk107 : FnOk Tryz.prog 107 fn107 := ⟨Tryz.f107, _, _, Tryz.func107, rfl, rfl, by kernel_rfl, by kernel_rfl, g107.h⟩
/- seisin/sys.Right$1 -/
def g108 : Got (cmp 15 (kpL passing [] [[0, 1, 2], [0, 1, 2]]) (bodyOf Tryz.f108)) := by
 refine ⟨?m, ?h⟩
 case h => conv => lhs; cbv
def m108 : M := g108.m
def fn108 : MFn := ⟨15, [.tmp 6], m108, .shut⟩
theorem fnOk108 : FnOk Tryz.prog 108 fn108 := ⟨Tryz.f108, _, _, Tryz.func108, rfl, rfl, by kernel_rfl, by kernel_rfl, g108.h⟩
/- seisin/check.Right -/
def g109 : Got (cmp 18 (kpL passing [] [[0], [1], [5, 6, 7], [5, 6, 7], [4, 5, 6, 7], [4], [5, 6, 7], []]) (bodyOf Tryz.f109)) := by
 refine ⟨?m, ?h⟩
 case h => conv => lhs; cbv
def m109 : M := g109.m
def fn109 : MFn := ⟨18, [.tmp 2], m109, .shut⟩
theorem fnOk109 : FnOk Tryz.prog 109 fn109 := ⟨Tryz.f109, _, _, Tryz.func109, rfl, rfl, by kernel_rfl, by kernel_rfl, g109.h⟩
/- seisin/geo.Right -/
def g110 : Got (cmp 30 (kpL passing [] [[0], [1], [15, 16], [15, 16], [3, 4, 15, 16], [], [15, 16], []]) (bodyOf Tryz.f110)) := by
 refine ⟨?m, ?h⟩
 case h => conv => lhs; cbv
def m110 : M := g110.m
def fn110 : MFn := ⟨30, [.tmp 2], m110, .shut⟩
theorem fnOk110 : FnOk Tryz.prog 110 fn110 := ⟨Tryz.f110, _, _, Tryz.func110, rfl, rfl, by kernel_rfl, by kernel_rfl, g110.h⟩
/- seisin/spec.Right -/
def g111 : Got (cmp 18 (kpL passing [1, 2] [[0], [1, 2], [2], [1, 2], [1, 2, 9], [1, 2, 3], [2], [2]]) (bodyOf Tryz.f111)) := by
 refine ⟨?m, ?h⟩
 case h => conv => lhs; reduce
def m111 : M := g111.m
def fn111 : MFn := ⟨18, [.cell 2 4], m111, .shut⟩
theorem fnOk111 : FnOk Tryz.prog 111 fn111 := ⟨Tryz.f111, _, _, Tryz.func111, rfl, rfl, by kernel_rfl, by kernel_rfl, g111.h⟩
/- seisin/tags.New -/
def g112 : Got (cmp 32 (kpL passing [] [[0, 1], [1, 2, 4], [4], [1, 2, 4], [2, 4, 6], [4], [2, 4, 6], [2, 4, 6, 7], [4, 6, 7, 22, 23], [4, 6, 7, 22, 23], [4, 6, 7, 8, 22, 23], [4, 6, 7, 22, 23], [4, 7]]) (bodyOf Tryz.f112)) := by
 refine ⟨?m, ?h⟩
 case h => conv => lhs; cbv
def m112 : M := g112.m
def fn112 : MFn := ⟨32, [.cell 4 174, .tmp 5], m112, .shut⟩
theorem fnOk112 : FnOk Tryz.prog 112 fn112 := ⟨Tryz.f112, _, _, Tryz.func112, rfl, rfl, by kernel_rfl, by kernel_rfl, g112.h⟩
/- seisin/geo.valid -/
def g113 : Got (cmp 10 (kpL passing [] [[0], [1, 2], [2], [1, 2]]) (bodyOf Tryz.f113)) := by
 refine ⟨?m, ?h⟩
 case h => conv => lhs; cbv
def m113 : M := g113.m
def fn113 : MFn := ⟨10, [.cell 2 204, .tmp 3], m113, .shut⟩
theorem fnOk113 : FnOk Tryz.prog 113 fn113 := ⟨Tryz.f113, _, _, Tryz.func113, rfl, rfl, by kernel_rfl, by kernel_rfl, g113.h⟩
/- (seisin/geo.place).line -/
def g114 : Got (cmp 11 (kpL passing [] [[0, 1], [1, 2]]) (bodyOf Tryz.f114)) := by
 refine ⟨?m, ?h⟩
 case h => conv => lhs; cbv
def m114 : M := g114.m
def fn114 : MFn := ⟨11, [.tmp 4], m114, .shut⟩
theorem fnOk114 : FnOk Tryz.prog 114 fn114 := ⟨Tryz.f114, _, _, Tryz.func114, rfl, rfl, by kernel_rfl, by kernel_rfl, g114.h⟩
/- (seisin/geo.place).locs -/
def g115 : Got (cmp 6 (kpL passing [] [[0, 1], [2, 3]]) (bodyOf Tryz.f115)) := by
 refine ⟨?m, ?h⟩
 case h => conv => lhs; cbv
def m115 : M := g115.m
def fn115 : MFn := ⟨6, [.tmp 4], m115, .pass⟩
theorem fnOk115 : FnOk Tryz.prog 115 fn115 := ⟨Tryz.f115, _, _, Tryz.func115, rfl, rfl, by kernel_rfl, by kernel_rfl, g115.h⟩
/- (seisin/geo.place).word -/
def g116 : Got (cmp 11 (kpL passing [] [[0, 1], [1, 2]]) (bodyOf Tryz.f116)) := by
 refine ⟨?m, ?h⟩
 case h => conv => lhs; cbv
def m116 : M := g116.m
def fn116 : MFn := ⟨11, [.tmp 4], m116, .shut⟩
theorem fnOk116 : FnOk Tryz.prog 116 fn116 := ⟨Tryz.f116, _, _, Tryz.func116, rfl, rfl, by kernel_rfl, by kernel_rfl, g116.h⟩
/- seisin/view.New -/
def g117 : Got (cmp 16 (kpL passing [] [[0, 1], [0, 1, 4], [4], [0, 4]]) (bodyOf Tryz.f117)) := by
 refine ⟨?m, ?h⟩
 case h => conv => lhs; cbv
def m117 : M := g117.m
def fn117 : MFn := ⟨16, [.cell 4 61], m117, .shut⟩
theorem fnOk117 : FnOk Tryz.prog 117 fn117 := ⟨Tryz.f117, _, _, Tryz.func117, rfl, rfl, by kernel_rfl, by kernel_rfl, g117.h⟩
/- seisin/core.Next -/
def g118 : Got (cmp 96 (kpL passing [] [[0, 1, 2], [0, 4, 5], [0, 4, 5, 7], [0, 4, 5, 7, 8], [7, 8], [0, 4, 5, 7, 8], [4, 5, 7, 8, 9], [4, 5, 7, 8, 9, 32], [4, 5, 7, 8, 9, 32], [8], [4, 5, 7, 8, 9, 32], [7, 8, 9], [4, 5, 7, 8, 9, 32], [4, 5, 8], [4, 5, 8], [5, 8], [5, 7, 8, 9, 32], [5, 8, 9], [5, 8, 11], [8], [5, 8], [5, 7, 8, 32], [5, 7, 8, 32], [5, 7, 8, 32], [5, 7, 8], []]) (bodyOf Tryz.f118)) := by
 refine ⟨?m, ?h⟩
 case h => conv => lhs; cbv
def m118 : M := g118.m
def fn118 : MFn := ⟨96, [.tmp 6], m118, .shut⟩
theorem fnOk118 : FnOk Tryz.prog 118 fn118 := ⟨Tryz.f118, _, _, Tryz.func118, rfl, rfl, by kernel_rfl, by kernel_rfl, g118.h⟩
/- (*seisin/sys.run).ins -/
def g119 : Got (cmp 23 (kpL passing [] [[0, 1], [0, 1], [0, 1], []]) (bodyOf Tryz.f119)) := by
 refine ⟨?m, ?h⟩
 case h => conv => lhs; cbv
def m119 : M := g119.m
def fn119 : MFn := ⟨23, [.tmp 4], m119, .pass⟩
theorem fnOk119 : FnOk Tryz.prog 119 fn119 := ⟨Tryz.f119, _, _, Tryz.func119, rfl, rfl, by kernel_rfl, by kernel_rfl, g119.h⟩
/- (*seisin/sys.run).stepCore$1 -/
def g120 : Got (cmp 20 (kpL passing [] [[0, 1, 2]]) (bodyOf Tryz.f120)) := by
 refine ⟨?m, ?h⟩
 case h => conv => lhs; reduce
def m120 : M := g120.m
def fn120 : MFn := ⟨20, [], m120, .pass⟩
theorem fnOk120 : FnOk Tryz.prog 120 fn120 := ⟨Tryz.f120, _, _, Tryz.func120, rfl, rfl, by kernel_rfl, by kernel_rfl, g120.h⟩
/- seisin/core.Local -/
def g121 : Got (cmp 44 (kpL passing [] [[0, 1, 2], [0, 4, 5, 6], [0, 4, 5, 6, 7], [6, 7], [0, 5, 6, 7], [6, 7], [6, 7, 8], [6, 7, 9, 10], [6, 7, 9], [6, 7]]) (bodyOf Tryz.f121)) := by
 refine ⟨?m, ?h⟩
 case h => conv => lhs; cbv
def m121 : M := g121.m
def fn121 : MFn := ⟨44, [.cell 6 161], m121, .shut⟩
theorem fnOk121 : FnOk Tryz.prog 121 fn121 := ⟨Tryz.f121, _, _, Tryz.func121, rfl, rfl, by kernel_rfl, by kernel_rfl, g121.h⟩
/- (*seisin/sys.run).want -/
def g122 : Got (cmp 40 (kpL passing [] [[0, 1, 2, 3], [4, 5, 6, 7], [], [4, 5, 6, 7], [4, 5, 7, 10, 11], [11], [4, 5, 7, 10]]) (bodyOf Tryz.f122)) := by
 refine ⟨?m, ?h⟩
 case h => conv => lhs; reduce
def m122 : M := g122.m
def fn122 : MFn := ⟨40, [.tmp 8, .tmp 9], m122, .pass⟩
theorem fnOk122 : FnOk Tryz.prog 122 fn122 := ⟨Tryz.f122, _, _, Tryz.func122, rfl, rfl, by kernel_rfl, by kernel_rfl, g122.h⟩
/- seisin/core.Ask -/
def g123 : Got (cmp 56 (kpL passing [] [[0, 1], [0, 3, 4], [4], [0, 3, 4], [3, 4, 5], [3, 4, 5, 19], [4, 5], [3, 4, 5, 19], [3, 4, 5, 19], [3, 4, 5, 19], [3, 4, 5], [3, 4, 5, 19], [3, 4, 5], [4]]) (bodyOf Tryz.f123)) := by
 refine ⟨?m, ?h⟩
 case h => conv => lhs; reduce
def m123 : M := g123.m
def fn123 : MFn := ⟨56, [.cell 4 172], m123, .shut⟩
theorem fnOk123 : FnOk Tryz.prog 123 fn123 := ⟨Tryz.f123, _, _, Tryz.func123, rfl, rfl, by kernel_rfl, by kernel_rfl, g123.h⟩
/- seisin/core.Drain -/
def g124 : Got (cmp 28 (kpL passing [] [[0], [1, 2], [2], [1, 2]]) (bodyOf Tryz.f124)) := by
 refine ⟨?m, ?h⟩
 case h => conv => lhs; reduce
def m124 : M := g124.m
def fn124 : MFn := ⟨28, [.cell 2 172, .tmp 3], m124, .shut⟩
theorem fnOk124 : FnOk Tryz.prog 124 fn124 := ⟨Tryz.f124, _, _, Tryz.func124, rfl, rfl, by kernel_rfl, by kernel_rfl, g124.h⟩
/- seisin/cache.Try -/
def g125 : Got (cmp 123 (kpL passing [] [[0, 1, 2, 3], [2, 4, 5, 7, 8], [7, 8], [2, 4, 5, 7, 8], [7, 8], [2, 4, 5, 7, 8], [7, 8], [2, 4, 5, 7, 8], [2, 4, 5, 7, 8, 12], [2, 4, 5, 7, 8], [2, 4, 5, 7, 8, 12], [2, 4, 5, 7, 8, 12, 13], [2, 4, 5, 7, 8, 12, 13, 14, 15], [2, 4, 5, 7, 8, 12, 13, 14, 15, 16, 17], [7, 8, 17], [2, 4, 5, 7, 8, 12, 13, 14, 15, 16], [2, 4, 5, 7, 8, 12, 13, 14, 15, 16, 19], [2, 4, 5, 7, 8, 13], [2, 4, 5, 7, 8, 13, 20], [2, 4, 5, 7, 8, 21, 22], [7, 8], [2, 4, 5, 7, 8, 21], [2, 4, 5, 7, 8, 12, 14]]) (bodyOf Tryz.f125)) := by
 refine ⟨?m, ?h⟩
 case h => conv => lhs; cbv
def m125 : M := g125.m
def fn125 : MFn := ⟨123, [.cell 8 174, .tmp 9, .tmp 10, .tmp 11], m125, .shut⟩
theorem fnOk125 : FnOk Tryz.prog 125 fn125 := ⟨Tryz.f125, _, _, Tryz.func125, rfl, rfl, by kernel_rfl, by kernel_rfl, g125.h⟩
/- (*seisin/sys.run).result -/
def g126 : Got (cmp 12 (kpL passing [] [[0, 1, 2, 3, 4], [5, 6, 7, 8, 9]]) (bodyOf Tryz.f126)) := by
 refine ⟨?m, ?h⟩
 case h => conv => lhs; cbv
def m126 : M := g126.m
def fn126 : MFn := ⟨12, [.tmp 10], m126, .pass⟩
theorem fnOk126 : FnOk Tryz.prog 126 fn126 := ⟨Tryz.f126, _, _, Tryz.func126, rfl, rfl, by kernel_rfl, by kernel_rfl, g126.h⟩
/- seisin/tags.Get -/
def g127 : Got (cmp 28 (kpL passing [] [[0, 1, 2], [2, 3, 4, 6], [4, 6, 8, 9, 10], [6], [4, 6, 8, 9]]) (bodyOf Tryz.f127)) := by
 refine ⟨?m, ?h⟩
 case h => conv => lhs; cbv
def m127 : M := g127.m
def fn127 : MFn := ⟨28, [.cell 6 165, .tmp 7], m127, .shut⟩
theorem fnOk127 : FnOk Tryz.prog 127 fn127 := ⟨Tryz.f127, _, _, Tryz.func127, rfl, rfl, by kernel_rfl, by kernel_rfl, g127.h⟩
/- seisin/cache.Evict -/
def g128 : Got (cmp 52 (kpL passing [] [[0, 1, 2, 3, 4], [2, 4, 5, 6, 8, 10], [8, 10], [2, 4, 5, 6, 8, 10], [2, 5, 6, 8, 10, 13], [10, 15, 16, 18]]) (bodyOf Tryz.f128)) := by
 refine ⟨?m, ?h⟩
 case h => conv => lhs; cbv
def m128 : M := g128.m
def fn128 : MFn := ⟨52, [.cell 10 174, .tmp 11, .tmp 12], m128, .shut⟩
theorem fnOk128 : FnOk Tryz.prog 128 fn128 := ⟨Tryz.f128, _, _, Tryz.func128, rfl, rfl, by kernel_rfl, by kernel_rfl, g128.h⟩
/- slices.IndexFunc[[]int,int] -/
def g129 : Got (cmp 19 (kpL passing [] [[0, 1], [0, 1], [0, 1, 7, 8], [0, 1, 7, 8], [0, 1, 5, 7, 8], [5], [0, 1, 7, 8], []]) (bodyOf Tryz.f129)) := by
 refine ⟨?m, ?h⟩
 case h => conv => lhs; cbv
def m129 : M := g129.m
def fn129 : MFn := ⟨19, [.tmp 4], m129, .pass⟩
theorem fnOk129 : FnOk Tryz.prog 129 fn129 := ⟨Tryz.f129, _, _, Tryz.func129, rfl, rfl, by kernel_rfl, by kernel_rfl, g129.h⟩
/- (*seisin/sys.run).stepMsg$1 -/
def g130 : Got (cmp 15 (kpL passing [] [[0, 1, 2], [0, 1, 2]]) (bodyOf Tryz.f130)) := by
 refine ⟨?m, ?h⟩
 case h => conv => lhs; reduce
def m130 : M := g130.m
def fn130 : MFn := ⟨15, [.tmp 4], m130, .pass⟩
theorem fnOk130 : FnOk Tryz.prog 130 fn130 := ⟨Tryz.f130, _, _, Tryz.func130, rfl, rfl, by kernel_rfl, by kernel_rfl, g130.h⟩
/- seisin/net.Take -/
def g131 : Got (cmp 29 (kpL passing [] [[0, 1], [0, 1, 5], [5], [0, 1, 5]]) (bodyOf Tryz.f131)) := by
 refine ⟨?m, ?h⟩
 case h => conv => lhs; reduce
def m131 : M := g131.m
def fn131 : MFn := ⟨29, [.tmp 4, .cell 5 77, .tmp 6], m131, .shut⟩
theorem fnOk131 : FnOk Tryz.prog 131 fn131 := ⟨Tryz.f131, _, _, Tryz.func131, rfl, rfl, by kernel_rfl, by kernel_rfl, g131.h⟩
/- seisin/geo.IsCache -/
def g132 : Got (cmp 22 (kpL passing [] [[0, 1], [1, 2], [1, 5, 6]]) (bodyOf Tryz.f132)) := by
 refine ⟨?m, ?h⟩
 case h => conv => lhs; cbv
def m132 : M := g132.m
def fn132 : MFn := ⟨22, [.tmp 4], m132, .shut⟩
theorem fnOk132 : FnOk Tryz.prog 132 fn132 := ⟨Tryz.f132, _, _, Tryz.func132, rfl, rfl, by kernel_rfl, by kernel_rfl, g132.h⟩
/- seisin/cache.Get -/
def g133 : Got (cmp 75 (kpL passing [] [[0, 1, 2, 3, 4], [2, 5, 6, 8, 9, 10], [8, 10], [2, 5, 6, 8, 9, 10], [2, 5, 6, 8, 9, 10, 14], [2, 5, 6, 8, 9, 10, 14, 16, 17], [8, 10], [2, 5, 6, 8, 9, 10, 14, 16], [5, 9, 10, 18], [5, 10, 18]]) (bodyOf Tryz.f133)) := by
 refine ⟨?m, ?h⟩
 case h => conv => lhs; reduce
def m133 : M := g133.m
def fn133 : MFn := ⟨75, [.cell 10 174, .tmp 11, .tmp 12, .tmp 13], m133, .shut⟩
theorem fnOk133 : FnOk Tryz.prog 133 fn133 := ⟨Tryz.f133, _, _, Tryz.func133, rfl, rfl, by kernel_rfl, by kernel_rfl, g133.h⟩
/- (*seisin/sys.run).stepMsg$2 -/
def g134 : Got (cmp 10 (kpL passing [] [[0, 1, 2], [2]]) (bodyOf Tryz.f134)) := by
 refine ⟨?m, ?h⟩
 case h => conv => lhs; cbv
def m134 : M := g134.m
def fn134 : MFn := ⟨10, [], m134, .pass⟩
theorem fnOk134 : FnOk Tryz.prog 134 fn134 := ⟨Tryz.f134, _, _, Tryz.func134, rfl, rfl, by kernel_rfl, by kernel_rfl, g134.h⟩
/- seisin/geo.IsHome -/
def g135 : Got (cmp 25 (kpL passing [] [[0, 1], [1, 2], [1, 5, 6]]) (bodyOf Tryz.f135)) := by
 refine ⟨?m, ?h⟩
 case h => conv => lhs; cbv
def m135 : M := g135.m
def fn135 : MFn := ⟨25, [.tmp 4], m135, .shut⟩
theorem fnOk135 : FnOk Tryz.prog 135 fn135 := ⟨Tryz.f135, _, _, Tryz.func135, rfl, rfl, by kernel_rfl, by kernel_rfl, g135.h⟩
/- seisin/home.Get -/
def g136 : Got (cmp 86 (kpL passing [] [[0, 1, 2, 3, 4], [2, 5, 6, 8, 9, 10], [8, 10], [2, 5, 6, 8, 9, 10], [2, 5, 6, 8, 9, 10, 30], [2, 5, 6, 8, 9, 10, 30], [8, 9, 10], [2, 5, 6, 8, 9, 10], [2, 5, 6, 8, 9, 10, 13, 14], [8, 10], [2, 5, 6, 8, 9, 10, 13], [8, 10], [2, 5, 6, 8, 9, 10, 13], [8, 10], [2, 5, 6, 8, 9, 10, 13], [2, 6, 8, 9, 10, 15], [2, 6, 8, 9, 10, 15, 16], [8, 10, 16], [2, 6, 8, 9, 10, 15], [10, 15, 17], [10, 15, 17], [10, 17]]) (bodyOf Tryz.f136)) := by
 refine ⟨?m, ?h⟩
 case h => conv => lhs; reduce
def m136 : M := g136.m
def fn136 : MFn := ⟨86, [.cell 10 65, .tmp 11, .tmp 12], m136, .shut⟩
theorem fnOk136 : FnOk Tryz.prog 136 fn136 := ⟨Tryz.f136, _, _, Tryz.func136, rfl, rfl, by kernel_rfl, by kernel_rfl, g136.h⟩
/- (*seisin/sys.run).stepMsg$3 -/
def g137 : Got (cmp 20 (kpL passing [] [[0, 1, 2, 3, 4], [1, 3, 4]]) (bodyOf Tryz.f137)) := by
 refine ⟨?m, ?h⟩
 case h => conv => lhs; reduce
def m137 : M := g137.m
def fn137 : MFn := ⟨20, [], m137, .pass⟩
theorem fnOk137 : FnOk Tryz.prog 137 fn137 := ⟨Tryz.f137, _, _, Tryz.func137, rfl, rfl, by kernel_rfl, by kernel_rfl, g137.h⟩
/- seisin/net.Send -/
def g138 : Got (cmp 9 (kpL passing [] [[0, 1], [0, 1]]) (bodyOf Tryz.f138)) := by
 refine ⟨?m, ?h⟩
 case h => conv => lhs; cbv
def m138 : M := g138.m
def fn138 : MFn := ⟨9, [.tmp 4], m138, .shut⟩
theorem fnOk138 : FnOk Tryz.prog 138 fn138 := ⟨Tryz.f138, _, _, Tryz.func138, rfl, rfl, by kernel_rfl, by kernel_rfl, g138.h⟩
/- seisin/net.known -/
def g139 : Got (cmp 9 (kpL passing [] [[0], [0]]) (bodyOf Tryz.f139)) := by
 refine ⟨?m, ?h⟩
 case h => conv => lhs; cbv
def m139 : M := g139.m
def fn139 : MFn := ⟨9, [.tmp 2], m139, .shut⟩
theorem fnOk139 : FnOk Tryz.prog 139 fn139 := ⟨Tryz.f139, _, _, Tryz.func139, rfl, rfl, by kernel_rfl, by kernel_rfl, g139.h⟩
/- seisin/net.ready -/
def g140 : Got (cmp 6 (kpL passing [] [[0, 1], [2, 3]]) (bodyOf Tryz.f140)) := by
 refine ⟨?m, ?h⟩
 case h => conv => lhs; cbv
def m140 : M := g140.m
def fn140 : MFn := ⟨6, [.tmp 4], m140, .pass⟩
theorem fnOk140 : FnOk Tryz.prog 140 fn140 := ⟨Tryz.f140, _, _, Tryz.func140, rfl, rfl, by kernel_rfl, by kernel_rfl, g140.h⟩
/- slices.Index[[]seisin/api.Msg,seisin/api.Msg] -/
def g141 : Got (cmp 19 (kpL passing [] [[0, 1], [0, 3], [0, 3, 7, 8], [0, 3, 7, 8], [0, 3, 5, 7, 8], [5], [0, 3, 7, 8], []]) (bodyOf Tryz.f141)) := by
 refine ⟨?m, ?h⟩
 case h => conv => lhs; reduce
def m141 : M := g141.m
def fn141 : MFn := ⟨19, [.tmp 4], m141, .shut⟩
theorem fnOk141 : FnOk Tryz.prog 141 fn141 := ⟨Tryz.f141, _, _, Tryz.func141, rfl, rfl, by kernel_rfl, by kernel_rfl, g141.h⟩
/- slices.Clone[[]seisin/api.Core,seisin/api.Core] -/
def g142 : Got (cmp 8 (kpL passing [] [[0], [0], [], [0]]) (bodyOf Tryz.f142)) := by
 refine ⟨?m, ?h⟩
 case h => conv => lhs; cbv
def m142 : M := g142.m
def fn142 : MFn := ⟨8, [.tmp 2], m142, .pass⟩
theorem fnOk142 : FnOk Tryz.prog 142 fn142 := ⟨Tryz.f142, _, _, Tryz.func142, rfl, rfl, by kernel_rfl, by kernel_rfl, g142.h⟩
/- slices.Clone[[]seisin/api.Store,seisin/api.Store] -/
def g143 : Got (cmp 8 (kpL passing [] [[0], [0], [], [0]]) (bodyOf Tryz.f143)) := by
 refine ⟨?m, ?h⟩
 case h => conv => lhs; cbv
def m143 : M := g143.m
def fn143 : MFn := ⟨8, [.tmp 2], m143, .shut⟩
theorem fnOk143 : FnOk Tryz.prog 143 fn143 := ⟨Tryz.f143, _, _, Tryz.func143, rfl, rfl, by kernel_rfl, by kernel_rfl, g143.h⟩
/- slices.Clone[[]seisin/api.Cache,seisin/api.Cache] -/
def g144 : Got (cmp 8 (kpL passing [] [[0], [0], [], [0]]) (bodyOf Tryz.f144)) := by
 refine ⟨?m, ?h⟩
 case h => conv => lhs; cbv
def m144 : M := g144.m
def fn144 : MFn := ⟨8, [.tmp 2], m144, .pass⟩
theorem fnOk144 : FnOk Tryz.prog 144 fn144 := ⟨Tryz.f144, _, _, Tryz.func144, rfl, rfl, by kernel_rfl, by kernel_rfl, g144.h⟩
/- slices.Clone[[]seisin/api.Msg,seisin/api.Msg] -/
def g145 : Got (cmp 8 (kpL passing [] [[0], [0], [], [0]]) (bodyOf Tryz.f145)) := by
 refine ⟨?m, ?h⟩
 case h => conv => lhs; cbv
def m145 : M := g145.m
def fn145 : MFn := ⟨8, [.tmp 2], m145, .shut⟩
theorem fnOk145 : FnOk Tryz.prog 145 fn145 := ⟨Tryz.f145, _, _, Tryz.func145, rfl, rfl, by kernel_rfl, by kernel_rfl, g145.h⟩
/- internal/stringslite.IndexByte -/
def g146 : Got (cmp 8 (kpL passing [] [[0, 1], [0, 1]]) (bodyOf Tryz.f146)) := by
 refine ⟨?m, ?h⟩
 case h => conv => lhs; cbv
def m146 : M := g146.m
def fn146 : MFn := ⟨8, [.tmp 4], m146, .shut⟩
theorem fnOk146 : FnOk Tryz.prog 146 fn146 := ⟨Tryz.f146, _, _, Tryz.func146, rfl, rfl, by kernel_rfl, by kernel_rfl, g146.h⟩
/- strings.explode -/
def g150 : Got (cmp 50 (kpL passing [] [[0, 1], [0, 1], [0, 1, 5], [0, 5], [0, 1], [0, 1, 6], [0, 1, 6, 7], [0, 1, 6, 7], [0, 1, 6, 7], [0, 1, 6, 7, 9], [0, 1, 6, 7, 9], [0, 1, 6], [0, 1, 6], [6]]) (bodyOf Tryz.f150)) := by
 refine ⟨?m, ?h⟩
 case h => conv => lhs; cbv
def m150 : M := g150.m
def fn150 : MFn := ⟨50, [.tmp 4], m150, .shut⟩
theorem fnOk150 : FnOk Tryz.prog 150 fn150 := ⟨Tryz.f150, _, _, Tryz.func150, rfl, rfl, by kernel_rfl, by kernel_rfl, g150.h⟩
/- strings.Count -/
def g151 : Got (cmp 34 (kpL passing [] [[0, 1], [0, 1], [0], [0, 1], [0, 1], [0, 1], [0, 1, 5], [0, 1, 5, 6], [5], [0, 1, 5, 6], [0, 1, 5, 6]]) (bodyOf Tryz.f151)) := by
 refine ⟨?m, ?h⟩
 case h => conv => lhs; cbv
def m151 : M := g151.m
def fn151 : MFn := ⟨34, [.tmp 4], m151, .shut⟩
theorem fnOk151 : FnOk Tryz.prog 151 fn151 := ⟨Tryz.f151, _, _, Tryz.func151, rfl, rfl, by kernel_rfl, by kernel_rfl, g151.h⟩
/- strings.Index -/
def g152 : Got (cmp 8 (kpL passing [] [[0, 1], [0, 1]]) (bodyOf Tryz.f152)) := by
 refine ⟨?m, ?h⟩
 case h => conv => lhs; cbv
def m152 : M := g152.m
def fn152 : MFn := ⟨8, [.tmp 4], m152, .shut⟩
theorem fnOk152 : FnOk Tryz.prog 152 fn152 := ⟨Tryz.f152, _, _, Tryz.func152, rfl, rfl, by kernel_rfl, by kernel_rfl, g152.h⟩
/- seisin/check.demands -/
def g164 : Got (cmp 18 (kpL passing [] [[0], [1], [1, 3]]) (bodyOf Tryz.f164)) := by
 refine ⟨?m, ?h⟩
 case h => conv => lhs; cbv
def m164 : M := g164.m
def fn164 : MFn := ⟨18, [.tmp 2], m164, .pass⟩
theorem fnOk164 : FnOk Tryz.prog 164 fn164 := ⟨Tryz.f164, _, _, Tryz.func164, rfl, rfl, by kernel_rfl, by kernel_rfl, g164.h⟩
/- seisin/spec.named -/
def g165 : Got (cmp 32 (kpL passing [] [[0], [0], [], [0], [0, 14, 15], [0, 14, 15], [0, 3, 14, 15], [0, 4, 14, 15], [], [0, 14, 15], []]) (bodyOf Tryz.f165)) := by
 refine ⟨?m, ?h⟩
 case h => conv => lhs; cbv
def m165 : M := g165.m
def fn165 : MFn := ⟨32, [.tmp 2], m165, .shut⟩
theorem fnOk165 : FnOk Tryz.prog 165 fn165 := ⟨Tryz.f165, _, _, Tryz.func165, rfl, rfl, by kernel_rfl, by kernel_rfl, g165.h⟩
/- seisin/spec.cells -/
def g166 : Got (cmp 1 (kpL passing [] [[], []]) (bodyOf Tryz.f166)) := by
 refine ⟨?m, ?h⟩
 case h => conv => lhs; cbv
def m166 : M := g166.m
def fn166 : MFn := ⟨1, [.tmp 0], m166, .pass⟩
theorem fnOk166 : FnOk Tryz.prog 166 fn166 := ⟨Tryz.f166, _, _, Tryz.func166, rfl, rfl, by kernel_rfl, by kernel_rfl, g166.h⟩
/- (seisin/spec.part).right -/
def g167 : Got (cmp 42 (kpL passing [] [[0, 1], [2, 3], [2, 3, 6], [2, 3, 6], [2, 3, 6], [3], [2, 3, 6], [2, 3], [3], [3], []]) (bodyOf Tryz.f167)) := by
 refine ⟨?m, ?h⟩
 case h => conv => lhs; cbv
def m167 : M := g167.m
def fn167 : MFn := ⟨42, [.tmp 4], m167, .shut⟩
theorem fnOk167 : FnOk Tryz.prog 167 fn167 := ⟨Tryz.f167, _, _, Tryz.func167, rfl, rfl, by kernel_rfl, by kernel_rfl, g167.h⟩
/- (seisin/spec.place).in -/
def g168 : Got (cmp 27 (kpL passing [] [[0, 1], [1, 2], [1, 2], [1, 2]]) (bodyOf Tryz.f168)) := by
 refine ⟨?m, ?h⟩
 case h => conv => lhs; reduce
def m168 : M := g168.m
def fn168 : MFn := ⟨27, [.tmp 4], m168, .pass⟩
theorem fnOk168 : FnOk Tryz.prog 168 fn168 := ⟨Tryz.f168, _, _, Tryz.func168, rfl, rfl, by kernel_rfl, by kernel_rfl, g168.h⟩
/- seisin/tags.fresh -/
def g169 : Got (cmp 8 (kpL passing [] [[0, 1], [0, 1, 4]]) (bodyOf Tryz.f169)) := by
 refine ⟨?m, ?h⟩
 case h => conv => lhs; cbv
def m169 : M := g169.m
def fn169 : MFn := ⟨8, [.cell 4 169], m169, .shut⟩
theorem fnOk169 : FnOk Tryz.prog 169 fn169 := ⟨Tryz.f169, _, _, Tryz.func169, rfl, rfl, by kernel_rfl, by kernel_rfl, g169.h⟩
/- (seisin/geo.place).locs$1 -/
def g170 : Got (cmp 20 (kpL passing [] [[0, 1, 2], [0, 1, 2, 4], [0, 1, 2, 4], [0, 1, 2, 4]]) (bodyOf Tryz.f170)) := by
 refine ⟨?m, ?h⟩
 case h => conv => lhs; reduce
def m170 : M := g170.m
def fn170 : MFn := ⟨20, [], m170, .pass⟩
theorem fnOk170 : FnOk Tryz.prog 170 fn170 := ⟨Tryz.f170, _, _, Tryz.func170, rfl, rfl, by kernel_rfl, by kernel_rfl, g170.h⟩
/- seisin/view.known -/
def g171 : Got (cmp 13 (kpL passing [] [[0], [0]]) (bodyOf Tryz.f171)) := by
 refine ⟨?m, ?h⟩
 case h => conv => lhs; cbv
def m171 : M := g171.m
def fn171 : MFn := ⟨13, [.tmp 2], m171, .shut⟩
theorem fnOk171 : FnOk Tryz.prog 171 fn171 := ⟨Tryz.f171, _, _, Tryz.func171, rfl, rfl, by kernel_rfl, by kernel_rfl, g171.h⟩
/- seisin/view.counts -/
def g172 : Got (cmp 9 (kpL passing [] [[0], [0]]) (bodyOf Tryz.f172)) := by
 refine ⟨?m, ?h⟩
 case h => conv => lhs; cbv
def m172 : M := g172.m
def fn172 : MFn := ⟨9, [.tmp 2], m172, .shut⟩
theorem fnOk172 : FnOk Tryz.prog 172 fn172 := ⟨Tryz.f172, _, _, Tryz.func172, rfl, rfl, by kernel_rfl, by kernel_rfl, g172.h⟩
/- seisin/core.Next$1 -/
def g173 : Got (cmp 13 (kpL passing [] [[0, 1, 2], [0, 1, 2], [0], []]) (bodyOf Tryz.f173)) := by
 refine ⟨?m, ?h⟩
 case h => conv => lhs; cbv
def m173 : M := g173.m
def fn173 : MFn := ⟨13, [.tmp 5], m173, .pass⟩
theorem fnOk173 : FnOk Tryz.prog 173 fn173 := ⟨Tryz.f173, _, _, Tryz.func173, rfl, rfl, by kernel_rfl, by kernel_rfl, g173.h⟩
/- seisin/core.youngest -/
def g174 : Got (cmp 26 (kpL passing [] [[0, 1], [0, 1], [0, 1, 6], [0, 1, 6], [0, 1, 6], [0, 6], []]) (bodyOf Tryz.f174)) := by
 refine ⟨?m, ?h⟩
 case h => conv => lhs; cbv
def m174 : M := g174.m
def fn174 : MFn := ⟨26, [.tmp 4, .tmp 5], m174, .shut⟩
theorem fnOk174 : FnOk Tryz.prog 174 fn174 := ⟨Tryz.f174, _, _, Tryz.func174, rfl, rfl, by kernel_rfl, by kernel_rfl, g174.h⟩
/- seisin/core.own -/
def g175 : Got (cmp 15 (kpL passing [] [[0], [1, 2], [1, 2, 3], [1, 2, 3], [1, 2]]) (bodyOf Tryz.f175)) := by
 refine ⟨?m, ?h⟩
 case h => conv => lhs; cbv
def m175 : M := g175.m
def fn175 : MFn := ⟨15, [.cell 2 161], m175, .shut⟩
theorem fnOk175 : FnOk Tryz.prog 175 fn175 := ⟨Tryz.f175, _, _, Tryz.func175, rfl, rfl, by kernel_rfl, by kernel_rfl, g175.h⟩
/- (*seisin/core.work).move -/
def g176 : Got (cmp 31 (kpL passing [] [[0], [0], []]) (bodyOf Tryz.f176)) := by
 refine ⟨?m, ?h⟩
 case h => conv => lhs; reduce
def m176 : M := g176.m
def fn176 : MFn := ⟨31, [.tmp 2], m176, .pass⟩
theorem fnOk176 : FnOk Tryz.prog 176 fn176 := ⟨Tryz.f176, _, _, Tryz.func176, rfl, rfl, by kernel_rfl, by kernel_rfl, g176.h⟩
/- (*seisin/core.work).skip -/
def g177 : Got (cmp 36 (kpL passing [] [[0], [0], [0], []]) (bodyOf Tryz.f177)) := by
 refine ⟨?m, ?h⟩
 case h => conv => lhs; reduce
def m177 : M := g177.m
def fn177 : MFn := ⟨36, [.tmp 2], m177, .pass⟩
theorem fnOk177 : FnOk Tryz.prog 177 fn177 := ⟨Tryz.f177, _, _, Tryz.func177, rfl, rfl, by kernel_rfl, by kernel_rfl, g177.h⟩
/- (*seisin/core.work).fence -/
def g178 : Got (cmp 3 (kpL passing [] [[], []]) (bodyOf Tryz.f178)) := by
 refine ⟨?m, ?h⟩
 case h => conv => lhs; cbv
def m178 : M := g178.m
def fn178 : MFn := ⟨3, [.tmp 2], m178, .pass⟩
theorem fnOk178 : FnOk Tryz.prog 178 fn178 := ⟨Tryz.f178, _, _, Tryz.func178, rfl, rfl, by kernel_rfl, by kernel_rfl, g178.h⟩
/- (*seisin/core.work).store -/
def g179 : Got (cmp 30 (kpL passing [] [[0], [0], []]) (bodyOf Tryz.f179)) := by
 refine ⟨?m, ?h⟩
 case h => conv => lhs; reduce
def m179 : M := g179.m
def fn179 : MFn := ⟨30, [.tmp 2], m179, .pass⟩
theorem fnOk179 : FnOk Tryz.prog 179 fn179 := ⟨Tryz.f179, _, _, Tryz.func179, rfl, rfl, by kernel_rfl, by kernel_rfl, g179.h⟩
/- (*seisin/core.work).load -/
def g180 : Got (cmp 23 (kpL passing [] [[0], [0], [0, 3, 4], [0, 3], []]) (bodyOf Tryz.f180)) := by
 refine ⟨?m, ?h⟩
 case h => conv => lhs; reduce
def m180 : M := g180.m
def fn180 : MFn := ⟨23, [.tmp 2], m180, .pass⟩
theorem fnOk180 : FnOk Tryz.prog 180 fn180 := ⟨Tryz.f180, _, _, Tryz.func180, rfl, rfl, by kernel_rfl, by kernel_rfl, g180.h⟩
/- (*seisin/core.work).pass -/
def g181 : Got (cmp 23 (kpL passing [] [[0, 1]]) (bodyOf Tryz.f181)) := by
 refine ⟨?m, ?h⟩
 case h => conv => lhs; reduce
def m181 : M := g181.m
def fn181 : MFn := ⟨23, [], m181, .pass⟩
theorem fnOk181 : FnOk Tryz.prog 181 fn181 := ⟨Tryz.f181, _, _, Tryz.func181, rfl, rfl, by kernel_rfl, by kernel_rfl, g181.h⟩
/- seisin/cache.Want -/
def g182 : Got (cmp 27 (kpL passing [] [[0, 1], [2, 3, 4], [2, 4], [2, 3, 4, 7], [2, 3, 4, 7], [2, 3, 4, 7], [2, 3, 4, 7], [2, 3, 4, 7], [2, 3, 4], [2, 4], [2, 3, 4], [2, 4], [2, 3, 4], [2, 4]]) (bodyOf Tryz.f182)) := by
 refine ⟨?m, ?h⟩
 case h => conv => lhs; cbv
def m182 : M := g182.m
def fn182 : MFn := ⟨27, [.cell 4 174, .tmp 5], m182, .shut⟩
theorem fnOk182 : FnOk Tryz.prog 182 fn182 := ⟨Tryz.f182, _, _, Tryz.func182, rfl, rfl, by kernel_rfl, by kernel_rfl, g182.h⟩
/- (*seisin/sys.run).want$1 -/
def g183 : Got (cmp 20 (kpL passing [] [[0, 1, 2, 3]]) (bodyOf Tryz.f183)) := by
 refine ⟨?m, ?h⟩
 case h => conv => lhs; reduce
def m183 : M := g183.m
def fn183 : MFn := ⟨20, [], m183, .pass⟩
theorem fnOk183 : FnOk Tryz.prog 183 fn183 := ⟨Tryz.f183, _, _, Tryz.func183, rfl, rfl, by kernel_rfl, by kernel_rfl, g183.h⟩
/- seisin/core.Value -/
def g184 : Got (cmp 18 (kpL passing [] [[0, 1], [2, 3], [3], [2, 3], [2, 3], []]) (bodyOf Tryz.f184)) := by
 refine ⟨?m, ?h⟩
 case h => conv => lhs; cbv
def m184 : M := g184.m
def fn184 : MFn := ⟨18, [.tmp 4], m184, .shut⟩
theorem fnOk184 : FnOk Tryz.prog 184 fn184 := ⟨Tryz.f184, _, _, Tryz.func184, rfl, rfl, by kernel_rfl, by kernel_rfl, g184.h⟩
/- seisin/cache.owns -/
def g185 : Got (cmp 12 (kpL passing [] [[0, 1], [1, 2]]) (bodyOf Tryz.f185)) := by
 refine ⟨?m, ?h⟩
 case h => conv => lhs; cbv
def m185 : M := g185.m
def fn185 : MFn := ⟨12, [.tmp 4], m185, .shut⟩
theorem fnOk185 : FnOk Tryz.prog 185 fn185 := ⟨Tryz.f185, _, _, Tryz.func185, rfl, rfl, by kernel_rfl, by kernel_rfl, g185.h⟩
/- seisin/geo.Line -/
def g186 : Got (cmp 17 (kpL passing [] [[0, 1], [1, 2], [1, 5, 6], [], [1, 5]]) (bodyOf Tryz.f186)) := by
 refine ⟨?m, ?h⟩
 case h => conv => lhs; cbv
def m186 : M := g186.m
def fn186 : MFn := ⟨17, [.tmp 4], m186, .shut⟩
theorem fnOk186 : FnOk Tryz.prog 186 fn186 := ⟨Tryz.f186, _, _, Tryz.func186, rfl, rfl, by kernel_rfl, by kernel_rfl, g186.h⟩
/- seisin/cache.found -/
def g187 : Got (cmp 23 (kpL passing [] [[0, 1, 2], [2, 3, 4, 6], [2, 6, 8, 9], [2, 6, 8, 9], [6, 8, 9]]) (bodyOf Tryz.f187)) := by
 refine ⟨?m, ?h⟩
 case h => conv => lhs; cbv
def m187 : M := g187.m
def fn187 : MFn := ⟨23, [.cell 6 165, .tmp 7], m187, .shut⟩
theorem fnOk187 : FnOk Tryz.prog 187 fn187 := ⟨Tryz.f187, _, _, Tryz.func187, rfl, rfl, by kernel_rfl, by kernel_rfl, g187.h⟩
/- seisin/cache.rule -/
def g188 : Got (cmp 36 (kpL passing [] [[0, 1, 2], [0, 1, 2, 6], [6], [0, 1, 2, 6], [6, 8], [6, 8, 25], [6, 8], [6, 25], [6], [6, 25], [6], [6]]) (bodyOf Tryz.f188)) := by
 refine ⟨?m, ?h⟩
 case h => conv => lhs; cbv
def m188 : M := g188.m
def fn188 : MFn := ⟨36, [.cell 6 46, .tmp 7], m188, .pass⟩
theorem fnOk188 : FnOk Tryz.prog 188 fn188 := ⟨Tryz.f188, _, _, Tryz.func188, rfl, rfl, by kernel_rfl, by kernel_rfl, g188.h⟩
/- seisin/tags.Free -/
def g189 : Got (cmp 21 (kpL passing [] [[0, 1, 2], [2, 3, 4], [], [2, 3, 4], [2, 4, 8]]) (bodyOf Tryz.f189)) := by
 refine ⟨?m, ?h⟩
 case h => conv => lhs; reduce
def m189 : M := g189.m
def fn189 : MFn := ⟨21, [.tmp 6, .tmp 7], m189, .shut⟩
theorem fnOk189 : FnOk Tryz.prog 189 fn189 := ⟨Tryz.f189, _, _, Tryz.func189, rfl, rfl, by kernel_rfl, by kernel_rfl, g189.h⟩
/- seisin/cache.Try$1 -/
def g190 : Got (cmp 14 (kpL passing [] [[0, 1], [1, 2], [5]]) (bodyOf Tryz.f190)) := by
 refine ⟨?m, ?h⟩
 case h => conv => lhs; cbv
def m190 : M := g190.m
def fn190 : MFn := ⟨14, [.tmp 3], m190, .pass⟩
theorem fnOk190 : FnOk Tryz.prog 190 fn190 := ⟨Tryz.f190, _, _, Tryz.func190, rfl, rfl, by kernel_rfl, by kernel_rfl, g190.h⟩
/- seisin/tags.Victim -/
def g191 : Got (cmp 65 (kpL passing [7, 12] [[0, 1, 2, 3], [2, 4, 5, 7, 8, 9], [8], [2, 4, 5, 7, 8, 9], [2, 5, 7, 8, 9, 10], [5, 7, 8, 9, 10, 11, 12], [7, 12, 33, 34], [7, 12, 13, 34], [7, 12, 13, 14], [12, 13], [5, 8, 11, 12], [5, 8, 11, 15, 16], [8], [5, 8, 11, 15]]) (bodyOf Tryz.f191)) := by
 refine ⟨?m, ?h⟩
 case h => conv => lhs; reduce
def m191 : M := g191.m
def fn191 : MFn := ⟨65, [.cell 8 165, .tmp 9], m191, .pass⟩
theorem fnOk191 : FnOk Tryz.prog 191 fn191 := ⟨Tryz.f191, _, _, Tryz.func191, rfl, rfl, by kernel_rfl, by kernel_rfl, g191.h⟩
/- seisin/cache.transition -/
def g192 : Got (cmp 71 (kpL passing [] [[0, 1], [0, 1, 4], [0, 1, 4, 8], [1, 4, 8, 9, 10], [4, 8, 10], [1, 4, 8, 9], [1, 4, 8, 9, 36, 37], [1, 4, 8, 9, 36, 37], [1, 4, 8, 9, 11, 12, 36, 37], [1, 4, 8, 9, 12, 36, 37], [1, 4, 8, 9, 36, 37], [1, 4, 8, 9], [1, 4, 8, 13], [4, 8, 13], [1, 4]]) (bodyOf Tryz.f192)) := by
 refine ⟨?m, ?h⟩
 case h => conv => lhs; reduce
def m192 : M := g192.m
def fn192 : MFn := ⟨71, [.cell 4 174, .tmp 5, .tmp 6, .tmp 7], m192, .pass⟩
theorem fnOk192 : FnOk Tryz.prog 192 fn192 := ⟨Tryz.f192, _, _, Tryz.func192, rfl, rfl, by kernel_rfl, by kernel_rfl, g192.h⟩
/- seisin/cache.begin -/
def g193 : Got (cmp 18 (kpL passing [] [[0, 1, 2, 3, 4], [1, 4, 5, 7, 8]]) (bodyOf Tryz.f193)) := by
 refine ⟨?m, ?h⟩
 case h => conv => lhs; cbv
def m193 : M := g193.m
def fn193 : MFn := ⟨18, [.tmp 10], m193, .pass⟩
theorem fnOk193 : FnOk Tryz.prog 193 fn193 := ⟨Tryz.f193, _, _, Tryz.func193, rfl, rfl, by kernel_rfl, by kernel_rfl, g193.h⟩
/- (*seisin/sys.run).result$1 -/
def g194 : Got (cmp 62 (kpL passing [] [[0, 1, 2, 3, 4], [1, 2, 3, 4], [1, 2, 4], [1, 2, 4, 26, 27, 28], [1, 2, 4, 26, 27, 28], [1, 2, 4, 6, 26, 27, 28], [1, 2, 4, 26, 27, 28], [1, 4]]) (bodyOf Tryz.f194)) := by
 refine ⟨?m, ?h⟩
 case h => conv => lhs; reduce
def m194 : M := g194.m
def fn194 : MFn := ⟨62, [], m194, .pass⟩
theorem fnOk194 : FnOk Tryz.prog 194 fn194 := ⟨Tryz.f194, _, _, Tryz.func194, rfl, rfl, by kernel_rfl, by kernel_rfl, g194.h⟩
/- seisin/core.Back -/
def g195 : Got (cmp 71 (kpL passing [] [[0, 1, 2], [0, 4, 5, 6], [0, 5, 6, 7], [6, 7], [6, 7, 8], [6, 7, 8], [6, 7, 8], [6, 7], [0, 5, 6, 7], [0, 5, 6, 7], [0, 5, 6, 7], [5, 6, 7], [5, 6, 7], [6, 7], [6, 7], [6, 7]]) (bodyOf Tryz.f195)) := by
 refine ⟨?m, ?h⟩
 case h => conv => lhs; reduce
def m195 : M := g195.m
def fn195 : MFn := ⟨71, [.cell 6 161], m195, .shut⟩
theorem fnOk195 : FnOk Tryz.prog 195 fn195 := ⟨Tryz.f195, _, _, Tryz.func195, rfl, rfl, by kernel_rfl, by kernel_rfl, g195.h⟩
/- seisin/tags.Find -/
def g196 : Got (cmp 29 (kpL passing [] [[0, 1, 2], [2, 3, 4], [], [2, 3, 4], [2, 4, 9], [2, 4, 6, 9], [6, 7, 8]]) (bodyOf Tryz.f196)) := by
 refine ⟨?m, ?h⟩
 case h => conv => lhs; reduce
def m196 : M := g196.m
def fn196 : MFn := ⟨29, [.tmp 6, .tmp 7, .tmp 8], m196, .shut⟩
theorem fnOk196 : FnOk Tryz.prog 196 fn196 := ⟨Tryz.f196, _, _, Tryz.func196, rfl, rfl, by kernel_rfl, by kernel_rfl, g196.h⟩
/- slices.Concat[[]seisin/api.Msg,seisin/api.Msg] -/
def g197 : Got (cmp 36 (kpL passing [] [[0], [0], [0, 3], [0, 3, 9, 10, 11], [0, 3, 9, 10, 11], [0, 3, 5, 9, 10, 11], [0, 3, 9, 10, 11], [0, 3, 9, 10, 11], [0, 3, 9, 10, 11], [0, 3], [0, 6], [6, 25, 26, 27], [6, 25, 26, 27], [6, 8, 25, 26, 27], [6, 25, 26, 27], [6]]) (bodyOf Tryz.f197)) := by
 refine ⟨?m, ?h⟩
 case h => conv => lhs; cbv
def m197 : M := g197.m
def fn197 : MFn := ⟨36, [.tmp 2], m197, .pass⟩
theorem fnOk197 : FnOk Tryz.prog 197 fn197 := ⟨Tryz.f197, _, _, Tryz.func197, rfl, rfl, by kernel_rfl, by kernel_rfl, g197.h⟩
/- (seisin/geo.place).among -/
def g198 : Got (cmp 8 (kpL passing [] [[0, 1, 2], [4, 5]]) (bodyOf Tryz.f198)) := by
 refine ⟨?m, ?h⟩
 case h => conv => lhs; cbv
def m198 : M := g198.m
def fn198 : MFn := ⟨8, [.tmp 6], m198, .pass⟩
theorem fnOk198 : FnOk Tryz.prog 198 fn198 := ⟨Tryz.f198, _, _, Tryz.func198, rfl, rfl, by kernel_rfl, by kernel_rfl, g198.h⟩
/- seisin/cache.On -/
def g199 : Got (cmp 52 (kpL passing [] [[0, 1], [2, 3, 4], [2, 3, 4, 8], [2, 4], [2, 3, 4, 8], [2, 4], [2, 3, 4, 8], [2, 4], [2, 3, 4, 8], [2, 4], [2, 3, 4, 8], [2, 3, 4, 8], [2, 3, 4], [2, 3, 4], [2, 3, 4], [2, 4, 8], [2, 4], [2, 4], [2, 4], [2, 4], [2, 4]]) (bodyOf Tryz.f199)) := by
 refine ⟨?m, ?h⟩
 case h => conv => lhs; reduce
def m199 : M := g199.m
def fn199 : MFn := ⟨52, [.cell 4 165, .tmp 5, .tmp 6], m199, .shut⟩
theorem fnOk199 : FnOk Tryz.prog 199 fn199 := ⟨Tryz.f199, _, _, Tryz.func199, rfl, rfl, by kernel_rfl, by kernel_rfl, g199.h⟩
/- seisin/home.proper -/
def g200 : Got (cmp 32 (kpL passing [] [[0, 1, 2], [1, 3, 5]]) (bodyOf Tryz.f200)) := by
 refine ⟨?m, ?h⟩
 case h => conv => lhs; cbv
def m200 : M := g200.m
def fn200 : MFn := ⟨32, [.tmp 6], m200, .shut⟩
theorem fnOk200 : FnOk Tryz.prog 200 fn200 := ⟨Tryz.f200, _, _, Tryz.func200, rfl, rfl, by kernel_rfl, by kernel_rfl, g200.h⟩
/- seisin/home.end -/
def g201 : Got (cmp 45 (kpL passing [] [[0, 1], [2, 3, 4], [2, 3, 4, 7], [2, 3, 4, 7], [4, 7], [2, 4], [2, 3, 4, 7], [4, 7], [2, 3, 4], [2, 3, 4], [2, 4], [2, 4], [2, 4]]) (bodyOf Tryz.f201)) := by
 refine ⟨?m, ?h⟩
 case h => conv => lhs; cbv
def m201 : M := g201.m
def fn201 : MFn := ⟨45, [.cell 4 65, .tmp 5, .tmp 6], m201, .shut⟩
theorem fnOk201 : FnOk Tryz.prog 201 fn201 := ⟨Tryz.f201, _, _, Tryz.func201, rfl, rfl, by kernel_rfl, by kernel_rfl, g201.h⟩
/- seisin/home.On -/
def g202 : Got (cmp 22 (kpL passing [] [[0, 1], [2, 3], [3, 6], [6, 13], [], [6, 13], [6], [], [], [6, 13], [6], [], [], []]) (bodyOf Tryz.f202)) := by
 refine ⟨?m, ?h⟩
 case h => conv => lhs; cbv
def m202 : M := g202.m
def fn202 : MFn := ⟨22, [.tmp 4, .tmp 5], m202, .shut⟩
theorem fnOk202 : FnOk Tryz.prog 202 fn202 := ⟨Tryz.f202, _, _, Tryz.func202, rfl, rfl, by kernel_rfl, by kernel_rfl, g202.h⟩
/- seisin/home.Busy -/
def g203 : Got (cmp 6 (kpL passing [] [[0], [1]]) (bodyOf Tryz.f203)) := by
 refine ⟨?m, ?h⟩
 case h => conv => lhs; cbv
def m203 : M := g203.m
def fn203 : MFn := ⟨6, [.tmp 2], m203, .shut⟩
theorem fnOk203 : FnOk Tryz.prog 203 fn203 := ⟨Tryz.f203, _, _, Tryz.func203, rfl, rfl, by kernel_rfl, by kernel_rfl, g203.h⟩
/- seisin/home.refused -/
def g204 : Got (cmp 10 (kpL passing [] [[0], [0], [3], [], [3], [], [3], [], []]) (bodyOf Tryz.f204)) := by
 refine ⟨?m, ?h⟩
 case h => conv => lhs; cbv
def m204 : M := g204.m
def fn204 : MFn := ⟨10, [.tmp 2], m204, .shut⟩
theorem fnOk204 : FnOk Tryz.prog 204 fn204 := ⟨Tryz.f204, _, _, Tryz.func204, rfl, rfl, by kernel_rfl, by kernel_rfl, g204.h⟩
/- (*seisin/home.work).carry -/
def g205 : Got (cmp 22 (kpL passing [] [[0, 1], [0, 1, 4], [0, 1, 8, 9], [0, 1, 8, 9], [0, 1, 5, 6, 8, 9], [0, 1, 6, 8, 9], [0, 1, 8, 9]]) (bodyOf Tryz.f205)) := by
 refine ⟨?m, ?h⟩
 case h => conv => lhs; cbv
def m205 : M := g205.m
def fn205 : MFn := ⟨22, [], m205, .pass⟩
theorem fnOk205 : FnOk Tryz.prog 205 fn205 := ⟨Tryz.f205, _, _, Tryz.func205, rfl, rfl, by kernel_rfl, by kernel_rfl, g205.h⟩
/- seisin/net.ready$1 -/
def g206 : Got (cmp 40 (kpL passing [] [[0, 1, 2], [0, 1, 2, 4], [0, 2, 4, 9, 10, 11], [0, 2, 4, 9, 10, 11], [0, 2, 4, 5, 6, 9, 10, 11], [0, 2, 4, 5, 7, 9, 10, 11], [0, 2, 4, 5, 7, 9, 10, 11], [0, 2, 4, 9, 10, 11]]) (bodyOf Tryz.f206)) := by
 refine ⟨?m, ?h⟩
 case h => conv => lhs; reduce
def m206 : M := g206.m
def fn206 : MFn := ⟨40, [], m206, .pass⟩
theorem fnOk206 : FnOk Tryz.prog 206 fn206 := ⟨Tryz.f206, _, _, Tryz.func206, rfl, rfl, by kernel_rfl, by kernel_rfl, g206.h⟩
/- seisin/net.queue -/
def g207 : Got (cmp 20 (kpL passing [] [[0, 1], [1, 2, 4], [2, 4], [2, 4]]) (bodyOf Tryz.f207)) := by
 refine ⟨?m, ?h⟩
 case h => conv => lhs; reduce
def m207 : M := g207.m
def fn207 : MFn := ⟨20, [.cell 4 183], m207, .shut⟩
theorem fnOk207 : FnOk Tryz.prog 207 fn207 := ⟨Tryz.f207, _, _, Tryz.func207, rfl, rfl, by kernel_rfl, by kernel_rfl, g207.h⟩
/- seisin/check.demands$1 -/
def g221 : Got (cmp 20 (kpL passing [] [[0, 1], [0, 1], [0, 9, 10, 11], [0, 9, 10, 11], [0, 5, 9, 10, 11], [], [0, 9, 10, 11], []]) (bodyOf Tryz.f221)) := by
 refine ⟨?m, ?h⟩
 case h => conv => lhs; cbv
def m221 : M := g221.m
def fn221 : MFn := ⟨20, [.tmp 3], m221, .pass⟩
theorem fnOk221 : FnOk Tryz.prog 221 fn221 := ⟨Tryz.f221, _, _, Tryz.func221, rfl, rfl, by kernel_rfl, by kernel_rfl, g221.h⟩
/- seisin/check.demands$2 -/
def g222 : Got (cmp 7 (kpL passing [] [[0], [0]]) (bodyOf Tryz.f222)) := by
 refine ⟨?m, ?h⟩
 case h => conv => lhs; cbv
def m222 : M := g222.m
def fn222 : MFn := ⟨7, [.tmp 1], m222, .pass⟩
theorem fnOk222 : FnOk Tryz.prog 222 fn222 := ⟨Tryz.f222, _, _, Tryz.func222, rfl, rfl, by kernel_rfl, by kernel_rfl, g222.h⟩
/- seisin/check.isWord -/
def g223 : Got (cmp 34 (kpL passing [] [[0], [0], [0, 3, 5]]) (bodyOf Tryz.f223)) := by
 refine ⟨?m, ?h⟩
 case h => conv => lhs; cbv
def m223 : M := g223.m
def fn223 : MFn := ⟨34, [.tmp 2], m223, .shut⟩
theorem fnOk223 : FnOk Tryz.prog 223 fn223 := ⟨Tryz.f223, _, _, Tryz.func223, rfl, rfl, by kernel_rfl, by kernel_rfl, g223.h⟩
/- seisin/check.demands$3 -/
def g224 : Got (cmp 4 (kpL passing [] [[0], [0]]) (bodyOf Tryz.f224)) := by
 refine ⟨?m, ?h⟩
 case h => conv => lhs; cbv
def m224 : M := g224.m
def fn224 : MFn := ⟨4, [.tmp 1], m224, .pass⟩
theorem fnOk224 : FnOk Tryz.prog 224 fn224 := ⟨Tryz.f224, _, _, Tryz.func224, rfl, rfl, by kernel_rfl, by kernel_rfl, g224.h⟩
/- seisin/check.locsRight -/
def g225 : Got (cmp 56 (kpL passing [] [[0], [0], [], [0], [0, 35, 36, 37], [0, 35, 36, 37], [0, 3, 4, 35, 36, 37], [], [0, 35, 36, 37], []]) (bodyOf Tryz.f225)) := by
 refine ⟨?m, ?h⟩
 case h => conv => lhs; reduce
def m225 : M := g225.m
def fn225 : MFn := ⟨56, [.tmp 2], m225, .pass⟩
theorem fnOk225 : FnOk Tryz.prog 225 fn225 := ⟨Tryz.f225, _, _, Tryz.func225, rfl, rfl, by kernel_rfl, by kernel_rfl, g225.h⟩
/- seisin/check.demands$4 -/
def g226 : Got (cmp 21 (kpL passing [] [[0, 1], [0, 1]]) (bodyOf Tryz.f226)) := by
 refine ⟨?m, ?h⟩
 case h => conv => lhs; cbv
def m226 : M := g226.m
def fn226 : MFn := ⟨21, [.tmp 2], m226, .pass⟩
theorem fnOk226 : FnOk Tryz.prog 226 fn226 := ⟨Tryz.f226, _, _, Tryz.func226, rfl, rfl, by kernel_rfl, by kernel_rfl, g226.h⟩
/- seisin/check.demands$4$1 -/
def g227 : Got (cmp 6 (kpL passing [] [[0], [0]]) (bodyOf Tryz.f227)) := by
 refine ⟨?m, ?h⟩
 case h => conv => lhs; cbv
def m227 : M := g227.m
def fn227 : MFn := ⟨6, [.tmp 2], m227, .shut⟩
theorem fnOk227 : FnOk Tryz.prog 227 fn227 := ⟨Tryz.f227, _, _, Tryz.func227, rfl, rfl, by kernel_rfl, by kernel_rfl, g227.h⟩
/- seisin/check.demands$5 -/
def g228 : Got (cmp 6 (kpL passing [] [[0, 1], [0, 1]]) (bodyOf Tryz.f228)) := by
 refine ⟨?m, ?h⟩
 case h => conv => lhs; cbv
def m228 : M := g228.m
def fn228 : MFn := ⟨6, [.tmp 2], m228, .pass⟩
theorem fnOk228 : FnOk Tryz.prog 228 fn228 := ⟨Tryz.f228, _, _, Tryz.func228, rfl, rfl, by kernel_rfl, by kernel_rfl, g228.h⟩
/- seisin/check.demands$5$1 -/
def g229 : Got (cmp 11 (kpL passing [] [[0, 1], [0, 1]]) (bodyOf Tryz.f229)) := by
 refine ⟨?m, ?h⟩
 case h => conv => lhs; cbv
def m229 : M := g229.m
def fn229 : MFn := ⟨11, [.tmp 3], m229, .pass⟩
theorem fnOk229 : FnOk Tryz.prog 229 fn229 := ⟨Tryz.f229, _, _, Tryz.func229, rfl, rfl, by kernel_rfl, by kernel_rfl, g229.h⟩
/- seisin/check.Thread -/
def g230 : Got (cmp 43 (kpL passing [] [[0, 1], [0, 1], [], [0, 1], [0, 5], [0, 5, 6], [0, 5, 6, 17, 18, 19], [0, 5, 6, 17, 18, 19], [0, 5, 6, 7, 8, 17, 18, 19], [0, 5, 6, 17, 18, 19], [0, 5, 6, 17, 18, 19, 32, 33, 34], [0, 5, 6, 17, 18, 19, 32, 33, 34], [0, 5, 6, 10, 17, 18, 19, 32, 33, 34], [], [0, 5, 6, 17, 18, 19, 32, 33, 34], [0, 5, 6, 17, 18, 19], []]) (bodyOf Tryz.f230)) := by
 refine ⟨?m, ?h⟩
 case h => conv => lhs; cbv
def m230 : M := g230.m
def fn230 : MFn := ⟨43, [.tmp 4], m230, .shut⟩
theorem fnOk230 : FnOk Tryz.prog 230 fn230 := ⟨Tryz.f230, _, _, Tryz.func230, rfl, rfl, by kernel_rfl, by kernel_rfl, g230.h⟩
/- seisin/check.demands$6 -/
def g231 : Got (cmp 21 (kpL passing [] [[0], [0]]) (bodyOf Tryz.f231)) := by
 refine ⟨?m, ?h⟩
 case h => conv => lhs; cbv
def m231 : M := g231.m
def fn231 : MFn := ⟨21, [.tmp 1], m231, .pass⟩
theorem fnOk231 : FnOk Tryz.prog 231 fn231 := ⟨Tryz.f231, _, _, Tryz.func231, rfl, rfl, by kernel_rfl, by kernel_rfl, g231.h⟩
/- seisin/check.demands$7 -/
def g232 : Got (cmp 17 (kpL passing [] [[0], [0]]) (bodyOf Tryz.f232)) := by
 refine ⟨?m, ?h⟩
 case h => conv => lhs; reduce
def m232 : M := g232.m
def fn232 : MFn := ⟨17, [.tmp 1], m232, .pass⟩
theorem fnOk232 : FnOk Tryz.prog 232 fn232 := ⟨Tryz.f232, _, _, Tryz.func232, rfl, rfl, by kernel_rfl, by kernel_rfl, g232.h⟩
/- seisin/check.Cond -/
def g233 : Got (cmp 10 (kpL passing [] [[0, 1, 2], [1, 2, 3]]) (bodyOf Tryz.f233)) := by
 refine ⟨?m, ?h⟩
 case h => conv => lhs; cbv
def m233 : M := g233.m
def fn233 : MFn := ⟨10, [.tmp 6], m233, .shut⟩
theorem fnOk233 : FnOk Tryz.prog 233 fn233 := ⟨Tryz.f233, _, _, Tryz.func233, rfl, rfl, by kernel_rfl, by kernel_rfl, g233.h⟩
/- seisin/spec.cells$1 -/
def g234 : Got (cmp 36 (kpL passing [] [[0], [0, 6], [0, 6], [0, 2, 6], [0, 2, 6, 9], [0, 2, 6, 9], [0, 2, 3, 6, 9], [0, 2, 6, 9], [0, 6], [0], [0, 21], [0, 21], [0, 4, 21], [0, 4, 21, 24], [0, 4, 21, 24], [0, 4, 5, 21, 24], [0, 4, 21, 24], [0, 21]]) (bodyOf Tryz.f234)) := by
 refine ⟨?m, ?h⟩
 case h => conv => lhs; cbv
def m234 : M := g234.m
def fn234 : MFn := ⟨36, [], m234, .pass⟩
theorem fnOk234 : FnOk Tryz.prog 234 fn234 := ⟨Tryz.f234, _, _, Tryz.func234, rfl, rfl, by kernel_rfl, by kernel_rfl, g234.h⟩
/- seisin/spec.caches -/
def g235 : Got (cmp 2 (kpL passing [] [[], [0]]) (bodyOf Tryz.f235)) := by
 refine ⟨?m, ?h⟩
 case h => conv => lhs; cbv
def m235 : M := g235.m
def fn235 : MFn := ⟨2, [.cell 0 269], m235, .shut⟩
theorem fnOk235 : FnOk Tryz.prog 235 fn235 := ⟨Tryz.f235, _, _, Tryz.func235, rfl, rfl, by kernel_rfl, by kernel_rfl, g235.h⟩
/- seisin/spec.homes -/
def g236 : Got (cmp 2 (kpL passing [] [[], [0]]) (bodyOf Tryz.f236)) := by
 refine ⟨?m, ?h⟩
 case h => conv => lhs; cbv
def m236 : M := g236.m
def fn236 : MFn := ⟨2, [.cell 0 269], m236, .shut⟩
theorem fnOk236 : FnOk Tryz.prog 236 fn236 := ⟨Tryz.f236, _, _, Tryz.func236, rfl, rfl, by kernel_rfl, by kernel_rfl, g236.h⟩
/- seisin/repl.New -/
def g237 : Got (cmp 43 (kpL passing [] [[0, 1], [0, 1, 4], [0, 1, 4, 6], [4], [0, 1, 4], [0, 1, 4, 7], [4, 7], [1, 4, 7], [4, 7, 32, 33], [4, 7, 32, 33], [4, 7, 8, 32, 33], [4, 7, 32, 33], [4, 7]]) (bodyOf Tryz.f237)) := by
 refine ⟨?m, ?h⟩
 case h => conv => lhs; cbv
def m237 : M := g237.m
def fn237 : MFn := ⟨43, [.cell 4 169], m237, .shut⟩
theorem fnOk237 : FnOk Tryz.prog 237 fn237 := ⟨Tryz.f237, _, _, Tryz.func237, rfl, rfl, by kernel_rfl, by kernel_rfl, g237.h⟩
/- (*seisin/core.work).set -/
def g238 : Got (cmp 21 (kpL passing [] [[0, 1], [0, 1]]) (bodyOf Tryz.f238)) := by
 refine ⟨?m, ?h⟩
 case h => conv => lhs; reduce
def m238 : M := g238.m
def fn238 : MFn := ⟨21, [], m238, .pass⟩
theorem fnOk238 : FnOk Tryz.prog 238 fn238 := ⟨Tryz.f238, _, _, Tryz.func238, rfl, rfl, by kernel_rfl, by kernel_rfl, g238.h⟩
/- seisin/core.Calc -/
def g239 : Got (cmp 23 (kpL passing [] [[0, 1, 2], [0, 1, 2], [1, 2, 7], [1, 2], [1, 2, 7], [1, 2], [1, 2, 7], [1, 2], []]) (bodyOf Tryz.f239)) := by
 refine ⟨?m, ?h⟩
 case h => conv => lhs; cbv
def m239 : M := g239.m
def fn239 : MFn := ⟨23, [.tmp 6], m239, .shut⟩
theorem fnOk239 : FnOk Tryz.prog 239 fn239 := ⟨Tryz.f239, _, _, Tryz.func239, rfl, rfl, by kernel_rfl, by kernel_rfl, g239.h⟩
/- seisin/core.Test -/
def g240 : Got (cmp 23 (kpL passing [] [[0, 1, 2], [0, 1, 2], [1, 2, 7], [1, 2], [1, 2, 7], [1, 2], [1, 2, 7], [1, 2], []]) (bodyOf Tryz.f240)) := by
 refine ⟨?m, ?h⟩
 case h => conv => lhs; cbv
def m240 : M := g240.m
def fn240 : MFn := ⟨23, [.tmp 6], m240, .shut⟩
theorem fnOk240 : FnOk Tryz.prog 240 fn240 := ⟨Tryz.f240, _, _, Tryz.func240, rfl, rfl, by kernel_rfl, by kernel_rfl, g240.h⟩
/- (seisin/tags.frame).first -/
def g241 : Got (cmp 22 (kpL passing [7, 8, 9] [[0, 1, 2, 3], [1, 2, 4, 7, 8, 9], [7, 8, 9, 16, 17], [7, 8, 9, 10, 17], [7, 8, 9, 10, 11], [8, 9, 10], [8, 9]]) (bodyOf Tryz.f241)) := by
 refine ⟨?m, ?h⟩
 case h => conv => lhs; reduce
def m241 : M := g241.m
def fn241 : MFn := ⟨22, [.cell 8 3, .cell 9 4], m241, .pass⟩
theorem fnOk241 : FnOk Tryz.prog 241 fn241 := ⟨Tryz.f241, _, _, Tryz.func241, rfl, rfl, by kernel_rfl, by kernel_rfl, g241.h⟩
/- (seisin/tags.frame).set -/
def g242 : Got (cmp 10 (kpL passing [] [[0, 1], [1, 2]]) (bodyOf Tryz.f242)) := by
 refine ⟨?m, ?h⟩
 case h => conv => lhs; cbv
def m242 : M := g242.m
def fn242 : MFn := ⟨10, [.tmp 4], m242, .shut⟩
theorem fnOk242 : FnOk Tryz.prog 242 fn242 := ⟨Tryz.f242, _, _, Tryz.func242, rfl, rfl, by kernel_rfl, by kernel_rfl, g242.h⟩
/- seisin/tags.free -/
def g243 : Got (cmp 6 (kpL passing [] [[0], [1]]) (bodyOf Tryz.f243)) := by
 refine ⟨?m, ?h⟩
 case h => conv => lhs; cbv
def m243 : M := g243.m
def fn243 : MFn := ⟨6, [.tmp 2], m243, .shut⟩
theorem fnOk243 : FnOk Tryz.prog 243 fn243 := ⟨Tryz.f243, _, _, Tryz.func243, rfl, rfl, by kernel_rfl, by kernel_rfl, g243.h⟩
/- (seisin/tags.frame).row -/
def g244 : Got (cmp 8 (kpL passing [] [[0, 1, 2], [3, 4, 5]]) (bodyOf Tryz.f244)) := by
 refine ⟨?m, ?h⟩
 case h => conv => lhs; cbv
def m244 : M := g244.m
def fn244 : MFn := ⟨8, [.tmp 6], m244, .pass⟩
theorem fnOk244 : FnOk Tryz.prog 244 fn244 := ⟨Tryz.f244, _, _, Tryz.func244, rfl, rfl, by kernel_rfl, by kernel_rfl, g244.h⟩
/- seisin/repl.Victim -/
def g246 : Got (cmp 22 (kpL passing [] [[0, 1], [2, 3], [], [2, 3], [2, 6]]) (bodyOf Tryz.f246)) := by
 refine ⟨?m, ?h⟩
 case h => conv => lhs; reduce
def m246 : M := g246.m
def fn246 : MFn := ⟨22, [.tmp 4, .tmp 5], m246, .shut⟩
theorem fnOk246 : FnOk Tryz.prog 246 fn246 := ⟨Tryz.f246, _, _, Tryz.func246, rfl, rfl, by kernel_rfl, by kernel_rfl, g246.h⟩
/- seisin/cache.acts -/
def g247 : Got (cmp 2 (kpL passing [] [[], [0]]) (bodyOf Tryz.f247)) := by
 refine ⟨?m, ?h⟩
 case h => conv => lhs; cbv
def m247 : M := g247.m
def fn247 : MFn := ⟨2, [.cell 0 354], m247, .shut⟩
theorem fnOk247 : FnOk Tryz.prog 247 fn247 := ⟨Tryz.f247, _, _, Tryz.func247, rfl, rfl, by kernel_rfl, by kernel_rfl, g247.h⟩
/- (*seisin/cache.work).finish -/
def g248 : Got (cmp 101 (kpL passing [] [[0, 1], [0, 1], [0, 1], [0, 12], [0], [0, 12], [0, 12], [0, 12], [0, 12], [0], [0], [0], [0, 5, 6], [6], [0, 5], [0], [0], [0], [0], []]) (bodyOf Tryz.f248)) := by
 refine ⟨?m, ?h⟩
 case h => conv => lhs; reduce
def m248 : M := g248.m
def fn248 : MFn := ⟨101, [.tmp 4], m248, .pass⟩
theorem fnOk248 : FnOk Tryz.prog 248 fn248 := ⟨Tryz.f248, _, _, Tryz.func248, rfl, rfl, by kernel_rfl, by kernel_rfl, g248.h⟩
/- seisin/tags.holds -/
def g249 : Got (cmp 4 (kpL passing [] [[0], [1]]) (bodyOf Tryz.f249)) := by
 refine ⟨?m, ?h⟩
 case h => conv => lhs; cbv
def m249 : M := g249.m
def fn249 : MFn := ⟨4, [.tmp 2], m249, .pass⟩
theorem fnOk249 : FnOk Tryz.prog 249 fn249 := ⟨Tryz.f249, _, _, Tryz.func249, rfl, rfl, by kernel_rfl, by kernel_rfl, g249.h⟩
/- slices.Grow[[]seisin/api.Msg,seisin/api.Msg] -/
def g250 : Got (cmp 27 (kpL passing [] [[0, 1], [0, 1], [0, 1], [0, 1], [0, 1], [0, 1], [0]]) (bodyOf Tryz.f250)) := by
 refine ⟨?m, ?h⟩
 case h => conv => lhs; cbv
def m250 : M := g250.m
def fn250 : MFn := ⟨27, [.tmp 4], m250, .pass⟩
theorem fnOk250 : FnOk Tryz.prog 250 fn250 := ⟨Tryz.f250, _, _, Tryz.func250, rfl, rfl, by kernel_rfl, by kernel_rfl, g250.h⟩
/- (seisin/geo.place).among$1 -/
def g251 : Got (cmp 17 (kpL passing [] [[0, 1, 2], [0, 1, 2]]) (bodyOf Tryz.f251)) := by
 refine ⟨?m, ?h⟩
 case h => conv => lhs; cbv
def m251 : M := g251.m
def fn251 : MFn := ⟨17, [.tmp 4], m251, .pass⟩
theorem fnOk251 : FnOk Tryz.prog 251 fn251 := ⟨Tryz.f251, _, _, Tryz.func251, rfl, rfl, by kernel_rfl, by kernel_rfl, g251.h⟩
/- seisin/cache.answered -/
def g252 : Got (cmp 30 (kpL passing [] [[0, 1], [2, 3], [], [2, 3], [], [2, 3], [], [2], [], []]) (bodyOf Tryz.f252)) := by
 refine ⟨?m, ?h⟩
 case h => conv => lhs; cbv
def m252 : M := g252.m
def fn252 : MFn := ⟨30, [.tmp 4], m252, .shut⟩
theorem fnOk252 : FnOk Tryz.prog 252 fn252 := ⟨Tryz.f252, _, _, Tryz.func252, rfl, rfl, by kernel_rfl, by kernel_rfl, g252.h⟩
/- seisin/geo.Home -/
def g253 : Got (cmp 25 (kpL passing [] [[0, 1], [1, 2], [1, 5, 6], [], [1, 5]]) (bodyOf Tryz.f253)) := by
 refine ⟨?m, ?h⟩
 case h => conv => lhs; reduce
def m253 : M := g253.m
def fn253 : MFn := ⟨25, [.tmp 4], m253, .shut⟩
theorem fnOk253 : FnOk Tryz.prog 253 fn253 := ⟨Tryz.f253, _, _, Tryz.func253, rfl, rfl, by kernel_rfl, by kernel_rfl, g253.h⟩
/- (*seisin/home.work).actInvs -/
def g254 : Got (cmp 5 (kpL passing [] [[0], [1]]) (bodyOf Tryz.f254)) := by
 refine ⟨?m, ?h⟩
 case h => conv => lhs; cbv
def m254 : M := g254.m
def fn254 : MFn := ⟨5, [], m254, .pass⟩
theorem fnOk254 : FnOk Tryz.prog 254 fn254 := ⟨Tryz.f254, _, _, Tryz.func254, rfl, rfl, by kernel_rfl, by kernel_rfl, g254.h⟩
/- (*seisin/home.work).actMem -/
def g255 : Got (cmp 20 (kpL passing [] [[0]]) (bodyOf Tryz.f255)) := by
 refine ⟨?m, ?h⟩
 case h => conv => lhs; reduce
def m255 : M := g255.m
def fn255 : MFn := ⟨20, [], m255, .pass⟩
theorem fnOk255 : FnOk Tryz.prog 255 fn255 := ⟨Tryz.f255, _, _, Tryz.func255, rfl, rfl, by kernel_rfl, by kernel_rfl, g255.h⟩
/- (*seisin/home.work).actAlone -/
def g256 : Got (cmp 20 (kpL passing [] [[0]]) (bodyOf Tryz.f256)) := by
 refine ⟨?m, ?h⟩
 case h => conv => lhs; reduce
def m256 : M := g256.m
def fn256 : MFn := ⟨20, [], m256, .pass⟩
theorem fnOk256 : FnOk Tryz.prog 256 fn256 := ⟨Tryz.f256, _, _, Tryz.func256, rfl, rfl, by kernel_rfl, by kernel_rfl, g256.h⟩
/- (*seisin/home.work).actFwdS -/
def g257 : Got (cmp 22 (kpL passing [] [[0], [0]]) (bodyOf Tryz.f257)) := by
 refine ⟨?m, ?h⟩
 case h => conv => lhs; reduce
def m257 : M := g257.m
def fn257 : MFn := ⟨22, [], m257, .pass⟩
theorem fnOk257 : FnOk Tryz.prog 257 fn257 := ⟨Tryz.f257, _, _, Tryz.func257, rfl, rfl, by kernel_rfl, by kernel_rfl, g257.h⟩
/- (*seisin/home.work).actFwdM -/
def g258 : Got (cmp 26 (kpL passing [] [[0], [0]]) (bodyOf Tryz.f258)) := by
 refine ⟨?m, ?h⟩
 case h => conv => lhs; reduce
def m258 : M := g258.m
def fn258 : MFn := ⟨26, [], m258, .pass⟩
theorem fnOk258 : FnOk Tryz.prog 258 fn258 := ⟨Tryz.f258, _, _, Tryz.func258, rfl, rfl, by kernel_rfl, by kernel_rfl, g258.h⟩
/- (*seisin/home.work).actGrant -/
def g259 : Got (cmp 15 (kpL passing [] [[0]]) (bodyOf Tryz.f259)) := by
 refine ⟨?m, ?h⟩
 case h => conv => lhs; reduce
def m259 : M := g259.m
def fn259 : MFn := ⟨15, [], m259, .pass⟩
theorem fnOk259 : FnOk Tryz.prog 259 fn259 := ⟨Tryz.f259, _, _, Tryz.func259, rfl, rfl, by kernel_rfl, by kernel_rfl, g259.h⟩
/- (*seisin/home.work).actWrite -/
def g260 : Got (cmp 11 (kpL passing [] [[0]]) (bodyOf Tryz.f260)) := by
 refine ⟨?m, ?h⟩
 case h => conv => lhs; cbv
def m260 : M := g260.m
def fn260 : MFn := ⟨11, [], m260, .pass⟩
theorem fnOk260 : FnOk Tryz.prog 260 fn260 := ⟨Tryz.f260, _, _, Tryz.func260, rfl, rfl, by kernel_rfl, by kernel_rfl, g260.h⟩
/- (*seisin/home.work).actBack -/
def g261 : Got (cmp 11 (kpL passing [] [[0]]) (bodyOf Tryz.f261)) := by
 refine ⟨?m, ?h⟩
 case h => conv => lhs; cbv
def m261 : M := g261.m
def fn261 : MFn := ⟨11, [], m261, .pass⟩
theorem fnOk261 : FnOk Tryz.prog 261 fn261 := ⟨Tryz.f261, _, _, Tryz.func261, rfl, rfl, by kernel_rfl, by kernel_rfl, g261.h⟩
/- (*seisin/home.work).actClear -/
def g262 : Got (cmp 12 (kpL passing [] [[0]]) (bodyOf Tryz.f262)) := by
 refine ⟨?m, ?h⟩
 case h => conv => lhs; cbv
def m262 : M := g262.m
def fn262 : MFn := ⟨12, [], m262, .pass⟩
theorem fnOk262 : FnOk Tryz.prog 262 fn262 := ⟨Tryz.f262, _, _, Tryz.func262, rfl, rfl, by kernel_rfl, by kernel_rfl, g262.h⟩
/- (*seisin/home.work).actNote -/
def g263 : Got (cmp 17 (kpL passing [] [[0]]) (bodyOf Tryz.f263)) := by
 refine ⟨?m, ?h⟩
 case h => conv => lhs; reduce
def m263 : M := g263.m
def fn263 : MFn := ⟨17, [], m263, .pass⟩
theorem fnOk263 : FnOk Tryz.prog 263 fn263 := ⟨Tryz.f263, _, _, Tryz.func263, rfl, rfl, by kernel_rfl, by kernel_rfl, g263.h⟩
/- (*seisin/home.work).actBoth -/
def g264 : Got (cmp 27 (kpL passing [] [[0], [0], [0]]) (bodyOf Tryz.f264)) := by
 refine ⟨?m, ?h⟩
 case h => conv => lhs; reduce
def m264 : M := g264.m
def fn264 : MFn := ⟨27, [], m264, .pass⟩
theorem fnOk264 : FnOk Tryz.prog 264 fn264 := ⟨Tryz.f264, _, _, Tryz.func264, rfl, rfl, by kernel_rfl, by kernel_rfl, g264.h⟩
/- (*seisin/home.work).actOwn -/
def g265 : Got (cmp 11 (kpL passing [] [[0]]) (bodyOf Tryz.f265)) := by
 refine ⟨?m, ?h⟩
 case h => conv => lhs; cbv
def m265 : M := g265.m
def fn265 : MFn := ⟨11, [], m265, .pass⟩
theorem fnOk265 : FnOk Tryz.prog 265 fn265 := ⟨Tryz.f265, _, _, Tryz.func265, rfl, rfl, by kernel_rfl, by kernel_rfl, g265.h⟩
/- (*seisin/home.work).actFree -/
def g266 : Got (cmp 6 (kpL passing [] [[0]]) (bodyOf Tryz.f266)) := by
 refine ⟨?m, ?h⟩
 case h => conv => lhs; cbv
def m266 : M := g266.m
def fn266 : MFn := ⟨6, [], m266, .pass⟩
theorem fnOk266 : FnOk Tryz.prog 266 fn266 := ⟨Tryz.f266, _, _, Tryz.func266, rfl, rfl, by kernel_rfl, by kernel_rfl, g266.h⟩
/- (*seisin/home.work).actBusy -/
def g267 : Got (cmp 20 (kpL passing [] [[0], [0]]) (bodyOf Tryz.f267)) := by
 refine ⟨?m, ?h⟩
 case h => conv => lhs; cbv
def m267 : M := g267.m
def fn267 : MFn := ⟨20, [], m267, .pass⟩
theorem fnOk267 : FnOk Tryz.prog 267 fn267 := ⟨Tryz.f267, _, _, Tryz.func267, rfl, rfl, by kernel_rfl, by kernel_rfl, g267.h⟩
/- (*seisin/home.work).actTwice -/
def g268 : Got (cmp 11 (kpL passing [] [[0]]) (bodyOf Tryz.f268)) := by
 refine ⟨?m, ?h⟩
 case h => conv => lhs; cbv
def m268 : M := g268.m
def fn268 : MFn := ⟨11, [], m268, .pass⟩
theorem fnOk268 : FnOk Tryz.prog 268 fn268 := ⟨Tryz.f268, _, _, Tryz.func268, rfl, rfl, by kernel_rfl, by kernel_rfl, g268.h⟩
/- seisin/lex.Lex -/
def g272 : Got (cmp 27 (kpL passing [2, 3, 4] [[0], [0, 2, 3, 4], [2, 3, 4], [0, 2, 3, 4], [2, 3, 4, 5], [2, 3, 4, 15, 16], [2, 3, 4, 6, 16], [2, 3, 4, 6, 7], [2, 3, 4, 6, 7], [2, 6], [2, 3, 4]]) (bodyOf Tryz.f272)) := by
 refine ⟨?m, ?h⟩
 case h => conv => lhs; reduce
def m272 : M := g272.m
def fn272 : MFn := ⟨27, [.cell 2 367, .cell 3 3, .cell 4 27], m272, .shut⟩
theorem fnOk272 : FnOk Tryz.prog 272 fn272 := ⟨Tryz.f272, _, _, Tryz.func272, rfl, rfl, by kernel_rfl, by kernel_rfl, g272.h⟩
/- seisin/lex.Name -/
def g273 : Got (cmp 55 (kpL passing [] [[0], [0], [], [0], [0, 3], [0, 3, 4], [0, 3, 4], [0, 3, 4], [], [0, 3, 4], [0, 3, 4], [0, 3]]) (bodyOf Tryz.f273)) := by
 refine ⟨?m, ?h⟩
 case h => conv => lhs; cbv
def m273 : M := g273.m
def fn273 : MFn := ⟨55, [.tmp 2], m273, .shut⟩
theorem fnOk273 : FnOk Tryz.prog 273 fn273 := ⟨Tryz.f273, _, _, Tryz.func273, rfl, rfl, by kernel_rfl, by kernel_rfl, g273.h⟩
/- slices.Contains[[]string,string] -/
def g274 : Got (cmp 9 (kpL passing [] [[0, 1], [0, 1]]) (bodyOf Tryz.f274)) := by
 refine ⟨?m, ?h⟩
 case h => conv => lhs; cbv
def m274 : M := g274.m
def fn274 : MFn := ⟨9, [.tmp 4], m274, .shut⟩
theorem fnOk274 : FnOk Tryz.prog 274 fn274 := ⟨Tryz.f274, _, _, Tryz.func274, rfl, rfl, by kernel_rfl, by kernel_rfl, g274.h⟩
/- (*seisin/check.spot).conditions -/
def g275 : Got (cmp 14 (kpL passing [] [[0], [1]]) (bodyOf Tryz.f275)) := by
 refine ⟨?m, ?h⟩
 case h => conv => lhs; cbv
def m275 : M := g275.m
def fn275 : MFn := ⟨14, [.tmp 2], m275, .pass⟩
theorem fnOk275 : FnOk Tryz.prog 275 fn275 := ⟨Tryz.f275, _, _, Tryz.func275, rfl, rfl, by kernel_rfl, by kernel_rfl, g275.h⟩
/- seisin/check.condRight -/
def g276 : Got (cmp 141 (kpL passing [] [[0, 1, 2, 3], [0, 1, 2, 3], [], [0, 1, 2, 3], [0, 1, 2, 3, 9], [], [0, 1, 2, 3, 9, 35], [0, 9], [0, 1, 2, 3, 9, 35], [0, 1], [0, 1, 2, 3, 9, 35], [0, 2], [0, 1, 2, 3, 9, 35], [0, 1, 2, 3, 9, 35], [0, 1, 2, 3, 9], [], [0, 1, 2, 3, 9, 35], [0, 1, 2, 3, 9], [], [0, 1, 2, 3], [0, 1, 2, 3, 124, 125], [0, 1, 2, 3, 124, 125], [0, 1, 2, 3, 10, 124, 125], [], [0, 1, 2, 3, 124, 125], []]) (bodyOf Tryz.f276)) := by
 refine ⟨?m, ?h⟩
 case h => conv => lhs; cbv
def m276 : M := g276.m
def fn276 : MFn := ⟨141, [.tmp 8], m276, .pass⟩
theorem fnOk276 : FnOk Tryz.prog 276 fn276 := ⟨Tryz.f276, _, _, Tryz.func276, rfl, rfl, by kernel_rfl, by kernel_rfl, g276.h⟩
/- seisin/repl.policies -/
def g277 : Got (cmp 7 (kpL passing [] [[], []]) (bodyOf Tryz.f277)) := by
 refine ⟨?m, ?h⟩
 case h => conv => lhs; cbv
def m277 : M := g277.m
def fn277 : MFn := ⟨7, [.tmp 0], m277, .shut⟩
theorem fnOk277 : FnOk Tryz.prog 277 fn277 := ⟨Tryz.f277, _, _, Tryz.func277, rfl, rfl, by kernel_rfl, by kernel_rfl, g277.h⟩
/- seisin/geo.Set -/
def g278 : Got (cmp 20 (kpL passing [] [[0, 1], [1, 2], [1, 5, 6], [], [1, 5]]) (bodyOf Tryz.f278)) := by
 refine ⟨?m, ?h⟩
 case h => conv => lhs; cbv
def m278 : M := g278.m
def fn278 : MFn := ⟨20, [.tmp 4], m278, .shut⟩
theorem fnOk278 : FnOk Tryz.prog 278 fn278 := ⟨Tryz.f278, _, _, Tryz.func278, rfl, rfl, by kernel_rfl, by kernel_rfl, g278.h⟩
/- (seisin/tags.frame).row$1 -/
def g279 : Got (cmp 25 (kpL passing [] [[0, 1, 2, 3], [0, 2, 3, 8, 9], [0, 2, 3, 8, 9], [0, 2, 3, 5, 8, 9], [0, 2, 3, 8, 9]]) (bodyOf Tryz.f279)) := by
 refine ⟨?m, ?h⟩
 case h => conv => lhs; reduce
def m279 : M := g279.m
def fn279 : MFn := ⟨25, [], m279, .pass⟩
theorem fnOk279 : FnOk Tryz.prog 279 fn279 := ⟨Tryz.f279, _, _, Tryz.func279, rfl, rfl, by kernel_rfl, by kernel_rfl, g279.h⟩
/- seisin/tags.agrees$1 -/
def g280 : Got (cmp 3 (kpL passing [] [[0], [0]]) (bodyOf Tryz.f280)) := by
 refine ⟨?m, ?h⟩
 case h => conv => lhs; cbv
def m280 : M := g280.m
def fn280 : MFn := ⟨3, [], m280, .pass⟩
theorem fnOk280 : FnOk Tryz.prog 280 fn280 := ⟨Tryz.f280, _, _, Tryz.func280, rfl, rfl, by kernel_rfl, by kernel_rfl, g280.h⟩
/- seisin/repl.Right -/
def g281 : Got (cmp 35 (kpL passing [] [[0], [1], [], [1], [1, 12], [1], [1, 12], [1, 12], [1, 12], [1], []]) (bodyOf Tryz.f281)) := by
 refine ⟨?m, ?h⟩
 case h => conv => lhs; cbv
def m281 : M := g281.m
def fn281 : MFn := ⟨35, [.tmp 2], m281, .shut⟩
theorem fnOk281 : FnOk Tryz.prog 281 fn281 := ⟨Tryz.f281, _, _, Tryz.func281, rfl, rfl, by kernel_rfl, by kernel_rfl, g281.h⟩
/- seisin/repl.Victim$1 -/
def g282 : Got (cmp 16 (kpL passing [] [[0, 1, 2], [0, 1, 2]]) (bodyOf Tryz.f282)) := by
 refine ⟨?m, ?h⟩
 case h => conv => lhs; reduce
def m282 : M := g282.m
def fn282 : MFn := ⟨16, [.tmp 4], m282, .pass⟩
theorem fnOk282 : FnOk Tryz.prog 282 fn282 := ⟨Tryz.f282, _, _, Tryz.func282, rfl, rfl, by kernel_rfl, by kernel_rfl, g282.h⟩
/- (*seisin/cache.work).take -/
def g283 : Got (cmp 15 (kpL passing [] [[0], [0]]) (bodyOf Tryz.f283)) := by
 refine ⟨?m, ?h⟩
 case h => conv => lhs; cbv
def m283 : M := g283.m
def fn283 : MFn := ⟨15, [], m283, .pass⟩
theorem fnOk283 : FnOk Tryz.prog 283 fn283 := ⟨Tryz.f283, _, _, Tryz.func283, rfl, rfl, by kernel_rfl, by kernel_rfl, g283.h⟩
/- (*seisin/cache.work).ask -/
def g284 : Got (cmp 8 (kpL passing [] [[0]]) (bodyOf Tryz.f284)) := by
 refine ⟨?m, ?h⟩
 case h => conv => lhs; cbv
def m284 : M := g284.m
def fn284 : MFn := ⟨8, [], m284, .pass⟩
theorem fnOk284 : FnOk Tryz.prog 284 fn284 := ⟨Tryz.f284, _, _, Tryz.func284, rfl, rfl, by kernel_rfl, by kernel_rfl, g284.h⟩
/- (*seisin/cache.work).askM -/
def g285 : Got (cmp 8 (kpL passing [] [[0]]) (bodyOf Tryz.f285)) := by
 refine ⟨?m, ?h⟩
 case h => conv => lhs; cbv
def m285 : M := g285.m
def fn285 : MFn := ⟨8, [], m285, .pass⟩
theorem fnOk285 : FnOk Tryz.prog 285 fn285 := ⟨Tryz.f285, _, _, Tryz.func285, rfl, rfl, by kernel_rfl, by kernel_rfl, g285.h⟩
/- (*seisin/cache.work).put -/
def g286 : Got (cmp 13 (kpL passing [] [[0]]) (bodyOf Tryz.f286)) := by
 refine ⟨?m, ?h⟩
 case h => conv => lhs; reduce
def m286 : M := g286.m
def fn286 : MFn := ⟨13, [], m286, .pass⟩
theorem fnOk286 : FnOk Tryz.prog 286 fn286 := ⟨Tryz.f286, _, _, Tryz.func286, rfl, rfl, by kernel_rfl, by kernel_rfl, g286.h⟩
/- (*seisin/cache.work).give -/
def g287 : Got (cmp 21 (kpL passing [] [[0]]) (bodyOf Tryz.f287)) := by
 refine ⟨?m, ?h⟩
 case h => conv => lhs; reduce
def m287 : M := g287.m
def fn287 : MFn := ⟨21, [], m287, .pass⟩
theorem fnOk287 : FnOk Tryz.prog 287 fn287 := ⟨Tryz.f287, _, _, Tryz.func287, rfl, rfl, by kernel_rfl, by kernel_rfl, g287.h⟩
/- (*seisin/cache.work).copied -/
def g288 : Got (cmp 13 (kpL passing [] [[0]]) (bodyOf Tryz.f288)) := by
 refine ⟨?m, ?h⟩
 case h => conv => lhs; reduce
def m288 : M := g288.m
def fn288 : MFn := ⟨13, [], m288, .pass⟩
theorem fnOk288 : FnOk Tryz.prog 288 fn288 := ⟨Tryz.f288, _, _, Tryz.func288, rfl, rfl, by kernel_rfl, by kernel_rfl, g288.h⟩
/- (*seisin/cache.work).inv -/
def g289 : Got (cmp 11 (kpL passing [] [[0]]) (bodyOf Tryz.f289)) := by
 refine ⟨?m, ?h⟩
 case h => conv => lhs; cbv
def m289 : M := g289.m
def fn289 : MFn := ⟨11, [], m289, .pass⟩
theorem fnOk289 : FnOk Tryz.prog 289 fn289 := ⟨Tryz.f289, _, _, Tryz.func289, rfl, rfl, by kernel_rfl, by kernel_rfl, g289.h⟩
/- (*seisin/cache.work).end -/
def g290 : Got (cmp 8 (kpL passing [] [[0]]) (bodyOf Tryz.f290)) := by
 refine ⟨?m, ?h⟩
 case h => conv => lhs; cbv
def m290 : M := g290.m
def fn290 : MFn := ⟨8, [], m290, .pass⟩
theorem fnOk290 : FnOk Tryz.prog 290 fn290 := ⟨Tryz.f290, _, _, Tryz.func290, rfl, rfl, by kernel_rfl, by kernel_rfl, g290.h⟩
/- (*seisin/cache.work).do -/
def g291 : Got (cmp 92 (kpL passing [] [[0], [0, 2], [0, 2], [0, 2, 3], [0, 2, 3, 4], [0, 2, 3, 4], [0, 2, 3, 4], [0, 2, 3, 4]]) (bodyOf Tryz.f291)) := by
 refine ⟨?m, ?h⟩
 case h => conv => lhs; reduce
def m291 : M := g291.m
def fn291 : MFn := ⟨92, [], m291, .pass⟩
theorem fnOk291 : FnOk Tryz.prog 291 fn291 := ⟨Tryz.f291, _, _, Tryz.func291, rfl, rfl, by kernel_rfl, by kernel_rfl, g291.h⟩
/- (*seisin/cache.work).drop -/
def g292 : Got (cmp 5 (kpL passing [] [[0]]) (bodyOf Tryz.f292)) := by
 refine ⟨?m, ?h⟩
 case h => conv => lhs; cbv
def m292 : M := g292.m
def fn292 : MFn := ⟨5, [], m292, .pass⟩
theorem fnOk292 : FnOk Tryz.prog 292 fn292 := ⟨Tryz.f292, _, _, Tryz.func292, rfl, rfl, by kernel_rfl, by kernel_rfl, g292.h⟩
/- seisin/tags.Put -/
def g293 : Got (cmp 76 (kpL passing [] [[0, 1, 2], [3, 4, 5, 6], [4, 6], [3, 4, 5, 6], [4, 6], [3, 4, 5, 6], [3, 4, 5, 6, 8, 9, 10], [4, 5, 6, 8, 9], [4, 6], [3, 4, 5, 6, 8], [4, 5, 6, 8, 9, 11], [4, 6], [4, 5, 6, 8, 9], [4, 6, 8, 9], [4, 6]]) (bodyOf Tryz.f293)) := by
 refine ⟨?m, ?h⟩
 case h => conv => lhs; reduce
def m293 : M := g293.m
def fn293 : MFn := ⟨76, [.cell 6 174, .tmp 7], m293, .shut⟩
theorem fnOk293 : FnOk Tryz.prog 293 fn293 := ⟨Tryz.f293, _, _, Tryz.func293, rfl, rfl, by kernel_rfl, by kernel_rfl, g293.h⟩
/- seisin/tags.Use -/
def g294 : Got (cmp 29 (kpL passing [] [[0, 1, 2], [2, 3, 4, 6], [4, 6, 7, 8, 9], [4, 6, 7, 8], [4, 6]]) (bodyOf Tryz.f294)) := by
 refine ⟨?m, ?h⟩
 case h => conv => lhs; cbv
def m294 : M := g294.m
def fn294 : MFn := ⟨29, [.cell 6 174], m294, .shut⟩
theorem fnOk294 : FnOk Tryz.prog 294 fn294 := ⟨Tryz.f294, _, _, Tryz.func294, rfl, rfl, by kernel_rfl, by kernel_rfl, g294.h⟩
/- seisin/tags.Drop -/
def g295 : Got (cmp 26 (kpL passing [] [[0, 1, 2], [2, 3, 4, 6], [4, 6, 7, 8, 9], [4, 6, 7, 8], [4, 6]]) (bodyOf Tryz.f295)) := by
 refine ⟨?m, ?h⟩
 case h => conv => lhs; cbv
def m295 : M := g295.m
def fn295 : MFn := ⟨26, [.cell 6 174], m295, .shut⟩
theorem fnOk295 : FnOk Tryz.prog 295 fn295 := ⟨Tryz.f295, _, _, Tryz.func295, rfl, rfl, by kernel_rfl, by kernel_rfl, g295.h⟩
/- seisin/tags.holds$1 -/
def g296 : Got (cmp 13 (kpL passing [] [[0, 1], [1, 2]]) (bodyOf Tryz.f296)) := by
 refine ⟨?m, ?h⟩
 case h => conv => lhs; cbv
def m296 : M := g296.m
def fn296 : MFn := ⟨13, [.tmp 3], m296, .pass⟩
theorem fnOk296 : FnOk Tryz.prog 296 fn296 := ⟨Tryz.f296, _, _, Tryz.func296, rfl, rfl, by kernel_rfl, by kernel_rfl, g296.h⟩
/- (*seisin/home.work).each -/
def g297 : Got (cmp 29 (kpL passing [] [[0, 1], [1, 4], [1, 4, 17], [1, 4, 17], [1, 4, 5, 17], [1, 4, 5, 17], [1, 4, 17]]) (bodyOf Tryz.f297)) := by
 refine ⟨?m, ?h⟩
 case h => conv => lhs; reduce
def m297 : M := g297.m
def fn297 : MFn := ⟨29, [], m297, .pass⟩
theorem fnOk297 : FnOk Tryz.prog 297 fn297 := ⟨Tryz.f297, _, _, Tryz.func297, rfl, rfl, by kernel_rfl, by kernel_rfl, g297.h⟩
/- (*seisin/home.work).actInvs$1 -/
def g298 : Got (cmp 36 (kpL passing [] [[0, 1], [0, 1], [1]]) (bodyOf Tryz.f298)) := by
 refine ⟨?m, ?h⟩
 case h => conv => lhs; reduce
def m298 : M := g298.m
def fn298 : MFn := ⟨36, [], m298, .pass⟩
theorem fnOk298 : FnOk Tryz.prog 298 fn298 := ⟨Tryz.f298, _, _, Tryz.func298, rfl, rfl, by kernel_rfl, by kernel_rfl, g298.h⟩
/- (*seisin/home.work).send -/
def g299 : Got (cmp 34 (kpL passing [] [[0, 1], [0, 6, 7, 8], [0, 6, 7, 8], [0, 5, 6, 7, 8], [0, 5, 6, 7, 8], [0, 6, 7, 8]]) (bodyOf Tryz.f299)) := by
 refine ⟨?m, ?h⟩
 case h => conv => lhs; reduce
def m299 : M := g299.m
def fn299 : MFn := ⟨34, [], m299, .pass⟩
theorem fnOk299 : FnOk Tryz.prog 299 fn299 := ⟨Tryz.f299, _, _, Tryz.func299, rfl, rfl, by kernel_rfl, by kernel_rfl, g299.h⟩
/- seisin/view.Clear -/
def g300 : Got (cmp 6 (kpL passing [] [[0], [1, 2]]) (bodyOf Tryz.f300)) := by
 refine ⟨?m, ?h⟩
 case h => conv => lhs; cbv
def m300 : M := g300.m
def fn300 : MFn := ⟨6, [.cell 2 61], m300, .shut⟩
theorem fnOk300 : FnOk Tryz.prog 300 fn300 := ⟨Tryz.f300, _, _, Tryz.func300, rfl, rfl, by kernel_rfl, by kernel_rfl, g300.h⟩
/- seisin/view.Note -/
def g301 : Got (cmp 26 (kpL passing [] [[0, 1], [1, 2, 4], [1, 2, 4, 5, 6], [2, 4], [1, 2, 4, 5]]) (bodyOf Tryz.f301)) := by
 refine ⟨?m, ?h⟩
 case h => conv => lhs; reduce
def m301 : M := g301.m
def fn301 : MFn := ⟨26, [.cell 4 61], m301, .shut⟩
theorem fnOk301 : FnOk Tryz.prog 301 fn301 := ⟨Tryz.f301, _, _, Tryz.func301, rfl, rfl, by kernel_rfl, by kernel_rfl, g301.h⟩
/- (*seisin/lex.scanner).tokens -/
def g302 : Got (cmp 4 (kpL passing [] [[0], [1]]) (bodyOf Tryz.f302)) := by
 refine ⟨?m, ?h⟩
 case h => conv => lhs; cbv
def m302 : M := g302.m
def fn302 : MFn := ⟨4, [.tmp 2], m302, .pass⟩
theorem fnOk302 : FnOk Tryz.prog 302 fn302 := ⟨Tryz.f302, _, _, Tryz.func302, rfl, rfl, by kernel_rfl, by kernel_rfl, g302.h⟩
/- seisin/lex.classOf -/
def g303 : Got (cmp 47 (kpL passing [] [[0], [0], [], [0], [], [0], [25], [25], [], [25], [], [25], [], [25], [], [25], [25], [25], [25], [25], [25], [25], [25], [25], [25], [25], [], []]) (bodyOf Tryz.f303)) := by
 refine ⟨?m, ?h⟩
 case h => conv => lhs; cbv
def m303 : M := g303.m
def fn303 : MFn := ⟨47, [.tmp 2], m303, .shut⟩
theorem fnOk303 : FnOk Tryz.prog 303 fn303 := ⟨Tryz.f303, _, _, Tryz.func303, rfl, rfl, by kernel_rfl, by kernel_rfl, g303.h⟩
/- seisin/lex.Kept -/
def g304 : Got (cmp 22 (kpL passing [] [[0], [0], [3], [3], [3], [3], [3], [3], [3], [3], [3], [3], [3], [3], [3], [3], [3], [3], [3], [], []]) (bodyOf Tryz.f304)) := by
 refine ⟨?m, ?h⟩
 case h => conv => lhs; cbv
def m304 : M := g304.m
def fn304 : MFn := ⟨22, [.tmp 2], m304, .shut⟩
theorem fnOk304 : FnOk Tryz.prog 304 fn304 := ⟨Tryz.f304, _, _, Tryz.func304, rfl, rfl, by kernel_rfl, by kernel_rfl, g304.h⟩
/- seisin/lex.inWord -/
def g305 : Got (cmp 16 (kpL passing [] [[0], [0], [3]]) (bodyOf Tryz.f305)) := by
 refine ⟨?m, ?h⟩
 case h => conv => lhs; cbv
def m305 : M := g305.m
def fn305 : MFn := ⟨16, [.tmp 2], m305, .shut⟩
theorem fnOk305 : FnOk Tryz.prog 305 fn305 := ⟨Tryz.f305, _, _, Tryz.func305, rfl, rfl, by kernel_rfl, by kernel_rfl, g305.h⟩
/- slices.Index[[]string,string] -/
def g306 : Got (cmp 19 (kpL passing [] [[0, 1], [0, 1], [0, 1, 7, 8], [0, 1, 7, 8], [0, 1, 5, 7, 8], [5], [0, 1, 7, 8], []]) (bodyOf Tryz.f306)) := by
 refine ⟨?m, ?h⟩
 case h => conv => lhs; cbv
def m306 : M := g306.m
def fn306 : MFn := ⟨19, [.tmp 4], m306, .shut⟩
theorem fnOk306 : FnOk Tryz.prog 306 fn306 := ⟨Tryz.f306, _, _, Tryz.func306, rfl, rfl, by kernel_rfl, by kernel_rfl, g306.h⟩
/- (*seisin/check.spot).conditions$1 -/
def g307 : Got (cmp 16 (kpL passing [] [[0], [0]]) (bodyOf Tryz.f307)) := by
 refine ⟨?m, ?h⟩
 case h => conv => lhs; cbv
def m307 : M := g307.m
def fn307 : MFn := ⟨16, [.tmp 1], m307, .pass⟩
theorem fnOk307 : FnOk Tryz.prog 307 fn307 := ⟨Tryz.f307, _, _, Tryz.func307, rfl, rfl, by kernel_rfl, by kernel_rfl, g307.h⟩
/- (*seisin/check.spot).conditions$2 -/
def g308 : Got (cmp 9 (kpL passing [] [[0], [0]]) (bodyOf Tryz.f308)) := by
 refine ⟨?m, ?h⟩
 case h => conv => lhs; reduce
def m308 : M := g308.m
def fn308 : MFn := ⟨9, [.tmp 1], m308, .pass⟩
theorem fnOk308 : FnOk Tryz.prog 308 fn308 := ⟨Tryz.f308, _, _, Tryz.func308, rfl, rfl, by kernel_rfl, by kernel_rfl, g308.h⟩
/- (*seisin/check.spot).needed -/
def g309 : Got (cmp 67 (kpL passing [] [[0], [0, 2], [0, 2, 3], [0, 2, 3], [0, 2, 3], [0, 2, 3], [0, 2, 3], [0, 2, 3], [0, 2, 3], [0, 2, 3], [0, 2, 3], [0, 2, 3], [0, 2, 3], [0, 2, 3], [0, 2, 3], [0, 2, 3], [2, 3]]) (bodyOf Tryz.f309)) := by
 refine ⟨?m, ?h⟩
 case h => conv => lhs; cbv
def m309 : M := g309.m
def fn309 : MFn := ⟨67, [.cell 2 103], m309, .pass⟩
theorem fnOk309 : FnOk Tryz.prog 309 fn309 := ⟨Tryz.f309, _, _, Tryz.func309, rfl, rfl, by kernel_rfl, by kernel_rfl, g309.h⟩
/- (*seisin/check.spot).conditions$3 -/
def g310 : Got (cmp 8 (kpL passing [] [[0], [0]]) (bodyOf Tryz.f310)) := by
 refine ⟨?m, ?h⟩
 case h => conv => lhs; cbv
def m310 : M := g310.m
def fn310 : MFn := ⟨8, [.tmp 1], m310, .pass⟩
theorem fnOk310 : FnOk Tryz.prog 310 fn310 := ⟨Tryz.f310, _, _, Tryz.func310, rfl, rfl, by kernel_rfl, by kernel_rfl, g310.h⟩
/- (*seisin/check.spot).conditions$4 -/
def g311 : Got (cmp 18 (kpL passing [] [[0], [0]]) (bodyOf Tryz.f311)) := by
 refine ⟨?m, ?h⟩
 case h => conv => lhs; reduce
def m311 : M := g311.m
def fn311 : MFn := ⟨18, [.tmp 1], m311, .pass⟩
theorem fnOk311 : FnOk Tryz.prog 311 fn311 := ⟨Tryz.f311, _, _, Tryz.func311, rfl, rfl, by kernel_rfl, by kernel_rfl, g311.h⟩
/- (*seisin/check.spot).has -/
def g312 : Got (cmp 15 (kpL passing [] [[0, 1], [0, 1]]) (bodyOf Tryz.f312)) := by
 refine ⟨?m, ?h⟩
 case h => conv => lhs; cbv
def m312 : M := g312.m
def fn312 : MFn := ⟨15, [.tmp 4], m312, .pass⟩
theorem fnOk312 : FnOk Tryz.prog 312 fn312 := ⟨Tryz.f312, _, _, Tryz.func312, rfl, rfl, by kernel_rfl, by kernel_rfl, g312.h⟩
/- (*seisin/check.spot).conditions$5 -/
def g313 : Got (cmp 16 (kpL passing [] [[0], [0]]) (bodyOf Tryz.f313)) := by
 refine ⟨?m, ?h⟩
 case h => conv => lhs; cbv
def m313 : M := g313.m
def fn313 : MFn := ⟨16, [.tmp 1], m313, .pass⟩
theorem fnOk313 : FnOk Tryz.prog 313 fn313 := ⟨Tryz.f313, _, _, Tryz.func313, rfl, rfl, by kernel_rfl, by kernel_rfl, g313.h⟩
/- seisin/check.argRight -/
def g314 : Got (cmp 11 (kpL passing [] [[0], [1]]) (bodyOf Tryz.f314)) := by
 refine ⟨?m, ?h⟩
 case h => conv => lhs; cbv
def m314 : M := g314.m
def fn314 : MFn := ⟨11, [.tmp 2], m314, .shut⟩
theorem fnOk314 : FnOk Tryz.prog 314 fn314 := ⟨Tryz.f314, _, _, Tryz.func314, rfl, rfl, by kernel_rfl, by kernel_rfl, g314.h⟩
/- (*seisin/check.spot).modeRight -/
def g315 : Got (cmp 64 (kpL passing [] [[0], [0], [0, 7], [0], [0, 7], [0], [0, 7], [0], []]) (bodyOf Tryz.f315)) := by
 refine ⟨?m, ?h⟩
 case h => conv => lhs; cbv
def m315 : M := g315.m
def fn315 : MFn := ⟨64, [.tmp 2], m315, .pass⟩
theorem fnOk315 : FnOk Tryz.prog 315 fn315 := ⟨Tryz.f315, _, _, Tryz.func315, rfl, rfl, by kernel_rfl, by kernel_rfl, g315.h⟩
/- (*seisin/check.spot).fnRight -/
def g316 : Got (cmp 56 (kpL passing [] [[0], [0], [0, 7], [0], [0, 7], [0], []]) (bodyOf Tryz.f316)) := by
 refine ⟨?m, ?h⟩
 case h => conv => lhs; cbv
def m316 : M := g316.m
def fn316 : MFn := ⟨56, [.tmp 2], m316, .pass⟩
theorem fnOk316 : FnOk Tryz.prog 316 fn316 := ⟨Tryz.f316, _, _, Tryz.func316, rfl, rfl, by kernel_rfl, by kernel_rfl, g316.h⟩
/- (*seisin/check.spot).conditions$6 -/
def g317 : Got (cmp 26 (kpL passing [] [[0], [0]]) (bodyOf Tryz.f317)) := by
 refine ⟨?m, ?h⟩
 case h => conv => lhs; reduce
def m317 : M := g317.m
def fn317 : MFn := ⟨26, [.tmp 1], m317, .pass⟩
theorem fnOk317 : FnOk Tryz.prog 317 fn317 := ⟨Tryz.f317, _, _, Tryz.func317, rfl, rfl, by kernel_rfl, by kernel_rfl, g317.h⟩
/- (seisin/repl.state).back -/
def g318 : Got (cmp 45 (kpL passing [] [[0, 1], [1, 2, 4], [1, 2, 4, 8, 9], [1, 2, 4, 8, 9], [1, 2, 4, 5, 8, 9], [1, 2, 4, 5], [1, 2, 4, 8, 9], [1, 2, 4], [2, 4]]) (bodyOf Tryz.f318)) := by
 refine ⟨?m, ?h⟩
 case h => conv => lhs; reduce
def m318 : M := g318.m
def fn318 : MFn := ⟨45, [.cell 4 169], m318, .shut⟩
theorem fnOk318 : FnOk Tryz.prog 318 fn318 := ⟨Tryz.f318, _, _, Tryz.func318, rfl, rfl, by kernel_rfl, by kernel_rfl, g318.h⟩
/- (seisin/repl.state).first -/
def g319 : Got (cmp 25 (kpL passing [] [[0, 1], [1, 2], [1, 2, 6], [1, 2, 6], [1, 2, 6], [1, 2, 6, 7], [7], []]) (bodyOf Tryz.f319)) := by
 refine ⟨?m, ?h⟩
 case h => conv => lhs; cbv
def m319 : M := g319.m
def fn319 : MFn := ⟨25, [.tmp 4, .tmp 5], m319, .pass⟩
theorem fnOk319 : FnOk Tryz.prog 319 fn319 := ⟨Tryz.f319, _, _, Tryz.func319, rfl, rfl, by kernel_rfl, by kernel_rfl, g319.h⟩
/- (seisin/repl.state).stay -/
def g320 : Got (cmp 7 (kpL passing [] [[0], [2, 4]]) (bodyOf Tryz.f320)) := by
 refine ⟨?m, ?h⟩
 case h => conv => lhs; cbv
def m320 : M := g320.m
def fn320 : MFn := ⟨7, [.cell 4 169], m320, .shut⟩
theorem fnOk320 : FnOk Tryz.prog 320 fn320 := ⟨Tryz.f320, _, _, Tryz.func320, rfl, rfl, by kernel_rfl, by kernel_rfl, g320.h⟩
/- (seisin/repl.state).away -/
def g321 : Got (cmp 23 (kpL passing [] [[0, 1], [1, 2, 4], [1, 2, 4, 5], [1, 2, 4, 5, 6], [1, 2, 4, 5, 6], [2, 4]]) (bodyOf Tryz.f321)) := by
 refine ⟨?m, ?h⟩
 case h => conv => lhs; cbv
def m321 : M := g321.m
def fn321 : MFn := ⟨23, [.cell 4 169], m321, .shut⟩
theorem fnOk321 : FnOk Tryz.prog 321 fn321 := ⟨Tryz.f321, _, _, Tryz.func321, rfl, rfl, by kernel_rfl, by kernel_rfl, g321.h⟩
/- (seisin/repl.state).leaf -/
def g322 : Got (cmp 55 (kpL passing [] [[0, 1], [1, 2], [1, 2, 6], [1, 2, 6], [1, 2, 6], [1, 6, 7], [1, 6, 7], [1, 6, 7], [1, 8], [], [8]]) (bodyOf Tryz.f322)) := by
 refine ⟨?m, ?h⟩
 case h => conv => lhs; cbv
def m322 : M := g322.m
def fn322 : MFn := ⟨55, [.tmp 4, .tmp 5], m322, .pass⟩
theorem fnOk322 : FnOk Tryz.prog 322 fn322 := ⟨Tryz.f322, _, _, Tryz.func322, rfl, rfl, by kernel_rfl, by kernel_rfl, g322.h⟩
/- (seisin/repl.state).last -/
def g323 : Got (cmp 26 (kpL passing [] [[0, 1], [1, 2], [1, 2, 6], [1, 2, 6], [1, 2, 6], [1, 2, 6, 7], [7], []]) (bodyOf Tryz.f323)) := by
 refine ⟨?m, ?h⟩
 case h => conv => lhs; cbv
def m323 : M := g323.m
def fn323 : MFn := ⟨26, [.tmp 4, .tmp 5], m323, .pass⟩
theorem fnOk323 : FnOk Tryz.prog 323 fn323 := ⟨Tryz.f323, _, _, Tryz.func323, rfl, rfl, by kernel_rfl, by kernel_rfl, g323.h⟩
/- seisin/repl.ordered -/
def g324 : Got (cmp 37 (kpL passing [] [[0], [1], [1, 3], [1, 3, 7, 8], [1, 3, 7, 8], [1, 3, 5, 7, 8], [1, 3, 4, 5, 7, 8], [1, 3, 5, 7, 8], [], [1, 3, 5, 7, 8], [], [1, 3, 7, 8], []]) (bodyOf Tryz.f324)) := by
 refine ⟨?m, ?h⟩
 case h => conv => lhs; cbv
def m324 : M := g324.m
def fn324 : MFn := ⟨37, [.tmp 2], m324, .shut⟩
theorem fnOk324 : FnOk Tryz.prog 324 fn324 := ⟨Tryz.f324, _, _, Tryz.func324, rfl, rfl, by kernel_rfl, by kernel_rfl, g324.h⟩
/- (*seisin/cache.work).send -/
def g325 : Got (cmp 34 (kpL passing [] [[0, 1], [0, 6, 7, 8], [0, 6, 7, 8], [0, 5, 6, 7, 8], [0, 5, 6, 7, 8], [0, 6, 7, 8]]) (bodyOf Tryz.f325)) := by
 refine ⟨?m, ?h⟩
 case h => conv => lhs; reduce
def m325 : M := g325.m
def fn325 : MFn := ⟨34, [], m325, .pass⟩
theorem fnOk325 : FnOk Tryz.prog 325 fn325 := ⟨Tryz.f325, _, _, Tryz.func325, rfl, rfl, by kernel_rfl, by kernel_rfl, g325.h⟩
/- (*seisin/cache.work).home -/
def g326 : Got (cmp 13 (kpL passing [] [[0], [0]]) (bodyOf Tryz.f326)) := by
 refine ⟨?m, ?h⟩
 case h => conv => lhs; reduce
def m326 : M := g326.m
def fn326 : MFn := ⟨13, [.tmp 2], m326, .pass⟩
theorem fnOk326 : FnOk Tryz.prog 326 fn326 := ⟨Tryz.f326, _, _, Tryz.func326, rfl, rfl, by kernel_rfl, by kernel_rfl, g326.h⟩
/- seisin/geo.Get -/
def g327 : Got (cmp 21 (kpL passing [] [[0, 1, 2], [2, 3, 4], [2, 4, 7, 8], [], [2, 4, 7]]) (bodyOf Tryz.f327)) := by
 refine ⟨?m, ?h⟩
 case h => conv => lhs; cbv
def m327 : M := g327.m
def fn327 : MFn := ⟨21, [.tmp 6], m327, .shut⟩
theorem fnOk327 : FnOk Tryz.prog 327 fn327 := ⟨Tryz.f327, _, _, Tryz.func327, rfl, rfl, by kernel_rfl, by kernel_rfl, g327.h⟩
/- seisin/cache.After -/
def g328 : Got (cmp 27 (kpL passing [] [[0, 1], [1, 2], [1, 2, 6], [1, 2, 6], [2], [1, 2, 6], [1, 2], [1, 2, 6], [1, 2], [2], [1]]) (bodyOf Tryz.f328)) := by
 refine ⟨?m, ?h⟩
 case h => conv => lhs; cbv
def m328 : M := g328.m
def fn328 : MFn := ⟨27, [.tmp 4], m328, .shut⟩
theorem fnOk328 : FnOk Tryz.prog 328 fn328 := ⟨Tryz.f328, _, _, Tryz.func328, rfl, rfl, by kernel_rfl, by kernel_rfl, g328.h⟩
/- seisin/repl.Fill -/
def g329 : Got (cmp 28 (kpL passing [] [[0, 1], [1, 2, 4], [2, 4], [1, 2, 4]]) (bodyOf Tryz.f329)) := by
 refine ⟨?m, ?h⟩
 case h => conv => lhs; reduce
def m329 : M := g329.m
def fn329 : MFn := ⟨28, [.cell 4 169], m329, .shut⟩
theorem fnOk329 : FnOk Tryz.prog 329 fn329 := ⟨Tryz.f329, _, _, Tryz.func329, rfl, rfl, by kernel_rfl, by kernel_rfl, g329.h⟩
/- seisin/repl.Touch -/
def g330 : Got (cmp 28 (kpL passing [] [[0, 1], [1, 2, 4], [2, 4], [1, 2, 4]]) (bodyOf Tryz.f330)) := by
 refine ⟨?m, ?h⟩
 case h => conv => lhs; reduce
def m330 : M := g330.m
def fn330 : MFn := ⟨28, [.cell 4 169], m330, .shut⟩
theorem fnOk330 : FnOk Tryz.prog 330 fn330 := ⟨Tryz.f330, _, _, Tryz.func330, rfl, rfl, by kernel_rfl, by kernel_rfl, g330.h⟩
/- seisin/view.Told -/
def g331 : Got (cmp 45 (kpL passing [6] [[0, 1], [1, 2, 4], [], [1, 2, 4], [2, 4, 5], [5], [2, 4, 5], [2, 5], [2, 4, 5], [2, 4, 5, 6], [6, 36], [6, 7], [5, 6]]) (bodyOf Tryz.f331)) := by
 refine ⟨?m, ?h⟩
 case h => conv => lhs; reduce
def m331 : M := g331.m
def fn331 : MFn := ⟨45, [.tmp 4], m331, .shut⟩
theorem fnOk331 : FnOk Tryz.prog 331 fn331 := ⟨Tryz.f331, _, _, Tryz.func331, rfl, rfl, by kernel_rfl, by kernel_rfl, g331.h⟩
/- seisin/view.recorders -/
def g332 : Got (cmp 3 (kpL passing [] [[], []]) (bodyOf Tryz.f332)) := by
 refine ⟨?m, ?h⟩
 case h => conv => lhs; cbv
def m332 : M := g332.m
def fn332 : MFn := ⟨3, [.tmp 0], m332, .shut⟩
theorem fnOk332 : FnOk Tryz.prog 332 fn332 := ⟨Tryz.f332, _, _, Tryz.func332, rfl, rfl, by kernel_rfl, by kernel_rfl, g332.h⟩
/- (*seisin/lex.scanner).tokens$1 -/
def g333 : Got (cmp 23 (kpL passing [] [[0, 1], [0, 1, 3, 4], [0, 1, 3], [0, 1, 3], [0, 1, 3], [0, 1, 22]]) (bodyOf Tryz.f333)) := by
 refine ⟨?m, ?h⟩
 case h => conv => lhs; reduce
def m333 : M := g333.m
def fn333 : MFn := ⟨23, [], m333, .pass⟩
theorem fnOk333 : FnOk Tryz.prog 333 fn333 := ⟨Tryz.f333, _, _, Tryz.func333, rfl, rfl, by kernel_rfl, by kernel_rfl, g333.h⟩
/- (*seisin/lex.scanner).next -/
def g334 : Got (cmp 57 (kpL passing [] [[0], [0, 2], [0, 2], [0, 2], [0, 2], [0, 2], [0, 2, 4], [0, 2, 4, 5], [0, 2, 4, 5], [0, 2, 4], [2, 4], [0, 2, 5], [2]]) (bodyOf Tryz.f334)) := by
 refine ⟨?m, ?h⟩
 case h => conv => lhs; reduce
def m334 : M := g334.m
def fn334 : MFn := ⟨57, [.cell 2 372, .tmp 3], m334, .pass⟩
theorem fnOk334 : FnOk Tryz.prog 334 fn334 := ⟨Tryz.f334, _, _, Tryz.func334, rfl, rfl, by kernel_rfl, by kernel_rfl, g334.h⟩
/- seisin/lex.fault -/
def g335 : Got (cmp 30 (kpL passing [] [[0], [1], [1, 6], [1], [], [1, 6], [1], [4], [], [1, 6], [1], [], []]) (bodyOf Tryz.f335)) := by
 refine ⟨?m, ?h⟩
 case h => conv => lhs; cbv
def m335 : M := g335.m
def fn335 : MFn := ⟨30, [.tmp 2], m335, .shut⟩
theorem fnOk335 : FnOk Tryz.prog 335 fn335 := ⟨Tryz.f335, _, _, Tryz.func335, rfl, rfl, by kernel_rfl, by kernel_rfl, g335.h⟩
/- (seisin/repl.state).away$1 -/
def g336 : Got (cmp 22 (kpL passing [] [[0, 1, 2], [0, 1, 2], [0, 2]]) (bodyOf Tryz.f336)) := by
 refine ⟨?m, ?h⟩
 case h => conv => lhs; reduce
def m336 : M := g336.m
def fn336 : MFn := ⟨22, [], m336, .pass⟩
theorem fnOk336 : FnOk Tryz.prog 336 fn336 := ⟨Tryz.f336, _, _, Tryz.func336, rfl, rfl, by kernel_rfl, by kernel_rfl, g336.h⟩
/- seisin/view.below -/
def g337 : Got (cmp 6 (kpL passing [] [[0], [0]]) (bodyOf Tryz.f337)) := by
 refine ⟨?m, ?h⟩
 case h => conv => lhs; cbv
def m337 : M := g337.m
def fn337 : MFn := ⟨6, [.tmp 2], m337, .shut⟩
theorem fnOk337 : FnOk Tryz.prog 337 fn337 := ⟨Tryz.f337, _, _, Tryz.func337, rfl, rfl, by kernel_rfl, by kernel_rfl, g337.h⟩
/- seisin/view.elements -/
def g338 : Got (cmp 4 (kpL passing [] [[0], [1]]) (bodyOf Tryz.f338)) := by
 refine ⟨?m, ?h⟩
 case h => conv => lhs; cbv
def m338 : M := g338.m
def fn338 : MFn := ⟨4, [.tmp 2], m338, .pass⟩
theorem fnOk338 : FnOk Tryz.prog 338 fn338 := ⟨Tryz.f338, _, _, Tryz.func338, rfl, rfl, by kernel_rfl, by kernel_rfl, g338.h⟩
/- (seisin/view.shared).full -/
def g339 : Got (cmp 15 (kpL passing [] [[0, 1], [1, 2, 4], [2, 4]]) (bodyOf Tryz.f339)) := by
 refine ⟨?m, ?h⟩
 case h => conv => lhs; cbv
def m339 : M := g339.m
def fn339 : MFn := ⟨15, [.cell 4 61], m339, .shut⟩
theorem fnOk339 : FnOk Tryz.prog 339 fn339 := ⟨Tryz.f339, _, _, Tryz.func339, rfl, rfl, by kernel_rfl, by kernel_rfl, g339.h⟩
/- (seisin/view.shared).two -/
def g340 : Got (cmp 39 (kpL passing [] [[0, 1], [1, 2, 4], [2, 4, 5], [2, 4, 5], [2, 4, 5], [2, 4], [2, 4]]) (bodyOf Tryz.f340)) := by
 refine ⟨?m, ?h⟩
 case h => conv => lhs; cbv
def m340 : M := g340.m
def fn340 : MFn := ⟨39, [.cell 4 61], m340, .shut⟩
theorem fnOk340 : FnOk Tryz.prog 340 fn340 := ⟨Tryz.f340, _, _, Tryz.func340, rfl, rfl, by kernel_rfl, by kernel_rfl, g340.h⟩
/- (seisin/view.shared).group -/
def g341 : Got (cmp 16 (kpL passing [] [[0, 1], [1, 2, 4], [2, 4]]) (bodyOf Tryz.f341)) := by
 refine ⟨?m, ?h⟩
 case h => conv => lhs; cbv
def m341 : M := g341.m
def fn341 : MFn := ⟨16, [.cell 4 61], m341, .shut⟩
theorem fnOk341 : FnOk Tryz.prog 341 fn341 := ⟨Tryz.f341, _, _, Tryz.func341, rfl, rfl, by kernel_rfl, by kernel_rfl, g341.h⟩
/- (*seisin/lex.input).pass -/
def g342 : Got (cmp 50 (kpL passing [] [[0], [0], [0], [0], [0]]) (bodyOf Tryz.f342)) := by
 refine ⟨?m, ?h⟩
 case h => conv => lhs; reduce
def m342 : M := g342.m
def fn342 : MFn := ⟨50, [], m342, .pass⟩
theorem fnOk342 : FnOk Tryz.prog 342 fn342 := ⟨Tryz.f342, _, _, Tryz.func342, rfl, rfl, by kernel_rfl, by kernel_rfl, g342.h⟩
/- (*seisin/lex.input).atEnd -/
def g343 : Got (cmp 18 (kpL passing [] [[0], [0]]) (bodyOf Tryz.f343)) := by
 refine ⟨?m, ?h⟩
 case h => conv => lhs; reduce
def m343 : M := g343.m
def fn343 : MFn := ⟨18, [.tmp 2], m343, .pass⟩
theorem fnOk343 : FnOk Tryz.prog 343 fn343 := ⟨Tryz.f343, _, _, Tryz.func343, rfl, rfl, by kernel_rfl, by kernel_rfl, g343.h⟩
/- (*seisin/lex.scanner).token -/
def g344 : Got (cmp 51 (kpL passing [] [[0], [0, 2], [0, 2, 3, 4], [0, 2, 3, 4, 17], [0, 2], [0, 2, 3, 4, 17], [0, 2], [0, 2, 3, 4], [0, 2, 3, 4, 5], [0, 2, 3, 5]]) (bodyOf Tryz.f344)) := by
 refine ⟨?m, ?h⟩
 case h => conv => lhs; reduce
def m344 : M := g344.m
def fn344 : MFn := ⟨51, [.cell 2 372], m344, .pass⟩
theorem fnOk344 : FnOk Tryz.prog 344 fn344 := ⟨Tryz.f344, _, _, Tryz.func344, rfl, rfl, by kernel_rfl, by kernel_rfl, g344.h⟩
/- (*seisin/lex.input).over -/
def g345 : Got (cmp 13 (kpL passing [] [[0], [0]]) (bodyOf Tryz.f345)) := by
 refine ⟨?m, ?h⟩
 case h => conv => lhs; reduce
def m345 : M := g345.m
def fn345 : MFn := ⟨13, [.tmp 2], m345, .pass⟩
theorem fnOk345 : FnOk Tryz.prog 345 fn345 := ⟨Tryz.f345, _, _, Tryz.func345, rfl, rfl, by kernel_rfl, by kernel_rfl, g345.h⟩
/- seisin/lex.Num -/
def g346 : Got (cmp 47 (kpL passing [] [[0], [0], [], [0], [0, 4], [0, 4, 25, 26], [0, 4, 25, 26], [0, 4, 5, 25, 26], [], [0, 4, 5, 25, 26], [0, 4, 25, 26], [4], [], [4]]) (bodyOf Tryz.f346)) := by
 refine ⟨?m, ?h⟩
 case h => conv => lhs; cbv
def m346 : M := g346.m
def fn346 : MFn := ⟨47, [.tmp 2, .tmp 3], m346, .shut⟩
theorem fnOk346 : FnOk Tryz.prog 346 fn346 := ⟨Tryz.f346, _, _, Tryz.func346, rfl, rfl, by kernel_rfl, by kernel_rfl, g346.h⟩
/- seisin/view.elements$1 -/
def g347 : Got (cmp 15 (kpL passing [] [[0, 1], [0, 1], [0, 1]]) (bodyOf Tryz.f347)) := by
 refine ⟨?m, ?h⟩
 case h => conv => lhs; cbv
def m347 : M := g347.m
def fn347 : MFn := ⟨15, [], m347, .pass⟩
theorem fnOk347 : FnOk Tryz.prog 347 fn347 := ⟨Tryz.f347, _, _, Tryz.func347, rfl, rfl, by kernel_rfl, by kernel_rfl, g347.h⟩
/- math/bits.OnesCount64 -/
def g348 : Got (cmp 35 (kpL passing [] [[0], [0], [0], [0], [0], [0], [0], [0]]) (bodyOf Tryz.f348)) := by
 refine ⟨?m, ?h⟩
 case h => conv => lhs; cbv
def m348 : M := g348.m
def fn348 : MFn := ⟨35, [.tmp 2], m348, .shut⟩
theorem fnOk348 : FnOk Tryz.prog 348 fn348 := ⟨Tryz.f348, _, _, Tryz.func348, rfl, rfl, by kernel_rfl, by kernel_rfl, g348.h⟩
/- (*seisin/lex.input).signEnd -/
def g349 : Got (cmp 46 (kpL passing [] [[0], [0], [0, 3], [0, 3, 4], [3], [3]]) (bodyOf Tryz.f349)) := by
 refine ⟨?m, ?h⟩
 case h => conv => lhs; reduce
def m349 : M := g349.m
def fn349 : MFn := ⟨46, [.tmp 2], m349, .pass⟩
theorem fnOk349 : FnOk Tryz.prog 349 fn349 := ⟨Tryz.f349, _, _, Tryz.func349, rfl, rfl, by kernel_rfl, by kernel_rfl, g349.h⟩
/- (*seisin/lex.input).wordEnd -/
def g350 : Got (cmp 28 (kpL passing [] [[0], [0], [0, 3], [0, 3], [3]]) (bodyOf Tryz.f350)) := by
 refine ⟨?m, ?h⟩
 case h => conv => lhs; cbv
def m350 : M := g350.m
def fn350 : MFn := ⟨28, [.tmp 2], m350, .pass⟩
theorem fnOk350 : FnOk Tryz.prog 350 fn350 := ⟨Tryz.f350, _, _, Tryz.func350, rfl, rfl, by kernel_rfl, by kernel_rfl, g350.h⟩
/- (*seisin/lex.input).numberEnd -/
def g351 : Got (cmp 29 (kpL passing [] [[0], [0], [0, 3], [0, 3], [3]]) (bodyOf Tryz.f351)) := by
 refine ⟨?m, ?h⟩
 case h => conv => lhs; cbv
def m351 : M := g351.m
def fn351 : MFn := ⟨29, [.tmp 2], m351, .pass⟩
theorem fnOk351 : FnOk Tryz.prog 351 fn351 := ⟨Tryz.f351, _, _, Tryz.func351, rfl, rfl, by kernel_rfl, by kernel_rfl, g351.h⟩
end Go.Proofs.YtijpomemobgddaaGreatDoor.Ev
