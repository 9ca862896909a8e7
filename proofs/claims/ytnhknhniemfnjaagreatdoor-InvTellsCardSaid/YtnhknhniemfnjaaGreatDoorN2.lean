/- The reference's validity of a message, cut into parts. Printed by tools/tails.py. -/
import Derived.Test.YtnhknhniemfnjaaGreatDoorN1
set_option linter.unusedSimpArgs false
set_option linter.unusedVariables false
namespace Go.Proofs.YtnhknhniemfnjaaGreatDoor.Ev
open Go Go.RowKit
set_option maxRecDepth 100000
def r35_4 : M := match m35 with
  | .seq _ (.seq _ (.seq _ (.seq _ r))) => r
  | m => m
def r35_7 : M := match m35 with
  | .seq _ (.seq _ (.seq _ (.seq _ (.seq _ (.seq _ (.seq _ r)))))) => r
  | m => m
def r35_9 : M := match m35 with
  | .seq _ (.seq _ (.seq _ (.seq _ (.seq _ (.seq _ (.seq _ (.seq _ (.seq _ r)))))))) => r
  | m => m
def r35_11 : M := match m35 with
  | .seq _ (.seq _ (.seq _ (.seq _ (.seq _ (.seq _ (.seq _ (.seq _ (.seq _ (.seq _ (.seq _ r)))))))))) => r
  | m => m
def r35_12 : M := match m35 with
  | .seq _ (.seq _ (.seq _ (.seq _ (.seq _ (.seq _ (.seq _ (.seq _ (.seq _ (.seq _ (.seq _ (.seq _ r))))))))))) => r
  | m => m
def r35_13 : M := match m35 with
  | .seq _ (.seq _ (.seq _ (.seq _ (.seq _ (.seq _ (.seq _ (.seq _ (.seq _ (.seq _ (.seq _ (.seq _ (.seq _ r)))))))))))) => r
  | m => m
def r35_14 : M := match m35 with
  | .seq _ (.seq _ (.seq _ (.seq _ (.seq _ (.seq _ (.seq _ (.seq _ (.seq _ (.seq _ (.seq _ (.seq _ (.seq _ (.seq _ r))))))))))))) => r
  | m => m
def r35_15 : M := match m35 with
  | .seq _ (.seq _ (.seq _ (.seq _ (.seq _ (.seq _ (.seq _ (.seq _ (.seq _ (.seq _ (.seq _ (.seq _ (.seq _ (.seq _ (.seq _ r)))))))))))))) => r
  | m => m
theorem v35_0 {C : Ctx} {k : List It} {st : St} {Q : Ex → St → Prop} : RunK C (.code m35 :: k) st Q ↔ RunK C (.code (.seq (.reg [0, 1] [⟨(some 2), .box 31 (.tmp 0), none⟩,
 ⟨(some 3), .box 77 (.tmp 1), none⟩,
 ⟨(some 4), .assign (.const (.bool false)), none⟩] 0)
 (.seq (.seq (.reg [2, 3] [⟨(some 16), .load 31 (.tmp 2), none⟩,
 ⟨(some 17), .call ⟨.value (.func 33), #[(.tmp 16)], #[31]⟩, none⟩,
 ⟨(some 18), .unOp .not 4 (.tmp 17), none⟩,
 ⟨(some 19), .move (.tmp 18), none⟩,
 ⟨(some 20), .fieldAddr 77 (.tmp 3) 3, (some (19, false))⟩,
 ⟨(some 21), .load 5 (.tmp 20), (some (19, false))⟩,
 ⟨(some 22), .convert 5 3 (.tmp 21), (some (19, false))⟩,
 ⟨(some 23), .load 31 (.tmp 2), (some (19, false))⟩,
 ⟨(some 24), .call ⟨.value (.func 23), #[(.tmp 23)], #[31]⟩, (some (19, false))⟩,
 ⟨(some 25), .binOp .geq 3 (.tmp 22) (.tmp 24) 3, (some (19, false))⟩,
 ⟨(some 26), .pick (.tmp 19) (.const (.bool true)) (.tmp 25), none⟩] 9)
 (.cond (.tmp 26) (.seq (.reg [] [⟨(some 4), .assign (.const (.bool false)), none⟩] 0)
 (.ret))
 (.skip)))
 (.seq (.reg [2, 3] [⟨(some 27), .load 31 (.tmp 2), none⟩,
 ⟨(some 28), .fieldAddr 77 (.tmp 3) 3, none⟩,
 ⟨(some 29), .load 5 (.tmp 28), none⟩,
 ⟨(some 30), .call ⟨.value (.func 61), #[(.tmp 27), (.tmp 29)], #[31, 5]⟩, none⟩,
 ⟨(some 5), .assign (.tmp 30), none⟩] 0)
 (.seq (.reg [2, 3, 5] [⟨(some 31), .fieldAddr 77 (.tmp 3) 0, none⟩,
 ⟨(some 32), .load 5 (.tmp 31), none⟩,
 ⟨(some 33), .convert 5 3 (.tmp 32), none⟩,
 ⟨(some 6), .assign (.tmp 33), none⟩] 0)
 (r35_4))))) :: k) st Q := Iff.rfl
theorem v35_4 {C : Ctx} {k : List It} {st : St} {Q : Ex → St → Prop} : RunK C (.code r35_4 :: k) st Q ↔ RunK C (.code (.seq (.reg [2, 3, 5, 6] [⟨(some 34), .load 31 (.tmp 2), none⟩,
 ⟨(some 35), .fieldAddr 77 (.tmp 3) 1, none⟩,
 ⟨(some 36), .load 5 (.tmp 35), none⟩,
 ⟨(some 37), .call ⟨.value (.func 62), #[(.tmp 34), (.tmp 36)], #[31, 5]⟩, none⟩,
 ⟨(some 38), .move (.tmp 37), none⟩,
 ⟨(some 39), .fieldAddr 77 (.tmp 3) 2, (some (38, true))⟩,
 ⟨(some 40), .load 5 (.tmp 39), (some (38, true))⟩,
 ⟨(some 41), .move (.tmp 5), (some (38, true))⟩,
 ⟨(some 42), .binOp .eql 5 (.tmp 40) (.tmp 41) 5, (some (38, true))⟩,
 ⟨(some 43), .pick (.tmp 38) (.tmp 42) (.const (.bool false)), none⟩,
 ⟨(some 7), .assign (.tmp 43), none⟩] 0)
 (.seq (.reg [2, 3, 5, 6, 7] [⟨(some 44), .fieldAddr 77 (.tmp 3) 1, none⟩,
 ⟨(some 45), .load 5 (.tmp 44), none⟩,
 ⟨(some 46), .move (.tmp 5), none⟩,
 ⟨(some 47), .binOp .eql 5 (.tmp 45) (.tmp 46) 5, none⟩,
 ⟨(some 48), .move (.tmp 47), none⟩,
 ⟨(some 49), .load 31 (.tmp 2), (some (48, true))⟩,
 ⟨(some 50), .fieldAddr 77 (.tmp 3) 2, (some (48, true))⟩,
 ⟨(some 51), .load 5 (.tmp 50), (some (48, true))⟩,
 ⟨(some 52), .call ⟨.value (.func 62), #[(.tmp 49), (.tmp 51)], #[31, 5]⟩, (some (48, true))⟩,
 ⟨(some 53), .pick (.tmp 48) (.tmp 52) (.const (.bool false)), none⟩,
 ⟨(some 8), .assign (.tmp 53), none⟩] 0)
 (.seq (.reg [2, 3, 6, 7, 8] [⟨(some 54), .load 31 (.tmp 2), none⟩,
 ⟨(some 55), .fieldAddr 77 (.tmp 3) 1, none⟩,
 ⟨(some 56), .load 5 (.tmp 55), none⟩,
 ⟨(some 57), .call ⟨.value (.func 62), #[(.tmp 54), (.tmp 56)], #[31, 5]⟩, none⟩,
 ⟨(some 58), .move (.tmp 57), none⟩,
 ⟨(some 59), .load 31 (.tmp 2), (some (58, true))⟩,
 ⟨(some 60), .fieldAddr 77 (.tmp 3) 2, (some (58, true))⟩,
 ⟨(some 61), .load 5 (.tmp 60), (some (58, true))⟩,
 ⟨(some 62), .call ⟨.value (.func 62), #[(.tmp 59), (.tmp 61)], #[31, 5]⟩, (some (58, true))⟩,
 ⟨(some 63), .pick (.tmp 58) (.tmp 62) (.const (.bool false)), none⟩,
 ⟨(some 64), .move (.tmp 63), none⟩,
 ⟨(some 65), .fieldAddr 77 (.tmp 3) 1, (some (64, true))⟩,
 ⟨(some 66), .load 5 (.tmp 65), (some (64, true))⟩,
 ⟨(some 67), .fieldAddr 77 (.tmp 3) 2, (some (64, true))⟩,
 ⟨(some 68), .load 5 (.tmp 67), (some (64, true))⟩,
 ⟨(some 69), .binOp .neq 5 (.tmp 66) (.tmp 68) 5, (some (64, true))⟩,
 ⟨(some 70), .pick (.tmp 64) (.tmp 69) (.const (.bool false)), none⟩,
 ⟨(some 9), .assign (.tmp 70), none⟩] 0)
 (r35_7)))) :: k) st Q := Iff.rfl
theorem v35_7 {C : Ctx} {k : List It} {st : St} {Q : Ex → St → Prop} : RunK C (.code r35_7 :: k) st Q ↔ RunK C (.code (.seq (.reg [2, 3, 6, 7, 8, 9] [⟨(some 10), .assign (.const (.bool false)), none⟩] 0)
 (.seq (.block 0 (.seq (.reg [2, 3, 6, 7, 8, 9, 10] [⟨(some 72), .move (.tmp 6), none⟩,
 ⟨(some 73), .binOp .geq 3 (.tmp 72) (.const (.int .i64 1)) 3, none⟩,
 ⟨(some 74), .move (.tmp 73), none⟩,
 ⟨(some 75), .move (.tmp 6), (some (74, true))⟩,
 ⟨(some 76), .binOp .leq 3 (.tmp 75) (.const (.int .i64 5)) 3, (some (74, true))⟩,
 ⟨(some 77), .pick (.tmp 74) (.tmp 76) (.const (.bool false)), none⟩,
 ⟨(some 71), .assign (.tmp 77), none⟩] 0)
 (.cond (.tmp 71) (.reg [2, 3, 6, 7, 8] [⟨(some 78), .move (.tmp 7), none⟩,
 ⟨(some 10), .assign (.tmp 78), none⟩] 0)
 (.seq (.reg [2, 3, 6, 8, 9, 10] [⟨(some 80), .move (.tmp 6), none⟩,
 ⟨(some 81), .binOp .geq 3 (.tmp 80) (.const (.int .i64 6)) 3, none⟩,
 ⟨(some 82), .move (.tmp 81), none⟩,
 ⟨(some 83), .move (.tmp 6), (some (82, true))⟩,
 ⟨(some 84), .binOp .leq 3 (.tmp 83) (.const (.int .i64 9)) 3, (some (82, true))⟩,
 ⟨(some 85), .pick (.tmp 82) (.tmp 84) (.const (.bool false)), none⟩,
 ⟨(some 86), .move (.tmp 85), none⟩,
 ⟨(some 87), .move (.tmp 6), (some (86, false))⟩,
 ⟨(some 88), .binOp .eql 3 (.tmp 87) (.const (.int .i64 11)) 3, (some (86, false))⟩,
 ⟨(some 89), .pick (.tmp 86) (.const (.bool true)) (.tmp 88), none⟩,
 ⟨(some 79), .assign (.tmp 89), none⟩] 0)
 (.cond (.tmp 79) (.reg [2, 3, 6, 8] [⟨(some 90), .move (.tmp 8), none⟩,
 ⟨(some 10), .assign (.tmp 90), none⟩] 0)
 (.seq (.reg [2, 3, 6, 8, 9, 10] [⟨(some 92), .move (.tmp 6), none⟩,
 ⟨(some 93), .binOp .eql 3 (.tmp 92) (.const (.int .i64 10)) 3, none⟩,
 ⟨(some 91), .assign (.tmp 93), none⟩] 0)
 (.cond (.tmp 91) (.reg [2, 3, 6, 8, 9] [⟨(some 94), .move (.tmp 8), none⟩,
 ⟨(some 95), .move (.tmp 94), none⟩,
 ⟨(some 96), .move (.tmp 9), (some (95, false))⟩,
 ⟨(some 97), .pick (.tmp 95) (.const (.bool true)) (.tmp 96), none⟩,
 ⟨(some 10), .assign (.tmp 97), none⟩] 0)
 (.seq (.reg [2, 3, 6, 8, 9, 10] [⟨(some 99), .move (.tmp 6), none⟩,
 ⟨(some 100), .binOp .eql 3 (.tmp 99) (.const (.int .i64 12)) 3, none⟩,
 ⟨(some 98), .assign (.tmp 100), none⟩] 0)
 (.cond (.tmp 98) (.reg [2, 3, 6, 8, 9] [⟨(some 101), .move (.tmp 9), none⟩,
 ⟨(some 10), .assign (.tmp 101), none⟩] 0)
 (.skip))))))))))
 (r35_9))) :: k) st Q := Iff.rfl
theorem v35_9 {C : Ctx} {k : List It} {st : St} {Q : Ex → St → Prop} : RunK C (.code r35_9 :: k) st Q ↔ RunK C (.code (.seq (.reg [2, 3, 6, 8, 10] [⟨(some 102), .fieldAddr 77 (.tmp 3) 4, none⟩,
 ⟨(some 103), .load 5 (.tmp 102), none⟩,
 ⟨(some 104), .binOp .eql 5 (.tmp 103) (.const (.int .u8 0)) 5, none⟩,
 ⟨(some 11), .assign (.tmp 104), none⟩] 0)
 (.seq (.seq (.reg [2, 3, 6, 8, 10, 11] [⟨(some 105), .move (.tmp 6), none⟩,
 ⟨(some 106), .binOp .geq 3 (.tmp 105) (.const (.int .i64 6)) 3, none⟩,
 ⟨(some 107), .move (.tmp 106), none⟩,
 ⟨(some 108), .move (.tmp 6), (some (107, true))⟩,
 ⟨(some 109), .binOp .leq 3 (.tmp 108) (.const (.int .i64 8)) 3, (some (107, true))⟩,
 ⟨(some 110), .pick (.tmp 107) (.tmp 109) (.const (.bool false)), none⟩] 0)
 (.cond (.tmp 110) (.reg [2, 3, 6, 8, 10] [⟨(some 111), .load 31 (.tmp 2), none⟩,
 ⟨(some 112), .fieldAddr 77 (.tmp 3) 4, none⟩,
 ⟨(some 113), .load 5 (.tmp 112), none⟩,
 ⟨(some 114), .call ⟨.value (.func 62), #[(.tmp 111), (.tmp 113)], #[31, 5]⟩, none⟩,
 ⟨(some 115), .move (.tmp 114), none⟩,
 ⟨(some 116), .fieldAddr 77 (.tmp 3) 4, (some (115, true))⟩,
 ⟨(some 117), .load 5 (.tmp 116), (some (115, true))⟩,
 ⟨(some 118), .fieldAddr 77 (.tmp 3) 2, (some (115, true))⟩,
 ⟨(some 119), .load 5 (.tmp 118), (some (115, true))⟩,
 ⟨(some 120), .binOp .neq 5 (.tmp 117) (.tmp 119) 5, (some (115, true))⟩,
 ⟨(some 121), .pick (.tmp 115) (.tmp 120) (.const (.bool false)), none⟩,
 ⟨(some 11), .assign (.tmp 121), none⟩] 0)
 (.skip)))
 (r35_11))) :: k) st Q := Iff.rfl
theorem v35_11 {C : Ctx} {k : List It} {st : St} {Q : Ex → St → Prop} : RunK C (.code r35_11 :: k) st Q ↔ RunK C (.code (.seq (.reg [2, 3, 6, 8, 10, 11] [⟨(some 122), .fieldAddr 77 (.tmp 3) 5, none⟩,
 ⟨(some 123), .load 5 (.tmp 122), none⟩,
 ⟨(some 124), .binOp .eql 5 (.tmp 123) (.const (.int .u8 0)) 5, none⟩,
 ⟨(some 125), .move (.tmp 124), none⟩,
 ⟨(some 126), .fieldAddr 77 (.tmp 3) 5, (some (125, false))⟩,
 ⟨(some 127), .load 5 (.tmp 126), (some (125, false))⟩,
 ⟨(some 128), .convert 5 3 (.tmp 127), (some (125, false))⟩,
 ⟨(some 129), .fieldAddr 31 (.tmp 2) 0, (some (125, false))⟩,
 ⟨(some 130), .load 3 (.tmp 129), (some (125, false))⟩,
 ⟨(some 131), .binOp .lss 3 (.tmp 128) (.tmp 130) 3, (some (125, false))⟩,
 ⟨(some 132), .move (.tmp 131), (some (125, false))⟩,
 ⟨(some 133), .move (.tmp 6), (some (132, true))⟩,
 ⟨(some 134), .binOp .eql 3 (.tmp 133) (.const (.int .i64 7)) 3, (some (132, true))⟩,
 ⟨(some 135), .move (.tmp 134), (some (132, true))⟩,
 ⟨(some 136), .move (.tmp 6), (some (135, false))⟩,
 ⟨(some 137), .binOp .eql 3 (.tmp 136) (.const (.int .i64 10)) 3, (some (135, false))⟩,
 ⟨(some 138), .pick (.tmp 135) (.const (.bool true)) (.tmp 137), (some (132, true))⟩,
 ⟨(some 139), .move (.tmp 138), (some (132, true))⟩,
 ⟨(some 140), .move (.tmp 6), (some (139, false))⟩,
 ⟨(some 141), .binOp .eql 3 (.tmp 140) (.const (.int .i64 11)) 3, (some (139, false))⟩,
 ⟨(some 142), .pick (.tmp 139) (.const (.bool true)) (.tmp 141), (some (132, true))⟩,
 ⟨(some 143), .pick (.tmp 132) (.tmp 142) (.const (.bool false)), (some (125, false))⟩,
 ⟨(some 144), .pick (.tmp 125) (.const (.bool true)) (.tmp 143), none⟩,
 ⟨(some 12), .assign (.tmp 144), none⟩] 0)
 (r35_12)) :: k) st Q := Iff.rfl
theorem v35_12 {C : Ctx} {k : List It} {st : St} {Q : Ex → St → Prop} : RunK C (.code r35_12 :: k) st Q ↔ RunK C (.code (.seq (.reg [2, 3, 6, 8, 10, 11, 12] [⟨(some 145), .fieldAddr 77 (.tmp 3) 6, none⟩,
 ⟨(some 146), .load 4 (.tmp 145), none⟩,
 ⟨(some 147), .unOp .not 4 (.tmp 146), none⟩,
 ⟨(some 148), .move (.tmp 147), none⟩,
 ⟨(some 149), .move (.tmp 6), (some (148, false))⟩,
 ⟨(some 150), .binOp .eql 3 (.tmp 149) (.const (.int .i64 10)) 3, (some (148, false))⟩,
 ⟨(some 151), .move (.tmp 150), (some (148, false))⟩,
 ⟨(some 152), .move (.tmp 8), (some (151, true))⟩,
 ⟨(some 153), .pick (.tmp 151) (.tmp 152) (.const (.bool false)), (some (148, false))⟩,
 ⟨(some 154), .pick (.tmp 148) (.const (.bool true)) (.tmp 153), none⟩,
 ⟨(some 13), .assign (.tmp 154), none⟩] 0)
 (r35_13)) :: k) st Q := Iff.rfl
theorem v35_13 {C : Ctx} {k : List It} {st : St} {Q : Ex → St → Prop} : RunK C (.code r35_13 :: k) st Q ↔ RunK C (.code (.seq (.reg [2, 3, 6, 10, 11, 12, 13] [⟨(some 155), .fieldAddr 77 (.tmp 3) 7, none⟩,
 ⟨(some 156), .load 63 (.tmp 155), none⟩,
 ⟨(some 157), .build 63 #[], none⟩,
 ⟨(some 158), .binOp .eql 63 (.tmp 156) (.tmp 157) 63, none⟩,
 ⟨(some 159), .move (.tmp 158), none⟩,
 ⟨(some 160), .move (.tmp 6), (some (159, false))⟩,
 ⟨(some 161), .binOp .eql 3 (.tmp 160) (.const (.int .i64 3)) 3, (some (159, false))⟩,
 ⟨(some 162), .pick (.tmp 159) (.const (.bool true)) (.tmp 161), none⟩,
 ⟨(some 163), .move (.tmp 162), none⟩,
 ⟨(some 164), .move (.tmp 6), (some (163, false))⟩,
 ⟨(some 165), .binOp .eql 3 (.tmp 164) (.const (.int .i64 5)) 3, (some (163, false))⟩,
 ⟨(some 166), .pick (.tmp 163) (.const (.bool true)) (.tmp 165), none⟩,
 ⟨(some 167), .move (.tmp 166), none⟩,
 ⟨(some 168), .move (.tmp 6), (some (167, false))⟩,
 ⟨(some 169), .binOp .eql 3 (.tmp 168) (.const (.int .i64 10)) 3, (some (167, false))⟩,
 ⟨(some 170), .pick (.tmp 167) (.const (.bool true)) (.tmp 169), none⟩,
 ⟨(some 14), .assign (.tmp 170), none⟩] 0)
 (r35_14)) :: k) st Q := Iff.rfl
theorem v35_14 {C : Ctx} {k : List It} {st : St} {Q : Ex → St → Prop} : RunK C (.code r35_14 :: k) st Q ↔ RunK C (.code (.seq (.seq (.reg [2, 3, 10, 11, 12, 13, 14] [⟨(some 171), .fieldAddr 31 (.tmp 2) 2, none⟩,
 ⟨(some 172), .load 3 (.tmp 171), none⟩,
 ⟨(some 15), .assign (.tmp 172), none⟩] 0)
 (.block 1 (.loop (m35_l0))))
 (r35_15)) :: k) st Q := Iff.rfl
theorem v35_15 {C : Ctx} {k : List It} {st : St} {Q : Ex → St → Prop} : RunK C (.code r35_15 :: k) st Q ↔ RunK C (.code (.seq (.reg [10, 11, 12, 13, 14] [⟨(some 185), .move (.tmp 10), none⟩,
 ⟨(some 186), .move (.tmp 185), none⟩,
 ⟨(some 187), .move (.tmp 11), (some (186, true))⟩,
 ⟨(some 188), .pick (.tmp 186) (.tmp 187) (.const (.bool false)), none⟩,
 ⟨(some 189), .move (.tmp 188), none⟩,
 ⟨(some 190), .move (.tmp 12), (some (189, true))⟩,
 ⟨(some 191), .pick (.tmp 189) (.tmp 190) (.const (.bool false)), none⟩,
 ⟨(some 192), .move (.tmp 191), none⟩,
 ⟨(some 193), .move (.tmp 13), (some (192, true))⟩,
 ⟨(some 194), .pick (.tmp 192) (.tmp 193) (.const (.bool false)), none⟩,
 ⟨(some 195), .move (.tmp 194), none⟩,
 ⟨(some 196), .move (.tmp 14), (some (195, true))⟩,
 ⟨(some 197), .pick (.tmp 195) (.tmp 196) (.const (.bool false)), none⟩,
 ⟨(some 4), .assign (.tmp 197), none⟩] 0)
 ((.ret))) :: k) st Q := Iff.rfl
end Go.Proofs.YtnhknhniemfnjaaGreatDoor.Ev
namespace Go.Proofs.YtnhknhniemfnjaaGreatDoor.Ev
open Go Go.RowKit
set_option maxRecDepth 100000
def wayB (c z : Int) (m : Mg) : Bool :=
  if 1 ≤ m.kind ∧ m.kind ≤ 5 then decide (m.src < c) && decide (m.dst = c + z)
  else if 6 ≤ m.kind ∧ m.kind ≤ 9 ∨ m.kind = 11 then decide (m.src = c + z) && decide (m.dst < c)
  else if m.kind = 10 then decide (m.src = c + z) && decide (m.dst < c) || decide (m.src < c) && decide (m.dst < c) && decide (m.src ≠ m.dst)
  else if m.kind = 12 then decide (m.src < c) && decide (m.dst < c) && decide (m.src ≠ m.dst)
  else false
def fromB (c z : Int) (m : Mg) : Bool := decide (m.src = c + z) && decide (m.dst < c)
def cacheB (c z : Int) (m : Mg) : Bool := decide (m.src < c) && decide (m.dst = c + z)
def betwB (c : Int) (m : Mg) : Bool := decide (m.src < c) && decide (m.dst < c) && decide (m.src ≠ m.dst)
set_option maxHeartbeats 16000000 in
theorem ends_run {m : Mg} (hm : m.Ok) {c h o s y : Int} (hk : OkG c h o s y) {z : Int} (z0 : 0 ≤ z) {Q : Ex → St → Prop} {KK : List It}
    (hT : RunK Cx (.code r35_7 :: KK) ⟨[(2, .ptr 0 0), (3, .ptr 1 0), (6, i64 m.kind), (7, bo (cacheB c z m)), (8, bo (fromB c z m)), (9, bo (betwB c m))], [some ⟨31, [i64 c, i64 h, i64 o, i64 s, i64 y], true⟩, some ⟨77, cM m, true⟩]⟩ Q) :
    RunK Cx (.code r35_4 :: KK) ⟨[(2, .ptr 0 0), (3, .ptr 1 0), (5, i8 (c + z)), (6, i64 m.kind)], [some ⟨31, [i64 c, i64 h, i64 o, i64 s, i64 y], true⟩, some ⟨77, cM m, true⟩]⟩ Q := by
  have hS := riscache_yes c h o s y m.src hk hm.src.1 hm.src.2
  have hD := riscache_yes c h o s y m.dst hk hm.dst.1 hm.dst.2
  unfold cacheB fromB betwB at hT
  by_cases p1 : m.src < c <;> by_cases p2 : m.dst < c <;> by_cases p3 : m.src = c + z <;> by_cases p4 : m.dst = c + z <;> by_cases p5 : m.src = m.dst
  all_goals first
    | (exfalso; omega)
    | skip
  all_goals
    first
      | rw [decide_eq_true p1] at hT
      | rw [decide_eq_false p1] at hT
    first
      | rw [decide_eq_true p2] at hT
      | rw [decide_eq_false p2] at hT
    first
      | rw [decide_eq_true p3] at hT
      | rw [decide_eq_false p3] at hT
    first
      | rw [decide_eq_true p4] at hT
      | rw [decide_eq_false p4] at hT
    first
      | rw [decide_eq_true (p := m.src ≠ m.dst) p5] at hT
      | rw [decide_eq_false (p := m.src ≠ m.dst) (not_not_intro p5)] at hT
    simp only [Bool.and_true, Bool.and_false, Bool.true_and, Bool.false_and] at hT
    simp (disch := omega) only [go_sem, v35_4, simprocAttr, passK_shut CxP62, QK.use hS, QK.use hD]
    rw [head_norm (l := [2, 3, 6, 7, 8, 9]) _ _ rfl]
    simp (disch := omega) only [go_sem, simprocAttr]
    exact hT
set_option maxHeartbeats 16000000 in
theorem way_run {m : Mg} (hm : m.Ok) {c h o s y : Int} {C F B : Bool} {Q : Ex → St → Prop} {KK : List It} {W : Bool}
    (hW : W = if 1 ≤ m.kind ∧ m.kind ≤ 5 then C else if 6 ≤ m.kind ∧ m.kind ≤ 9 ∨ m.kind = 11 then F else if m.kind = 10 then F || B else if m.kind = 12 then B else false)
    (hT : RunK Cx (.code r35_9 :: KK) ⟨[(2, .ptr 0 0), (3, .ptr 1 0), (6, i64 m.kind), (8, bo F), (10, bo W)], [some ⟨31, [i64 c, i64 h, i64 o, i64 s, i64 y], true⟩, some ⟨77, cM m, true⟩]⟩ Q) :
    RunK Cx (.code r35_7 :: KK) ⟨[(2, .ptr 0 0), (3, .ptr 1 0), (6, i64 m.kind), (7, bo C), (8, bo F), (9, bo B)], [some ⟨31, [i64 c, i64 h, i64 o, i64 s, i64 y], true⟩, some ⟨77, cM m, true⟩]⟩ Q := by
  obtain ⟨k0, k1⟩ := hm.kind
  have key : (1 ≤ m.kind ∧ m.kind ≤ 5) ∨ (6 ≤ m.kind ∧ m.kind ≤ 9) ∨ m.kind = 11 ∨ m.kind = 10 ∨ m.kind = 12 ∨ m.kind < 1 ∨ 12 < m.kind := by omega
  rcases key with q | q | q | q | q | q | q
  · rw [if_pos q] at hW
    subst hW
    simp (disch := omega) only [go_sem, v35_7, simprocAttr]
    rw [head_norm (l := [2, 3, 6, 8, 10]) _ _ rfl]
    simp (disch := omega) only [go_sem, simprocAttr]
    exact hT
  · rw [if_neg (by omega), if_pos (.inl q)] at hW
    subst hW
    simp (disch := omega) only [go_sem, v35_7, simprocAttr]
    rw [head_norm (l := [2, 3, 6, 8, 10]) _ _ rfl]
    simp (disch := omega) only [go_sem, simprocAttr]
    exact hT
  · rw [if_neg (by omega), if_pos (.inr q)] at hW
    subst hW
    simp (disch := omega) only [go_sem, v35_7, simprocAttr]
    rw [head_norm (l := [2, 3, 6, 8, 10]) _ _ rfl]
    simp (disch := omega) only [go_sem, simprocAttr]
    exact hT
  · rw [if_neg (by omega), if_neg (by omega), if_pos q] at hW
    subst hW
    cases F
    all_goals
      simp (disch := omega) only [go_sem, v35_7, simprocAttr]
      rw [head_norm (l := [2, 3, 6, 8, 10]) _ _ rfl]
      simp (disch := omega) only [go_sem, simprocAttr]
      exact hT
  · rw [if_neg (by omega), if_neg (by omega), if_neg (by omega), if_pos q] at hW
    subst hW
    simp (disch := omega) only [go_sem, v35_7, simprocAttr]
    rw [head_norm (l := [2, 3, 6, 8, 10]) _ _ rfl]
    simp (disch := omega) only [go_sem, simprocAttr]
    exact hT
  all_goals
    rw [if_neg (by omega), if_neg (by omega), if_neg (by omega), if_neg (by omega)] at hW
    subst hW
    simp (disch := omega) only [go_sem, v35_7, simprocAttr]
    rw [head_norm (l := [2, 3, 6, 8, 10]) _ _ rfl]
    simp (disch := omega) only [go_sem, simprocAttr]
    exact hT
def askB (c : Int) (m : Mg) : Bool := if 6 ≤ m.kind ∧ m.kind ≤ 8 then decide (m.asker < c) && decide (m.asker ≠ m.dst) else decide (m.asker = 0)
set_option maxHeartbeats 16000000 in
theorem ask_run {m : Mg} (hm : m.Ok) {c h o s y : Int} (hk : OkG c h o s y) {F W : Bool} {Q : Ex → St → Prop} {KK : List It}
    (hT : RunK Cx (.code r35_11 :: KK) ⟨[(2, .ptr 0 0), (3, .ptr 1 0), (6, i64 m.kind), (8, bo F), (10, bo W), (11, bo (askB c m))], [some ⟨31, [i64 c, i64 h, i64 o, i64 s, i64 y], true⟩, some ⟨77, cM m, true⟩]⟩ Q) :
    RunK Cx (.code r35_9 :: KK) ⟨[(2, .ptr 0 0), (3, .ptr 1 0), (6, i64 m.kind), (8, bo F), (10, bo W)], [some ⟨31, [i64 c, i64 h, i64 o, i64 s, i64 y], true⟩, some ⟨77, cM m, true⟩]⟩ Q := by
  have hA := riscache_yes c h o s y m.asker hk hm.asker.1 hm.asker.2
  obtain ⟨k0, k1⟩ := hm.kind
  unfold askB at hT
  by_cases q : 6 ≤ m.kind ∧ m.kind ≤ 8
  · rw [if_pos q] at hT
    by_cases p1 : m.asker < c
    · rw [decide_eq_true p1, Bool.true_and] at hT
      by_cases p2 : m.asker = m.dst
      · rw [decide_eq_false (not_not_intro p2)] at hT
        by_cases p3 : m.asker = 0
        all_goals
          simp (disch := omega) only [go_sem, v35_9, simprocAttr, passK_shut CxP62, QK.use hA]
          rw [head_norm (l := [2, 3, 6, 8, 10, 11]) _ _ rfl]
          simp (disch := omega) only [go_sem, simprocAttr]
          exact hT
      · rw [decide_eq_true p2] at hT
        by_cases p3 : m.asker = 0
        all_goals
          simp (disch := omega) only [go_sem, v35_9, simprocAttr, passK_shut CxP62, QK.use hA]
          rw [head_norm (l := [2, 3, 6, 8, 10, 11]) _ _ rfl]
          simp (disch := omega) only [go_sem, simprocAttr]
          exact hT
    · rw [decide_eq_false p1, Bool.false_and] at hT
      by_cases p3 : m.asker = 0
      all_goals
        simp (disch := omega) only [go_sem, v35_9, simprocAttr, passK_shut CxP62, QK.use hA]
        rw [head_norm (l := [2, 3, 6, 8, 10, 11]) _ _ rfl]
        simp (disch := omega) only [go_sem, simprocAttr]
        exact hT
  · rw [if_neg q] at hT
    have q' : m.kind < 6 ∨ 8 < m.kind := by omega
    by_cases p3 : m.asker = 0
    · rw [decide_eq_true p3] at hT
      rcases q' with q' | q'
      all_goals
        simp (disch := omega) only [go_sem, v35_9, simprocAttr]
        rw [head_norm (l := [2, 3, 6, 8, 10, 11]) _ _ rfl]
        simp (disch := omega) only [go_sem, simprocAttr]
        exact hT
    · rw [decide_eq_false p3] at hT
      rcases q' with q' | q'
      all_goals
        simp (disch := omega) only [go_sem, v35_9, simprocAttr]
        rw [head_norm (l := [2, 3, 6, 8, 10, 11]) _ _ rfl]
        simp (disch := omega) only [go_sem, simprocAttr]
        exact hT
def acksB (c : Int) (m : Mg) : Bool := decide (m.acks = 0) || (decide (m.acks < c) && decide (m.kind = 7 ∨ m.kind = 10 ∨ m.kind = 11))
set_option maxHeartbeats 16000000 in
theorem acks_run {m : Mg} (hm : m.Ok) {c h o s y : Int} (hk : OkG c h o s y) {F W A0 : Bool} {Q : Ex → St → Prop} {KK : List It}
    (hT : RunK Cx (.code r35_12 :: KK) ⟨[(2, .ptr 0 0), (3, .ptr 1 0), (6, i64 m.kind), (8, bo F), (10, bo W), (11, bo A0), (12, bo (acksB c m))], [some ⟨31, [i64 c, i64 h, i64 o, i64 s, i64 y], true⟩, some ⟨77, cM m, true⟩]⟩ Q) :
    RunK Cx (.code r35_11 :: KK) ⟨[(2, .ptr 0 0), (3, .ptr 1 0), (6, i64 m.kind), (8, bo F), (10, bo W), (11, bo A0)], [some ⟨31, [i64 c, i64 h, i64 o, i64 s, i64 y], true⟩, some ⟨77, cM m, true⟩]⟩ Q := by
  obtain ⟨k0, k1⟩ := hm.kind
  obtain ⟨a0, a1⟩ := hm.acks
  unfold acksB at hT
  by_cases q : m.acks = 0
  · rw [decide_eq_true q, Bool.true_or] at hT
    simp (disch := omega) only [go_sem, v35_11, simprocAttr]
    rw [head_norm (l := [2, 3, 6, 8, 10, 11, 12]) _ _ rfl]
    simp (disch := omega) only [go_sem, simprocAttr]
    exact hT
  rw [decide_eq_false q, Bool.false_or] at hT
  by_cases q2 : m.acks < c
  case neg =>
    rw [decide_eq_false q2, Bool.false_and] at hT
    simp (disch := omega) only [go_sem, v35_11, simprocAttr]
    rw [head_norm (l := [2, 3, 6, 8, 10, 11, 12]) _ _ rfl]
    simp (disch := omega) only [go_sem, simprocAttr]
    exact hT
  rw [decide_eq_true q2, Bool.true_and] at hT
  by_cases k7 : m.kind = 7
  · rw [decide_eq_true (.inl k7)] at hT
    simp (disch := omega) only [go_sem, v35_11, simprocAttr]
    rw [head_norm (l := [2, 3, 6, 8, 10, 11, 12]) _ _ rfl]
    simp (disch := omega) only [go_sem, simprocAttr]
    exact hT
  by_cases k10 : m.kind = 10
  · rw [decide_eq_true (.inr (.inl k10))] at hT
    simp (disch := omega) only [go_sem, v35_11, simprocAttr]
    rw [head_norm (l := [2, 3, 6, 8, 10, 11, 12]) _ _ rfl]
    simp (disch := omega) only [go_sem, simprocAttr]
    exact hT
  by_cases k11 : m.kind = 11
  · rw [decide_eq_true (.inr (.inr k11))] at hT
    simp (disch := omega) only [go_sem, v35_11, simprocAttr]
    rw [head_norm (l := [2, 3, 6, 8, 10, 11, 12]) _ _ rfl]
    simp (disch := omega) only [go_sem, simprocAttr]
    exact hT
  rw [decide_eq_false (by omega)] at hT
  simp (disch := omega) only [go_sem, v35_11, simprocAttr]
  rw [head_norm (l := [2, 3, 6, 8, 10, 11, 12]) _ _ rfl]
  simp (disch := omega) only [go_sem, simprocAttr]
  exact hT
def aloneB (m : Mg) (F : Bool) : Bool := !m.alone || (decide (m.kind = 10) && F)
set_option maxHeartbeats 16000000 in
theorem alone_run {m : Mg} {c h o s y : Int} {F W A0 K0 : Bool} {Q : Ex → St → Prop} {KK : List It}
    (hT : RunK Cx (.code r35_13 :: KK) ⟨[(2, .ptr 0 0), (3, .ptr 1 0), (6, i64 m.kind), (10, bo W), (11, bo A0), (12, bo K0), (13, bo (aloneB m F))], [some ⟨31, [i64 c, i64 h, i64 o, i64 s, i64 y], true⟩, some ⟨77, cM m, true⟩]⟩ Q) :
    RunK Cx (.code r35_12 :: KK) ⟨[(2, .ptr 0 0), (3, .ptr 1 0), (6, i64 m.kind), (8, bo F), (10, bo W), (11, bo A0), (12, bo K0)], [some ⟨31, [i64 c, i64 h, i64 o, i64 s, i64 y], true⟩, some ⟨77, cM m, true⟩]⟩ Q := by
  obtain ⟨kd, sr, ds, ln, ak, ac, al, d0, d1, d2, d3⟩ := m
  unfold aloneB at hT
  simp only at hT ⊢
  cases al with
  | false =>
    simp (disch := omega) only [go_sem, v35_12, simprocAttr]
    rw [head_norm (l := [2, 3, 6, 10, 11, 12, 13]) _ _ rfl]
    simp (disch := omega) only [go_sem, simprocAttr]
    exact hT
  | true =>
    by_cases k10 : kd = 10
    · rw [decide_eq_true k10] at hT
      simp (disch := omega) only [go_sem, v35_12, simprocAttr]
      rw [head_norm (l := [2, 3, 6, 10, 11, 12, 13]) _ _ rfl]
      simp (disch := omega) only [go_sem, simprocAttr]
      simpa using hT
    · rw [decide_eq_false k10] at hT
      simp (disch := omega) only [go_sem, v35_12, simprocAttr]
      rw [head_norm (l := [2, 3, 6, 10, 11, 12, 13]) _ _ rfl]
      simp (disch := omega) only [go_sem, simprocAttr]
      simpa using hT
def zeroB (m : Mg) : Bool := decide (m.d0 = 0) && (decide (m.d1 = 0) && (decide (m.d2 = 0) && decide (m.d3 = 0)))
def dataB (m : Mg) : Bool := zeroB m || decide (m.kind = 3 ∨ m.kind = 5 ∨ m.kind = 10)
theorem zb' (x : Int) : (x == 0) = decide (x = 0) := by
  by_cases h : x = 0
  · subst h
    rfl
  · rw [decide_eq_false h]
    exact beq_no h
set_option maxHeartbeats 16000000 in
theorem data_run {m : Mg} {c h o s y : Int} {W A0 K0 L0 : Bool} {Q : Ex → St → Prop} {KK : List It}
    (hT : RunK Cx (.code r35_14 :: KK) ⟨[(2, .ptr 0 0), (3, .ptr 1 0), (10, bo W), (11, bo A0), (12, bo K0), (13, bo L0), (14, bo (dataB m))], [some ⟨31, [i64 c, i64 h, i64 o, i64 s, i64 y], true⟩, some ⟨77, cM m, true⟩]⟩ Q) :
    RunK Cx (.code r35_13 :: KK) ⟨[(2, .ptr 0 0), (3, .ptr 1 0), (6, i64 m.kind), (10, bo W), (11, bo A0), (12, bo K0), (13, bo L0)], [some ⟨31, [i64 c, i64 h, i64 o, i64 s, i64 y], true⟩, some ⟨77, cM m, true⟩]⟩ Q := by
  unfold dataB at hT
  cases hz : zeroB m with
  | true =>
    rw [hz, Bool.true_or] at hT
    have hz' : (m.d0 == 0 && (m.d1 == 0 && (m.d2 == 0 && m.d3 == 0))) = true := by
      rw [zb', zb', zb', zb']
      exact hz
    simp (disch := omega) only [go_sem, v35_13, hz', simprocAttr]
    rw [head_norm (l := [2, 3, 10, 11, 12, 13, 14]) _ _ rfl]
    simp (disch := omega) only [go_sem, simprocAttr]
    exact hT
  | false =>
    rw [hz, Bool.false_or] at hT
    have hz' : (m.d0 == 0 && (m.d1 == 0 && (m.d2 == 0 && m.d3 == 0))) = false := by
      rw [zb', zb', zb', zb']
      exact hz
    by_cases k3 : m.kind = 3
    · rw [decide_eq_true (.inl k3)] at hT
      simp (disch := omega) only [go_sem, v35_13, hz', simprocAttr]
      rw [head_norm (l := [2, 3, 10, 11, 12, 13, 14]) _ _ rfl]
      simp (disch := omega) only [go_sem, simprocAttr]
      exact hT
    by_cases k5 : m.kind = 5
    · rw [decide_eq_true (.inr (.inl k5))] at hT
      simp (disch := omega) only [go_sem, v35_13, hz', simprocAttr]
      rw [head_norm (l := [2, 3, 10, 11, 12, 13, 14]) _ _ rfl]
      simp (disch := omega) only [go_sem, simprocAttr]
      exact hT
    by_cases k10 : m.kind = 10
    · rw [decide_eq_true (.inr (.inr k10))] at hT
      simp (disch := omega) only [go_sem, v35_13, hz', simprocAttr]
      rw [head_norm (l := [2, 3, 10, 11, 12, 13, 14]) _ _ rfl]
      simp (disch := omega) only [go_sem, simprocAttr]
      exact hT
    rw [decide_eq_false (by omega)] at hT
    simp (disch := omega) only [go_sem, v35_13, hz', simprocAttr]
    rw [head_norm (l := [2, 3, 10, 11, 12, 13, 14]) _ _ rfl]
    simp (disch := omega) only [go_sem, simprocAttr]
    exact hT
def dF (m : Mg) (i : Nat) : Int := [m.d0, m.d1, m.d2, m.d3].getD i 0
def allZ (f : Nat → Int) : Nat → Nat → Bool
  | _, 0 => true
  | i, d + 1 => decide (f i = 0) && allZ f (i + 1) d
set_option maxHeartbeats 16000000 in
theorem zero_loop {m : Mg} {c h o s y : Int} {W A0 K0 L0 : Bool} {Q : Ex → St → Prop} {KK : List It} : ∀ (d i : Nat) (D : Bool), i + d = 4 →
    (UnwK Cx (.out 1) KK ⟨[(174, bo false), (173, i64 4), (3, .ptr 1 0), (10, bo W), (11, bo A0), (12, bo K0), (13, bo L0), (14, bo (D && allZ (dF m) i d)), (15, i64 4)], [some ⟨31, [i64 c, i64 h, i64 o, i64 s, i64 y], true⟩, some ⟨77, cM m, true⟩]⟩ Q) →
    RunK Cx (.code (.loop m35_l0) :: KK) ⟨[(3, .ptr 1 0), (10, bo W), (11, bo A0), (12, bo K0), (13, bo L0), (14, bo D), (15, i64 i)], [some ⟨31, [i64 c, i64 h, i64 o, i64 s, i64 y], true⟩, some ⟨77, cM m, true⟩]⟩ Q := by
  intro d
  induction d with
  | zero =>
    intro i D hi hT
    obtain rfl : i = 4 := by omega
    have e : ((4 : Nat) : Int) = 4 := rfl
    simp only [allZ, Bool.and_true] at hT
    rw [runK_loop]
    simp (disch := omega) only [go_sem, e, Int.lt_irrefl, simprocAttr]
    exact hT
  | succ d ih =>
    intro i D hi hT
    have hi4 : i < 4 := by omega
    have hd : List.drop (7 + i) [A.v (.int .u8 m.kind), A.v (.int .u8 m.src), A.v (.int .u8 m.dst), A.v (.int .u8 m.line), A.v (.int .u8 m.asker), A.v (.int .u8 m.acks), A.v (.bool m.alone), A.v (.int .u8 m.d0), A.v (.int .u8 m.d1), A.v (.int .u8 m.d2), A.v (.int .u8 m.d3)] = i8 (dF m i) :: List.drop (8 + i) (cM m) := by
      obtain rfl | rfl | rfl | rfl : i = 0 ∨ i = 1 ∨ i = 2 ∨ i = 3 := by omega
      all_goals rfl
    rw [runK_loop]
    cases D with
    | false =>
      have := ih (i + 1) false (by omega) (by simpa only [Bool.false_and] using hT)
      simp (disch := omega) only [go_sem, hi4, simprocAttr]
      rw [loop_norm (l := [3, 10, 11, 12, 13, 14, 15]) rfl]
      simp (disch := omega) only [go_sem, simprocAttr]
      exact this
    | true =>
      simp only [allZ, Bool.true_and] at hT
      by_cases hz : dF m i = 0
      · have := ih (i + 1) true (by omega) (by simpa only [decide_eq_true hz, Bool.true_and] using hT)
        simp (disch := omega) only [go_sem, hi4, hd, Nat.mul_one, beq_yes hz, simprocAttr]
        rw [loop_norm (l := [3, 10, 11, 12, 13, 14, 15]) rfl]
        simp (disch := omega) only [go_sem, simprocAttr]
        exact this
      · have := ih (i + 1) false (by omega) (by simpa only [decide_eq_false hz, Bool.false_and] using hT)
        simp (disch := omega) only [go_sem, hi4, hd, Nat.mul_one, beq_no hz, simprocAttr]
        rw [loop_norm (l := [3, 10, 11, 12, 13, 14, 15]) rfl]
        simp (disch := omega) only [go_sem, simprocAttr]
        exact this
def refB (c h o : Int) (m : Mg) : Bool := decide (m.line < 5 / o + 1) && (wayB c (m.line % h) m && (askB c m && (acksB c m && (aloneB m (fromB c (m.line % h) m) && (dataB m && allZ (dF m) o.toNat (4 - o.toNat))))))
set_option maxHeartbeats 16000000 in
theorem rmright_ev {m : Mg} (hm : m.Ok) {c h o s y : Int} (hk : OkG c h o s y) : EvQ Cx 35 [encG c h o s y, encM m] (bo (refB c h o m)) := by
  have hR := rright_yes c h o s y hk
  have hL := rlines_yes c h o s y hk
  obtain ⟨l1, l2⟩ := hm.line
  have hH := rhome_yes c h o s y m.line hk l1 l2
  have hk' := hk
  obtain ⟨c1, c2, h1, h2, o1, o2, s1, s2, y1, y2⟩ := id hk
  have d1 : 0 ≤ 5 / o := Int.ediv_nonneg (by omega) (by omega)
  have z0 := Int.emod_nonneg m.line (show h ≠ 0 by omega)
  obtain ⟨k0, k1⟩ := hm.kind
  refine evQ_of CxB35 rfl (by simp [fn35]) ?_
  unfold refB
  by_cases hl : m.line < 5 / o + 1
  case neg =>
    rw [decide_eq_false hl]
    simp (disch := omega) only [go_sem, v35_0, simprocAttr, passK_shut CxP33, QK.use hR, passK_shut CxP23, QK.use hL, passK_shut CxP61, QK.use hH]
  rw [decide_eq_true hl]
  simp (disch := omega) only [go_sem, v35_0, simprocAttr, passK_shut CxP33, QK.use hR, passK_shut CxP23, QK.use hL, passK_shut CxP61, QK.use hH]
  rw [head_norm (l := [2, 3, 5, 6]) _ _ rfl]
  simp (disch := omega) only [go_sem, simprocAttr]
  refine ends_run hm hk z0 (way_run hm (W := wayB c (m.line % h) m) ?_ (ask_run hm hk (acks_run hm hk (alone_run (data_run ?_)))))
  · rfl
  generalize wayB c (m.line % h) m = W
  generalize askB c m = A0
  generalize acksB c m = K0
  generalize aloneB m (fromB c (m.line % h) m) = L0
  generalize dataB m = D
  obtain ⟨n, rfl⟩ : ∃ n : Nat, o = n := ⟨o.toNat, by omega⟩
  simp (disch := omega) only [go_sem, v35_14, simprocAttr]
  rw [loop_norm (l := [3, 10, 11, 12, 13, 14, 15]) rfl]
  simp (disch := omega) only [go_sem, simprocAttr]
  refine zero_loop (c := c) (h := h) (o := (n : Int)) (s := s) (y := y) (4 - n) n D (by omega) ?_
  generalize allZ (dF m) n (4 - n) = Z
  cases W with
  | false => simp (disch := omega) only [go_sem, v35_15, simprocAttr]
  | true => cases A0 with
    | false => simp (disch := omega) only [go_sem, v35_15, simprocAttr]
    | true => cases K0 with
      | false => simp (disch := omega) only [go_sem, v35_15, simprocAttr]
      | true => cases L0 with
        | false => simp (disch := omega) only [go_sem, v35_15, simprocAttr]
        | true => simp (disch := omega) only [go_sem, v35_15, simprocAttr]
end Go.Proofs.YtnhknhniemfnjaaGreatDoor.Ev
namespace Go.Proofs.YtnhknhniemfnjaaGreatDoor.Ev
open Go Go.RowKit
set_option maxRecDepth 100000
def usesL : List Value := [.int .u8 0, .int .u8 96, .int .u8 96, .int .u8 104, .int .u8 96, .int .u8 104, .int .u8 145, .int .u8 147, .int .u8 145, .int .u8 144, .int .u8 190, .int .u8 146, .int .u8 160]
theorem uses_tab : Cx.T.gl.tab 1 = some usesL := by rfl
set_option maxHeartbeats 16000000 in
theorem mright_gen {m : Mg} (hm : m.Ok) {c h o s y : Int} (hk : OkG c h o s y) (hk1 : 1 ≤ m.kind) (hk2 : m.kind ≤ 12) {b : Int} {tl : List Value} (hb : List.drop m.kind.toNat usesL = .int .u8 b :: tl) (hb0 : ¬ b = 0) {E V P : Bool}
    (hE : EvQ Cx 52 [encT m c h o s y b] (bo E)) (hV : EvQ Cx 53 [encT m c h o s y b] (bo V)) (hP : EvQ Cx 54 [encT m c h o s y b] (bo P)) :
    EvQ Cx 30 [encG c h o s y, encM m] (bo (decide (m.line < 5 / o + 1) && (E && (V && P)))) := by
  have hR := gright_yes c h o s y hk
  have hL := glines_yes c h o s y hk
  obtain ⟨l1, l2⟩ := hm.line
  obtain ⟨c1, c2, h1, h2, o1, o2, s1, s2, y1, y2⟩ := id hk
  have d1 : 0 ≤ 5 / o := Int.ediv_nonneg (by omega) (by omega)
  refine evQ_of CxB30 rfl (by simp [fn30]) ?_
  by_cases hl : m.line < 5 / o + 1
  case neg =>
    rw [decide_eq_false hl]
    simp (disch := omega) only [go_sem, uses_tab, hb, Nat.mul_one, simprocAttr, passK_shut CxP28, QK.use hR, passK_shut CxP31, QK.use hL, passK_shut CxP52, QK.use hE, passK_shut CxP53, QK.use hV, passK_shut CxP54, QK.use hP]
  rw [decide_eq_true hl]
  cases E with
  | false =>
    simp (disch := omega) only [go_sem, uses_tab, hb, Nat.mul_one, simprocAttr, passK_shut CxP28, QK.use hR, passK_shut CxP31, QK.use hL, passK_shut CxP52, QK.use hE, passK_shut CxP53, QK.use hV, passK_shut CxP54, QK.use hP]
  | true => cases V with
    | false => simp (disch := omega) only [go_sem, uses_tab, hb, Nat.mul_one, simprocAttr, passK_shut CxP28, QK.use hR, passK_shut CxP31, QK.use hL, passK_shut CxP52, QK.use hE, passK_shut CxP53, QK.use hV, passK_shut CxP54, QK.use hP]
    | true => simp (disch := omega) only [go_sem, uses_tab, hb, Nat.mul_one, simprocAttr, passK_shut CxP28, QK.use hR, passK_shut CxP31, QK.use hL, passK_shut CxP52, QK.use hE, passK_shut CxP53, QK.use hV, passK_shut CxP54, QK.use hP]
def useB (k : Int) : Int := match usesL.getD k.toNat (.int .u8 0) with
  | .int _ b => b
  | _ => 0
def prgB (c h o : Int) (m : Mg) : Bool :=
  if m.kind < 1 ∨ 12 < m.kind then false
  else decide (m.line < 5 / o + 1) && (endsB c h m (hasB (useB m.kind) 16) (hasB (useB m.kind) 32) (hasB (useB m.kind) 64) (hasB (useB m.kind) 128) && (valsB c m (hasB (useB m.kind) 1) && plainB o m (hasB (useB m.kind) 1) (hasB (useB m.kind) 2) (hasB (useB m.kind) 4) (hasB (useB m.kind) 8)))
theorem uses_at : ∀ k : Nat, k < 13 → 1 ≤ k → List.drop (k : Int).toNat usesL = .int .u8 (useB k) :: List.drop (k + 1) usesL ∧ ¬ useB k = 0 ∧
    ((hasB (useB k) 16, hasB (useB k) 32, hasB (useB k) 64, hasB (useB k) 128) = (false, true, true, false) ∨ (hasB (useB k) 16, hasB (useB k) 32, hasB (useB k) 64, hasB (useB k) 128) = (true, false, false, true) ∨ (hasB (useB k) 16, hasB (useB k) 32, hasB (useB k) 64, hasB (useB k) 128) = (true, true, false, true) ∨ (hasB (useB k) 16, hasB (useB k) 32, hasB (useB k) 64, hasB (useB k) 128) = (false, true, false, true)) ∧
    ((hasB (useB k) 1, hasB (useB k) 2, hasB (useB k) 4, hasB (useB k) 8) = (false, false, false, false) ∨ (hasB (useB k) 1, hasB (useB k) 2, hasB (useB k) 4, hasB (useB k) 8) = (false, false, false, true) ∨ (hasB (useB k) 1, hasB (useB k) 2, hasB (useB k) 4, hasB (useB k) 8) = (true, false, false, false) ∨ (hasB (useB k) 1, hasB (useB k) 2, hasB (useB k) 4, hasB (useB k) 8) = (true, true, false, false) ∨ (hasB (useB k) 1, hasB (useB k) 2, hasB (useB k) 4, hasB (useB k) 8) = (false, true, true, true) ∨ (hasB (useB k) 1, hasB (useB k) 2, hasB (useB k) 4, hasB (useB k) 8) = (false, true, false, false)) := by
  intro k h1 h2
  obtain rfl | rfl | rfl | rfl | rfl | rfl | rfl | rfl | rfl | rfl | rfl | rfl : k = 1 ∨ k = 2 ∨ k = 3 ∨ k = 4 ∨ k = 5 ∨ k = 6 ∨ k = 7 ∨ k = 8 ∨ k = 9 ∨ k = 10 ∨ k = 11 ∨ k = 12 := by omega
  all_goals exact ⟨rfl, by decide +kernel, by decide +kernel, by decide +kernel⟩
set_option maxHeartbeats 4000000 in
theorem mright_ev {m : Mg} (hm : m.Ok) {c h o s y : Int} (hk : OkG c h o s y) : EvQ Cx 30 [encG c h o s y, encM m] (bo (prgB c h o m)) := by
  unfold prgB
  by_cases hkk : m.kind < 1 ∨ 12 < m.kind
  · rw [if_pos hkk]
    have hR := gright_yes c h o s y hk
    obtain ⟨k1, k2⟩ := hm.kind
    refine evQ_of CxB30 rfl (by simp [fn30]) ?_
    rcases hkk with hkk | hkk
    · have hb : List.drop m.kind.toNat usesL = .int .u8 0 :: List.drop 1 usesL := by
        rw [show m.kind = 0 by omega]
        rfl
      simp (disch := omega) only [go_sem, uses_tab, hb, Nat.mul_one, simprocAttr, passK_shut CxP28, QK.use hR]
    · simp (disch := omega) only [go_sem, simprocAttr, passK_shut CxP28, QK.use hR]
  · rw [if_neg hkk]
    obtain ⟨n, hn⟩ : ∃ n : Nat, m.kind = n := ⟨m.kind.toNat, by omega⟩
    obtain ⟨u1, u2, u3, u4⟩ := uses_at n (by omega) (by omega)
    rw [← hn] at u1 u2 u3 u4
    exact mright_gen hm hk (by omega) (by omega) u1 u2 (ends_ev hm hk rfl rfl rfl rfl u3) (values_ev hm hk rfl) (plain_ev hk rfl rfl rfl rfl u4)
end Go.Proofs.YtnhknhniemfnjaaGreatDoor.Ev
namespace Go.Proofs.YtnhknhniemfnjaaGreatDoor.Ev
open Go Go.RowKit
set_option maxRecDepth 100000
def kTab : List (Int × Bool × Bool × Bool × Bool × Bool × Bool × Bool × Bool) := [(1, false, true, true, false, false, false, false, false), (2, false, true, true, false, false, false, false, false), (3, false, true, true, false, false, false, false, true), (4, false, true, true, false, false, false, false, false), (5, false, true, true, false, false, false, false, true), (6, true, false, false, true, true, false, false, false), (7, true, false, false, true, true, true, false, false), (8, true, false, false, true, true, false, false, false), (9, true, false, false, true, false, false, false, false), (10, true, true, false, true, false, true, true, true), (11, true, false, false, true, false, true, false, false), (12, false, true, false, true, false, false, false, false)]
set_option maxHeartbeats 400000000 in
theorem sameKd {k sr ds ln ak ac d0 d1 d2 d3 c h o : Int} {al b1 b2 b3 b4 b5 b6 b7 b8 : Bool} (hk : (k, b1, b2, b3, b4, b5, b6, b7, b8) ∈ kTab) (c1 : 1 ≤ c) (c2 : c ≤ 4) (o1 : 1 ≤ o) (o2 : o ≤ 4) (z0 : 0 ≤ ln % h) (sr0 : 0 ≤ sr) (ds0 : 0 ≤ ds) (ak0 : 0 ≤ ak) (ac0 : 0 ≤ ac) :
    (endsB c h ⟨k, sr, ds, ln, ak, ac, al, d0, d1, d2, d3⟩ b1 b2 b3 b4 && (valsB c ⟨k, sr, ds, ln, ak, ac, al, d0, d1, d2, d3⟩ b5 && plainB o ⟨k, sr, ds, ln, ak, ac, al, d0, d1, d2, d3⟩ b5 b6 b7 b8)) = (wayB c (ln % h) ⟨k, sr, ds, ln, ak, ac, al, d0, d1, d2, d3⟩ && (askB c ⟨k, sr, ds, ln, ak, ac, al, d0, d1, d2, d3⟩ && (acksB c ⟨k, sr, ds, ln, ak, ac, al, d0, d1, d2, d3⟩ && (aloneB ⟨k, sr, ds, ln, ak, ac, al, d0, d1, d2, d3⟩ (fromB c (ln % h) ⟨k, sr, ds, ln, ak, ac, al, d0, d1, d2, d3⟩) && (dataB ⟨k, sr, ds, ln, ak, ac, al, d0, d1, d2, d3⟩ && allZ (dF ⟨k, sr, ds, ln, ak, ac, al, d0, d1, d2, d3⟩) o.toNat (4 - o.toNat)))))) := by
  simp only [endsB]
  generalize ln % h = z at z0 ⊢
  simp only [kTab, List.mem_cons, List.not_mem_nil, or_false, Prod.mk.injEq] at hk
  obtain rfl | rfl | rfl | rfl : o = 1 ∨ o = 2 ∨ o = 3 ∨ o = 4 := by omega
  all_goals cases al
  all_goals rcases hk with ⟨rfl, rfl, rfl, rfl, rfl, rfl, rfl, rfl, rfl⟩ | ⟨rfl, rfl, rfl, rfl, rfl, rfl, rfl, rfl, rfl⟩ | ⟨rfl, rfl, rfl, rfl, rfl, rfl, rfl, rfl, rfl⟩ | ⟨rfl, rfl, rfl, rfl, rfl, rfl, rfl, rfl, rfl⟩ | ⟨rfl, rfl, rfl, rfl, rfl, rfl, rfl, rfl, rfl⟩ | ⟨rfl, rfl, rfl, rfl, rfl, rfl, rfl, rfl, rfl⟩ | ⟨rfl, rfl, rfl, rfl, rfl, rfl, rfl, rfl, rfl⟩ | ⟨rfl, rfl, rfl, rfl, rfl, rfl, rfl, rfl, rfl⟩ | ⟨rfl, rfl, rfl, rfl, rfl, rfl, rfl, rfl, rfl⟩ | ⟨rfl, rfl, rfl, rfl, rfl, rfl, rfl, rfl, rfl⟩ | ⟨rfl, rfl, rfl, rfl, rfl, rfl, rfl, rfl, rfl⟩ | ⟨rfl, rfl, rfl, rfl, rfl, rfl, rfl, rfl, rfl⟩
  all_goals (simp only [wayB, fromB, askB, acksB, aloneB, dataB, zeroB, valsB, plainB]; rw [Bool.eq_iff_iff]; simp [allZ, dF]; try omega)
set_option maxHeartbeats 4000000 in
theorem msg_same {m : Mg} (hm : m.Ok) {c h o s y : Int} (hk : OkG c h o s y) : prgB c h o m = refB c h o m := by
  obtain ⟨c1, c2, h1, h2, o1, o2, s1, s2, y1, y2⟩ := id hk
  obtain ⟨⟨k0, k1⟩, ⟨sr0, sr1⟩, ⟨ds0, ds1⟩, ⟨l0, l1⟩, ⟨ak0, ak1⟩, ⟨ac0, ac1⟩, -, -, -, -⟩ := hm
  obtain ⟨kd, sr, ds, ln, ak, ac, al, d0, d1, d2, d3⟩ := m
  simp only at k0 k1 sr0 sr1 ds0 ds1 l0 l1 ak0 ak1 ac0 ac1
  have z0 := Int.emod_nonneg ln (show h ≠ 0 by omega)
  by_cases hq : kd < 1 ∨ 12 < kd
  · simp only [prgB, refB, wayB]
    rw [if_pos hq, if_neg (by omega), if_neg (by omega), if_neg (by omega), if_neg (by omega), Bool.false_and, Bool.and_false]
  unfold prgB refB
  simp only
  rw [if_neg hq]
  congr 1
  obtain rfl | rfl | rfl | rfl | rfl | rfl | rfl | rfl | rfl | rfl | rfl | rfl : kd = 1 ∨ kd = 2 ∨ kd = 3 ∨ kd = 4 ∨ kd = 5 ∨ kd = 6 ∨ kd = 7 ∨ kd = 8 ∨ kd = 9 ∨ kd = 10 ∨ kd = 11 ∨ kd = 12 := by omega
  all_goals exact sameKd (by decide +kernel) c1 c2 o1 o2 z0 sr0 ds0 ak0 ac0
end Go.Proofs.YtnhknhniemfnjaaGreatDoor.Ev
namespace Go.Proofs.YtnhknhniemfnjaaGreatDoor.Ev
open Go Go.RowKit
set_option maxRecDepth 100000
structure Ln where
  line : Int
  state : Int
  need : Int
  has : Bool
  d0 : Int
  d1 : Int
  d2 : Int
  d3 : Int
structure Ln.Ok (x : Ln) : Prop where
  line : 0 ≤ x.line ∧ x.line ≤ 255
  state : 0 ≤ x.state ∧ x.state ≤ 255
  need : -128 ≤ x.need ∧ x.need ≤ 127
  d0 : 0 ≤ x.d0 ∧ x.d0 ≤ 255
  d1 : 0 ≤ x.d1 ∧ x.d1 ≤ 255
  d2 : 0 ≤ x.d2 ∧ x.d2 ≤ 255
  d3 : 0 ≤ x.d3 ∧ x.d3 ≤ 255
abbrev cL (x : Ln) : List A := [i8 x.line, i8 x.state, .v (.int .i8 x.need), bo x.has, i8 x.d0, i8 x.d1, i8 x.d2, i8 x.d3]
attribute [go_sem] cL
abbrev encLn (x : Ln) : A := .agg (cL x)
attribute [go_sem] encLn
structure CacheR (cs : List A) (W : Nat → Nat → Ln) : Prop where
  len : cs.length = 160
  one : ones cs = true
  shut : shut.shutL cs = true
  fz : ∀ (H : Heap) (n : Nat), mapO (freeze H (n + 1)) cs = some cs
  way : ∀ s w, s < 4 → w < 4 → ∃ tl, List.drop (s * 32 + w * 8) cs = cL (W s w) ++ tl
theorem free_ev (x : Ln) : EvQ Cx 86 [encLn x] (bo (decide (x.state = 0))) := by
  refine evQ_of CxB86 rfl (by simp [fn86]) ?_
  by_cases h : x.state = 0
  · simp (disch := omega) only [go_sem, simprocAttr]
  · simp (disch := omega) only [go_sem, simprocAttr]
theorem holds_ev (l : Int) : EvQ Cx 119 [i8 l] (.clo 154 [] [.fp [i8 l]]) := by
  refine evQ_of CxB119 rfl (by simp [fn119]) ?_
  simp (disch := omega) only [go_sem, simprocAttr]
set_option maxHeartbeats 4000000 in
theorem fset_yes {c h o s y : Int} (l : Int) (hk : OkG c h o s y) (l1 : 0 ≤ l) (l2 : l ≤ 255) : EvQ Cx 87 [encG c h o s y, i8 l] (i64 (l % s)) := by
  have hV := gset_yes c h o s y l hk l1 l2
  obtain ⟨c1, c2, h1, h2, o1, o2, s1, s2, y1, y2⟩ := id hk
  have d1 := Int.emod_nonneg l (show s ≠ 0 by omega)
  have d2 := Int.emod_lt_of_pos l (show 0 < s by omega)
  refine evQ_of CxB87 rfl (by simp [fn87]) ?_
  simp (disch := omega) only [go_sem, simprocAttr, passK_shut CxP121, QK.use hV]
theorem row_ev {c h o s y : Int} {cs : List A} (q : Int) (hfz : ∀ (H : Heap) (n : Nat), mapO (freeze H (n + 1)) cs = some cs) : EvQ Cx 153 [encG c h o s y, .fp cs, i64 q] (.clo 180 [] [.fp [i64 c, i64 h, i64 o, i64 s, i64 y], .fp [.fp cs], .fp [i64 q]]) := by
  refine evQ_of CxB153 rfl (by simp [fn153]) ?_
  simp (disch := omega) only [go_sem, hfz, simprocAttr]
def hitB (x : Ln) (l : Int) : Bool := !decide (x.state = 0) && decide (x.line = l)
def findR (W : Nat → Ln) (l : Int) : Nat → Nat → Option Nat
  | _, 0 => none
  | w, d + 1 => if hitB (W w) l then some w else findR W l (w + 1) d
set_option maxHeartbeats 4000000 in
theorem hold_pass (x : Ln) (l : Int) {dst : Option Nat} {ms : List MOp} {st : St} {k : List It} {Q : Ex → St → Prop} :
    PassK Cx 154 [encLn x, .fp [i8 l]] dst ms st k Q ↔ OpsK Cx 0 ms ⟨put st.env dst (bo (hitB x l)), st.H ++ [some ⟨83, cL x, true⟩]⟩ k Q := by
  have hf := free_ev x
  rw [passK_in CxB154 CxP154]
  unfold hitB
  by_cases h : x.state = 0
  · rw [decide_eq_true h] at hf ⊢
    simp (disch := omega) only [go_sem, simprocAttr, passK_shut CxP86, QK.use hf]
  · rw [decide_eq_false h] at hf ⊢
    by_cases h2 : x.line = l
    · rw [decide_eq_true h2]
      simp (disch := omega) only [go_sem, simprocAttr, passK_shut CxP86, QK.use hf]
    · rw [decide_eq_false h2]
      simp (disch := omega) only [go_sem, simprocAttr, passK_shut CxP86, QK.use hf]
set_option maxHeartbeats 8000000 in
theorem first_loop {cs : List A} {W : Nat → Nat → Ln} (hC : CacheR cs W) {c h o s y : Int} {n : Nat} (hy : y = n) (hn : n ≤ 4) {q : Nat} (hq : q < 4) (l : Int) {KK : List It} {Q : Ex → St → Prop} :
    ∀ (d w : Nat) (T : Heap), w + d = n → (findR (W q) l w d = none → ∀ T, UnwK Cx (.out 0) KK ⟨[(10, bo false), (0, .yl 4), (2, .fp [.fp cs]), (3, .fp [i64 q]), (8, i64 y), (9, i64 y)], some ⟨122, [i64 c, i64 h, i64 o, i64 s, i64 y], true⟩ :: some ⟨164, [.clo 154 [] [.fp [i8 l]]], true⟩ :: some ⟨3, [i64 0], true⟩ :: some ⟨4, [bo false], true⟩ :: some ⟨0, [.lrec 22 [16, 17] [7, 8, 9] m118_l0 m118_l1, i64 0, i64 0, .ptr 1 0, .ptr 2 0, .ptr 3 0], true⟩ :: T⟩ Q) →
      (∀ w' : Nat, findR (W q) l w d = some w' → ∀ (T : Heap) (e : Env), UnwK Cx .back KK ⟨e, some ⟨122, [i64 c, i64 h, i64 o, i64 s, i64 y], true⟩ :: some ⟨164, [.clo 154 [] [.fp [i8 l]]], true⟩ :: some ⟨3, [i64 w'], true⟩ :: some ⟨4, [bo true], true⟩ :: some ⟨0, [.lrec 22 [16, 17] [7, 8, 9] m118_l0 m118_l1, i64 2, i64 1, .ptr 1 0, .ptr 2 0, .ptr 3 0], true⟩ :: T⟩ Q) →
      RunK Cx (.code (.loop m180_l0) :: KK) ⟨[(0, .yl 4), (2, .fp [.fp cs]), (3, .fp [i64 q]), (8, i64 y), (9, i64 w)], some ⟨122, [i64 c, i64 h, i64 o, i64 s, i64 y], true⟩ :: some ⟨164, [.clo 154 [] [.fp [i8 l]]], true⟩ :: some ⟨3, [i64 0], true⟩ :: some ⟨4, [bo false], true⟩ :: some ⟨0, [.lrec 22 [16, 17] [7, 8, 9] m118_l0 m118_l1, i64 0, i64 0, .ptr 1 0, .ptr 2 0, .ptr 3 0], true⟩ :: T⟩ Q := by
  intro d
  induction d with
  | zero =>
    intro w T hw hE _
    obtain rfl : w = n := by omega
    subst hy
    rw [runK_loop]
    simp (disch := omega) only [go_sem, Int.lt_irrefl, simprocAttr]
    exact hE rfl T
  | succ d ih =>
    intro w T hw hE hH
    subst hy
    have hw4 : w < 4 := by omega
    have hwn : w < n := by omega
    obtain ⟨tl, hd0⟩ := hC.way q w hq hw4
    have hd : List.drop (w * 8) (List.drop (q * 32) cs) = cL (W q w) ++ tl := by rw [List.drop_drop]; exact hd0
    have hlc := hC.len
    have hfz := hC.fz
    rw [runK_loop]
    cases hh : hitB (W q w) l with
    | false =>
      have hp := @hold_pass (W q w) l
      simp only [hh] at hp
      have hfr : findR (W q) l w (d + 1) = findR (W q) l (w + 1) d := by simp [findR, hh]
      rw [hfr] at hE hH
      simp (disch := omega) only [go_sem, runK_rf, rfK_fn, callK_in, endK_go, endK_back, exK_go, exK_out, exK_back, pendK_some, anyK_yl, ylK_in, roundK_some, asgR_go, asgR_some, rndR_go, rndR_out, rndR_back, rndR_some, RecA.blk, zipE, newRecA, recOf, pending, exOfN, hw4, hwn, hq, hd, hlc, hfz, simprocAttr, hp]
      rw [loop_norm (l := [0, 2, 3, 8, 9]) rfl]
      simp (disch := omega) only [go_sem, simprocAttr]
      have := fun T => ih (w + 1) T (by omega) hE hH
      simpa only [i64, Int.natCast_add, Int.natCast_one] using this _
    | true =>
      have hp := @hold_pass (W q w) l
      simp only [hh] at hp
      have hfr : findR (W q) l w (d + 1) = some w := by simp [findR, hh]
      rw [hfr] at hH
      simp (disch := omega) only [go_sem, runK_rf, rfK_fn, callK_in, endK_go, endK_back, exK_go, exK_out, exK_back, pendK_some, anyK_yl, ylK_in, roundK_some, asgR_go, asgR_some, rndR_go, rndR_out, rndR_back, rndR_some, RecA.blk, zipE, newRecA, recOf, pending, exOfN, hw4, hwn, hq, hd, hlc, hfz, simprocAttr, hp]
      exact hH w rfl _ _
set_option maxHeartbeats 8000000 in
theorem first_ev {cs : List A} {W : Nat → Nat → Ln} (hC : CacheR cs W) {c h o s y : Int} (hk : OkG c h o s y) {q : Nat} (hq : q < 4) (l : Int) :
    EvQ Cx 118 [encG c h o s y, .fp cs, i64 q, .clo 154 [] [.fp [i8 l]]] (match findR (W q) l 0 y.toNat with | some w => .tup [i64 w, bo true] | none => .tup [i64 0, bo false]) := by
  have hrow := row_ev (c := c) (h := h) (o := o) (s := s) (y := y) (cs := cs) q hC.fz
  have hfz := hC.fz
  obtain ⟨c1, c2, h1, h2, o1, o2, s1, s2, y1, y2⟩ := id hk
  obtain ⟨n, rfl⟩ : ∃ n : Nat, y = n := ⟨y.toNat, by omega⟩
  rw [Int.toNat_natCast]
  refine evQ_of CxB118 rfl (by simp [fn118]) ?_
  simp (disch := omega) only [go_sem, runK_rf, rfK_fn, callK_in, endK_go, endK_back, exK_go, exK_out, exK_back, pendK_some, anyK_yl, ylK_in, roundK_some, asgR_go, asgR_some, rndR_go, rndR_out, rndR_back, rndR_some, RecA.blk, zipE, newRecA, hfz, simprocAttr, passK_shut CxP153, QK.use hrow]
  rw [callK_in CxB180 CxP180]
  simp (disch := omega) only [go_sem, runK_rf, rfK_fn, callK_in, endK_go, endK_back, exK_go, exK_out, exK_back, pendK_some, anyK_yl, ylK_in, roundK_some, asgR_go, asgR_some, rndR_go, rndR_out, rndR_back, rndR_some, RecA.blk, zipE, newRecA, hfz, simprocAttr]
  rw [loop_norm (l := [0, 2, 3, 8, 9]) rfl]
  simp (disch := omega) only [go_sem, simprocAttr]
  refine first_loop hC (n := n) rfl (by omega) hq l n 0 [] (by omega) (fun hf T => ?_) (fun w' hf T e => ?_)
  · rw [hf]
    simp (disch := omega) only [go_sem, runK_rf, rfK_fn, callK_in, endK_go, endK_back, exK_go, exK_out, exK_back, pendK_some, anyK_yl, ylK_in, roundK_some, asgR_go, asgR_some, rndR_go, rndR_out, rndR_back, rndR_some, RecA.blk, zipE, newRecA, recOf, pending, exOfN, simprocAttr]
    exact ⟨_, rfl⟩
  · rw [hf]
    simp (disch := omega) only [go_sem, runK_rf, rfK_fn, callK_in, endK_go, endK_back, exK_go, exK_out, exK_back, pendK_some, anyK_yl, ylK_in, roundK_some, asgR_go, asgR_some, rndR_go, rndR_out, rndR_back, rndR_some, RecA.blk, zipE, newRecA, recOf, pending, exOfN, simprocAttr]
    exact ⟨_, rfl⟩
set_option maxHeartbeats 8000000 in
theorem find_ev {cs : List A} {W : Nat → Nat → Ln} (hC : CacheR cs W) {c h o s y : Int} (hk : OkG c h o s y) {l : Int} (l0 : 0 ≤ l) (l1 : l ≤ 255) :
    EvQ Cx 82 [encG c h o s y, .agg cs, i8 l] (.tup [i64 (l % s), i64 ((findR (W (l % s).toNat) l 0 y.toNat).getD 0 : Nat), bo (findR (W (l % s).toNat) l 0 y.toNat).isSome]) := by
  have hR := gright_yes c h o s y hk
  have hS := fset_yes (c := c) (h := h) (o := o) (s := s) (y := y) l hk l0 l1
  have hH := holds_ev l
  have hk' := hk
  obtain ⟨c1, c2, h1, h2, o1, o2, s1, s2, y1, y2⟩ := id hk
  have d1 := Int.emod_nonneg l (show s ≠ 0 by omega)
  have d2 := Int.emod_lt_of_pos l (show 0 < s by omega)
  obtain ⟨q, hq⟩ : ∃ q : Nat, l % s = q := ⟨(l % s).toNat, by omega⟩
  rw [hq] at hS ⊢
  rw [Int.toNat_natCast]
  have hF := first_ev hC hk' (q := q) (by omega) l
  have hlc := hC.len
  have h1 := hC.one
  have hfz := hC.fz
  refine evQ_of CxB82 rfl (by simp [fn82]) ?_
  cases hr : findR (W q) l 0 y.toNat with
  | none =>
    rw [hr] at hF
    simp (disch := omega) only [go_sem, hlc, h1, hfz, simprocAttr, passK_shut CxP28, QK.use hR, passK_shut CxP87, QK.use hS, passK_shut CxP119, QK.use hH, passK_shut CxP118, QK.use hF]
    simp
  | some w =>
    rw [hr] at hF
    simp (disch := omega) only [go_sem, hlc, h1, hfz, simprocAttr, passK_shut CxP28, QK.use hR, passK_shut CxP87, QK.use hS, passK_shut CxP119, QK.use hH, passK_shut CxP118, QK.use hF]
    simp
def noLn : Ln := ⟨0, 0, 0, false, 0, 0, 0, 0⟩
theorem findR_lt (W : Nat → Ln) (l : Int) : ∀ (d w : Nat) (r : Nat), findR W l w d = some r → w ≤ r ∧ r < w + d ∧ hitB (W r) l = true
  | 0, w, r, h => by cases h
  | d + 1, w, r, h => by
    unfold findR at h
    split at h
    · cases h
      exact ⟨Nat.le_refl _, by omega, ‹_›⟩
    · obtain ⟨h1, h2, h3⟩ := findR_lt W l d (w + 1) r h
      exact ⟨by omega, by omega, h3⟩
set_option maxHeartbeats 8000000 in
theorem get_ev {cs : List A} {W : Nat → Nat → Ln} (hC : CacheR cs W) {c h o s y : Int} (hk : OkG c h o s y) {l : Int} (l0 : 0 ≤ l) (l1 : l ≤ 255) :
    EvQ Cx 40 [encG c h o s y, .agg cs, i8 l] (match findR (W (l % s).toNat) l 0 y.toNat with | some w => .tup [encLn (W (l % s).toNat w), bo true] | none => .tup [encLn noLn, bo false]) := by
  have hF := find_ev hC hk l0 l1
  have hk' := hk
  obtain ⟨c1, c2, h1, h2, o1, o2, s1, s2, y1, y2⟩ := id hk
  have d1 := Int.emod_nonneg l (show s ≠ 0 by omega)
  have d2 := Int.emod_lt_of_pos l (show 0 < s by omega)
  obtain ⟨q, hq⟩ : ∃ q : Nat, l % s = q := ⟨(l % s).toNat, by omega⟩
  rw [hq] at hF ⊢
  rw [Int.toNat_natCast] at hF ⊢
  have hlc := hC.len
  have h1 := hC.one
  have hfz := hC.fz
  have hta : List.take 160 cs = cs := List.take_of_length_le (by omega)
  have hsh := hC.shut
  refine evQ_of CxB40 rfl (by simp [fn40]) ?_
  cases hr : findR (W q) l 0 y.toNat with
  | none =>
    rw [hr] at hF
    simp only [Option.getD_none, Option.isSome_none] at hF
    simp (disch := omega) only [go_sem, noLn, hlc, h1, hfz, hta, hsh, simprocAttr, passK_shut CxP82, QK.use hF]
  | some w =>
    rw [hr] at hF
    simp only [Option.getD_some, Option.isSome_some] at hF
    obtain ⟨-, hw, -⟩ := findR_lt _ _ _ _ _ hr
    have hq4 : q < 4 := by omega
    have hw4 : w < 4 := by omega
    obtain ⟨tl, hd⟩ := hC.way q w hq4 hw4
    simp (disch := omega) only [go_sem, hlc, h1, hfz, hta, hsh, hq4, hw4, hd, Nat.zero_add, simprocAttr, passK_shut CxP82, QK.use hF]
end Go.Proofs.YtnhknhniemfnjaaGreatDoor.Ev
namespace Go.Proofs.YtnhknhniemfnjaaGreatDoor.Ev
open Go Go.RowKit
set_option maxRecDepth 100000
set_option maxHeartbeats 8000000 in
theorem rfind_loop {cs : List A} {W : Nat → Nat → Ln} (hC : CacheR cs W) {c h o s : Int} {n : Nat} (hn : n ≤ 4) {q : Nat} (hq : q < 4) (l : Int) {KK : List It} {Q : Ex → St → Prop} :
    ∀ (d w : Nat), w + d = n → (findR (W q) l w d = none → UnwK Cx (.out 0) KK ⟨[(21, bo false), (20, i64 n), (19, .ptr 0 4), (18, i64 n), (2, i8 l), (3, .ptr 0 0), (4, .ptr 1 0), (9, i64 q), (10, i64 n)], [some ⟨31, [i64 c, i64 h, i64 o, i64 s, i64 n], true⟩, some ⟨90, cs, true⟩]⟩ Q) →
      (∀ w' : Nat, findR (W q) l w d = some w' → UnwK Cx .back KK ⟨[(8, bo true), (7, i64 w'), (6, i64 q), (44, i64 w'), (43, i64 q), (9, i64 q), (10, i64 w')], [some ⟨31, [i64 c, i64 h, i64 o, i64 s, i64 n], true⟩, some ⟨90, cs, true⟩]⟩ Q) →
      RunK Cx (.code (.loop m59_l0) :: KK) ⟨[(2, i8 l), (3, .ptr 0 0), (4, .ptr 1 0), (9, i64 q), (10, i64 w)], [some ⟨31, [i64 c, i64 h, i64 o, i64 s, i64 n], true⟩, some ⟨90, cs, true⟩]⟩ Q := by
  intro d
  induction d with
  | zero =>
    intro w hw hE _
    obtain rfl : w = n := by omega
    rw [runK_loop]
    simp (disch := omega) only [go_sem, Int.lt_irrefl, simprocAttr]
    exact hE rfl
  | succ d ih =>
    intro w hw hE hH
    have hw4 : w < 4 := by omega
    have hwn : w < n := by omega
    obtain ⟨tl, hd0⟩ := hC.way q w hq hw4
    have hd1 : List.drop (q * 32 + w * 8) cs = i8 (W q w).line :: i8 (W q w).state :: List.drop 2 (cL (W q w) ++ tl) := hd0
    have hd2 : List.drop (q * 32 + w * 8 + 1) cs = i8 (W q w).state :: List.drop 2 (cL (W q w) ++ tl) := by
      rw [← List.drop_drop, hd0]
      rfl
    have hlc := hC.len
    rw [runK_loop]
    by_cases h0 : (W q w).state = 0
    · have hfr : findR (W q) l w (d + 1) = findR (W q) l (w + 1) d := by simp [findR, hitB, h0]
      rw [hfr] at hE hH
      have := ih (w + 1) (by omega) hE hH
      simp (disch := omega) only [go_sem, hw4, hwn, hq, hd1, hd2, hlc, Nat.zero_add, simprocAttr]
      rw [loop_norm (l := [2, 3, 4, 9, 10]) rfl]
      simp (disch := omega) only [go_sem, simprocAttr]
      simpa only [i64, i8, Int.natCast_add, Int.natCast_one] using this
    · by_cases h1 : (W q w).line = l
      · have hfr : findR (W q) l w (d + 1) = some w := by simp [findR, hitB, h0, h1]
        rw [hfr] at hH
        have := hH w rfl
        simp (disch := omega) only [go_sem, hw4, hwn, hq, hd1, hd2, hlc, Nat.zero_add, simprocAttr]
        exact this
      · have hfr : findR (W q) l w (d + 1) = findR (W q) l (w + 1) d := by simp [findR, hitB, h1]
        rw [hfr] at hE hH
        have := ih (w + 1) (by omega) hE hH
        simp (disch := omega) only [go_sem, hw4, hwn, hq, hd1, hd2, hlc, Nat.zero_add, simprocAttr]
        rw [loop_norm (l := [2, 3, 4, 9, 10]) rfl]
        simp (disch := omega) only [go_sem, simprocAttr]
        simpa only [i64, i8, Int.natCast_add, Int.natCast_one] using this
set_option maxHeartbeats 8000000 in
theorem rfind_ev {cs : List A} {W : Nat → Nat → Ln} (hC : CacheR cs W) {c h o s y : Int} (hk : OkG c h o s y) {l : Int} (l0 : 0 ≤ l) (l1 : l ≤ 255) :
    EvQ Cx 59 [encG c h o s y, .agg cs, i8 l] (.tup [i64 (l % s), i64 ((findR (W (l % s).toNat) l 0 y.toNat).getD 0 : Nat), bo (findR (W (l % s).toNat) l 0 y.toNat).isSome]) := by
  have hR := rright_yes c h o s y hk
  have hS := rset_yes c h o s y l hk l0 l1
  obtain ⟨c1, c2, h1, h2, o1, o2, s1, s2, y1, y2⟩ := id hk
  have d1 := Int.emod_nonneg l (show s ≠ 0 by omega)
  have d2 := Int.emod_lt_of_pos l (show 0 < s by omega)
  obtain ⟨q, hq⟩ : ∃ q : Nat, l % s = q := ⟨(l % s).toNat, by omega⟩
  obtain ⟨n, rfl⟩ : ∃ n : Nat, y = n := ⟨y.toNat, by omega⟩
  rw [hq] at hS ⊢
  rw [Int.toNat_natCast, Int.toNat_natCast]
  have hlc := hC.len
  have h1 := hC.one
  have hfz := hC.fz
  refine evQ_of CxB59 rfl (by simp [fn59]) ?_
  simp (disch := omega) only [go_sem, hlc, h1, hfz, simprocAttr, passK_shut CxP33, QK.use hR, passK_shut CxP95, QK.use hS]
  rw [loop_norm (l := [2, 3, 4, 9, 10]) rfl]
  simp (disch := omega) only [go_sem, simprocAttr]
  refine rfind_loop hC (n := n) (by omega) (q := q) (by omega) l n 0 (by omega) (fun hr => ?_) (fun w' hr => ?_)
  · rw [hr]
    simp (disch := omega) only [go_sem, simprocAttr]
    simp
  · rw [hr]
    simp (disch := omega) only [go_sem, simprocAttr]
    simp
set_option maxHeartbeats 8000000 in
theorem rget_ev {cs : List A} {W : Nat → Nat → Ln} (hC : CacheR cs W) {c h o s y : Int} (hk : OkG c h o s y) {l : Int} (l0 : 0 ≤ l) (l1 : l ≤ 255) :
    EvQ Cx 84 [encG c h o s y, .agg cs, i8 l] (match findR (W (l % s).toNat) l 0 y.toNat with | some w => .tup [encLn (W (l % s).toNat w), bo true] | none => .tup [encLn noLn, bo false]) := by
  have hF := rfind_ev hC hk l0 l1
  have hk' := hk
  obtain ⟨c1, c2, h1, h2, o1, o2, s1, s2, y1, y2⟩ := id hk
  have d1 := Int.emod_nonneg l (show s ≠ 0 by omega)
  have d2 := Int.emod_lt_of_pos l (show 0 < s by omega)
  obtain ⟨q, hq⟩ : ∃ q : Nat, l % s = q := ⟨(l % s).toNat, by omega⟩
  rw [hq] at hF ⊢
  rw [Int.toNat_natCast] at hF ⊢
  have hlc := hC.len
  have h1 := hC.one
  have hfz := hC.fz
  have hta : List.take 160 cs = cs := List.take_of_length_le (by omega)
  have hsh := hC.shut
  refine evQ_of CxB84 rfl (by simp [fn84]) ?_
  cases hr : findR (W q) l 0 y.toNat with
  | none =>
    rw [hr] at hF
    simp only [Option.getD_none, Option.isSome_none] at hF
    simp (disch := omega) only [go_sem, noLn, hlc, h1, hfz, hta, hsh, simprocAttr, passK_shut CxP59, QK.use hF]
  | some w =>
    rw [hr] at hF
    simp only [Option.getD_some, Option.isSome_some] at hF
    obtain ⟨-, hw, -⟩ := findR_lt _ _ _ _ _ hr
    have hq4 : q < 4 := by omega
    have hw4 : w < 4 := by omega
    obtain ⟨tl, hd⟩ := hC.way q w hq4 hw4
    simp (disch := omega) only [go_sem, hlc, h1, hfz, hta, hsh, hq4, hw4, hd, Nat.zero_add, simprocAttr, passK_shut CxP59, QK.use hF]
end Go.Proofs.YtnhknhniemfnjaaGreatDoor.Ev
namespace Go.Proofs.YtnhknhniemfnjaaGreatDoor.Ev
open Go Go.RowKit
set_option maxRecDepth 100000
def ownB (s : Int) : Bool := decide (s = 2 ∨ s = 3 ∨ s = 4 ∨ s = 8)
def cpyB (s : Int) : Bool := decide (s = 1 ∨ s = 7) || ownB s
theorem rown_ev (s : Int) : EvQ Cx 44 [i8 s] (bo (ownB s)) := by
  refine evQ_of CxB44 rfl (by simp [fn44]) ?_
  unfold ownB
  by_cases h2 : s = 2
  · rw [decide_eq_true (by omega)]
    simp (disch := omega) only [go_sem, simprocAttr]
  by_cases h3 : s = 3
  · rw [decide_eq_true (by omega)]
    simp (disch := omega) only [go_sem, simprocAttr]
  by_cases h4 : s = 4
  · rw [decide_eq_true (by omega)]
    simp (disch := omega) only [go_sem, simprocAttr]
  by_cases h8 : s = 8
  · rw [decide_eq_true (by omega)]
    simp (disch := omega) only [go_sem, simprocAttr]
  rw [decide_eq_false (by omega)]
  simp (disch := omega) only [go_sem, simprocAttr]
theorem rcpy_ev (s : Int) : EvQ Cx 43 [i8 s] (bo (cpyB s)) := by
  have ho := rown_ev s
  refine evQ_of CxB43 rfl (by simp [fn43]) ?_
  unfold cpyB
  by_cases h1 : s = 1
  · rw [decide_eq_true (by omega), Bool.true_or]
    simp (disch := omega) only [go_sem, simprocAttr]
  by_cases h7 : s = 7
  · rw [decide_eq_true (by omega), Bool.true_or]
    simp (disch := omega) only [go_sem, simprocAttr]
  rw [decide_eq_false (by omega), Bool.false_or]
  simp (disch := omega) only [go_sem, simprocAttr, passK_shut CxP44, QK.use ho]
theorem own_ev (x : Ln) : EvQ Cx 97 [encLn x] (bo (ownB x.state)) := by
  refine evQ_of CxB97 rfl (by simp [fn97]) ?_
  unfold ownB
  by_cases h2 : x.state = 2
  · rw [decide_eq_true (by omega)]
    simp (disch := omega) only [go_sem, simprocAttr]
  by_cases h3 : x.state = 3
  · rw [decide_eq_true (by omega)]
    simp (disch := omega) only [go_sem, simprocAttr]
  by_cases h4 : x.state = 4
  · rw [decide_eq_true (by omega)]
    simp (disch := omega) only [go_sem, simprocAttr]
  by_cases h8 : x.state = 8
  · rw [decide_eq_true (by omega)]
    simp (disch := omega) only [go_sem, simprocAttr]
  rw [decide_eq_false (by omega)]
  simp (disch := omega) only [go_sem, simprocAttr]
theorem cpy_ev (x : Ln) : EvQ Cx 96 [encLn x] (bo (cpyB x.state)) := by
  refine evQ_of CxB96 rfl (by simp [fn96]) ?_
  unfold cpyB ownB
  by_cases h1 : x.state = 1
  · rw [decide_eq_true (by omega), Bool.true_or]
    simp (disch := omega) only [go_sem, simprocAttr]
  by_cases h7 : x.state = 7
  · rw [decide_eq_true (by omega), Bool.true_or]
    simp (disch := omega) only [go_sem, simprocAttr]
  rw [decide_eq_false (by omega), Bool.false_or]
  by_cases h2 : x.state = 2
  · rw [decide_eq_true (by omega)]
    simp (disch := omega) only [go_sem, simprocAttr]
  by_cases h3 : x.state = 3
  · rw [decide_eq_true (by omega)]
    simp (disch := omega) only [go_sem, simprocAttr]
  by_cases h4 : x.state = 4
  · rw [decide_eq_true (by omega)]
    simp (disch := omega) only [go_sem, simprocAttr]
  by_cases h8 : x.state = 8
  · rw [decide_eq_true (by omega)]
    simp (disch := omega) only [go_sem, simprocAttr]
  rw [decide_eq_false (by omega)]
  simp (disch := omega) only [go_sem, simprocAttr]
def b2i (b : Bool) : Int := if b then 1 else 0
theorem one_ev (b : Bool) : EvQ Cx 47 [bo b] (i64 (b2i b)) := by
  refine evQ_of CxB47 rfl (by simp [fn47]) ?_
  cases b
  all_goals simp (disch := omega) only [go_sem, b2i, Bool.false_eq_true, if_false, if_true, simprocAttr]
theorem bit_ev (b : Bool) : EvQ Cx 103 [bo b] (i64 (b2i b)) := by
  refine evQ_of CxB103 rfl (by simp [fn103]) ?_
  cases b
  all_goals simp (disch := omega) only [go_sem, b2i, Bool.false_eq_true, if_false, if_true, simprocAttr]
/-! ### Messages in a list -/
def encN : List Mg → List A
  | [] => []
  | m :: l => cM m ++ encN l
theorem encN_len : ∀ l : List Mg, (encN l).length = l.length * 11
  | [] => rfl
  | p :: l => by
    simp only [encN, List.length_append, encN_len l, cM, List.length_cons, List.length_nil]
    omega
theorem encN_app : ∀ a b : List Mg, encN (a ++ b) = encN a ++ encN b
  | [], _ => rfl
  | p :: a, b => by simp only [List.cons_append, encN, encN_app a b, List.append_assoc]
theorem encN_drop (pre suf : List Mg) : List.drop (pre.length * 11) (encN (pre ++ suf)) = encN suf := by
  rw [encN_app, ← encN_len, List.drop_left]
structure SysR (ss : List A) (net : List Mg) : Prop where
  len : ss.length = 69
  one : ones ss = true
  shut : shut.shutL ss = true
  fz : ∀ (H : Heap) (n : Nat), mapO (freeze H (n + 1)) ss = some ss
  net : List.drop 68 ss = [.sl net.length (encN net)]
def selB (n k b c : Int) (m : Mg) : Bool := decide (m.line = n ∧ m.kind = k) && decide (b = 0 ∨ b = 1 ∧ m.src = c ∨ b = 2 ∧ m.dst = c ∨ b = 3 ∧ m.asker = c)
def cntM (p : Mg → Bool) : List Mg → Nat
  | [] => 0
  | m :: l => cntM p l + if p m then 1 else 0
theorem cntM_app (p : Mg → Bool) : ∀ a b, cntM p (a ++ b) = cntM p a + cntM p b
  | [], b => by simp [cntM]
  | m :: a, b => by
    simp only [List.cons_append, cntM, cntM_app p a b]
    omega
theorem cntM_le (p : Mg → Bool) : ∀ a, cntM p a ≤ a.length
  | [] => Nat.le_refl _
  | m :: a => by
    have := cntM_le p a
    simp only [cntM, List.length_cons]
    split <;> omega
set_option maxHeartbeats 16000000 in
theorem count_loop {ss : List A} {net : List Mg} (hS : SysR ss net) (hok : ∀ m ∈ net, m.Ok) (hn : net.length ≤ 4611686018427387904) {n : Nat} {k b c : Int} (hb : b = 0 ∨ b = 1 ∨ b = 2 ∨ b = 3) {KK : List It} {Q : Ex → St → Prop}
    (hT : ∀ H e, UnwK Cx (.out 0) KK ⟨[(18, bo false), (17, i64 net.length), (16, .sl net.length (encN net)), (15, .ptr 0 68), (14, i64 net.length), (1, i64 n), (2, i8 k), (3, i64 b), (4, i8 c), (5, .ptr 0 0), (11, i64 (cntM (selB n k b c) net)), (12, i64 e)], H⟩ Q) :
    ∀ (suf pre : List Mg) (H : Heap), net = pre ++ suf → H[0]? = some (some ⟨69, ss, true⟩) → RunK Cx (.code (.loop m48_l0) :: KK) ⟨[(1, i64 n), (2, i8 k), (3, i64 b), (4, i8 c), (5, .ptr 0 0), (11, i64 (cntM (selB n k b c) pre)), (12, i64 pre.length)], H⟩ Q := by
  intro suf
  have hss := hS.len
  have hnet := hS.net
  induction suf with
  | nil =>
    intro pre H he h0
    rw [List.append_nil] at he
    subst he
    rw [runK_loop]
    simp (disch := omega) only [go_sem, h0, hss, hnet, Int.lt_irrefl, Nat.le_refl, simprocAttr]
    exact hT _ _
  | cons m suf ih =>
    intro pre H he h0
    have l0 := ap_low h0
    have hm : m ∈ net := by rw [he]; simp
    obtain ⟨k0, k1⟩ := (hok m hm).line
    have hlen : net.length = pre.length + (suf.length + 1) := by rw [he]; simp
    have hlt : pre.length < net.length := by omega
    have hdd : List.drop (pre.length * 11) (encN net) = cM m ++ encN suf := by rw [he]; exact encN_drop pre (m :: suf)
    have hll := encN_len net
    have hcl := cntM_le (selB n k b c) pre
    have := fun H' h => ih (pre ++ [m]) H' (by rw [he]; simp) h
    simp only [List.length_append, List.length_cons, List.length_nil, Nat.zero_add, Int.natCast_add, Int.natCast_one, cntM_app, cntM] at this
    have no : selB n k b c m = false → ∀ H' : Heap, H'[0]? = some (some ⟨69, ss, true⟩) → RunK Cx (.code (.loop m48_l0) :: KK) ⟨[(1, i64 n), (2, i8 k), (3, i64 b), (4, i8 c), (5, .ptr 0 0), (11, i64 (cntM (selB n k b c) pre)), (12, i64 ((pre.length : Int) + 1))], H'⟩ Q := fun e H' h' => by
      have := this H' h'
      rw [e] at this
      simpa only [Bool.false_eq_true, if_false, Nat.add_zero, Int.natCast_add, Int.natCast_zero, Int.add_zero] using this
    have yes : selB n k b c m = true → ∀ H' : Heap, H'[0]? = some (some ⟨69, ss, true⟩) → RunK Cx (.code (.loop m48_l0) :: KK) ⟨[(1, i64 n), (2, i8 k), (3, i64 b), (4, i8 c), (5, .ptr 0 0), (11, i64 ((cntM (selB n k b c) pre : Int) + 1)), (12, i64 ((pre.length : Int) + 1))], H'⟩ Q := fun e H' h' => by
      have := this H' h'
      rw [e] at this
      simpa only [if_true, Nat.zero_add, Int.natCast_add, Int.natCast_one] using this
    clear this ih
    generalize cntM (selB n k b c) pre = ct at *
    rw [runK_loop]
    by_cases q1 : m.line = n
    case neg =>
      have e : selB n k b c m = false := by simp [selB, q1]
      simp (disch := omega) only [go_sem, h0, l0, hss, hnet, hdd, hlt, hll, List.length_append, Nat.le_refl, simprocAttr]
      rw [loop_norm (l := [1, 2, 3, 4, 5, 11, 12]) rfl]
      simp (disch := omega) only [go_sem, simprocAttr]
      exact no e _ (l0 _)
    by_cases q2 : m.kind = k
    case neg =>
      have e : selB n k b c m = false := by simp [selB, q2]
      simp (disch := omega) only [go_sem, h0, l0, hss, hnet, hdd, hlt, hll, List.length_append, Nat.le_refl, simprocAttr]
      rw [loop_norm (l := [1, 2, 3, 4, 5, 11, 12]) rfl]
      simp (disch := omega) only [go_sem, simprocAttr]
      exact no e _ (l0 _)
    rcases hb with rfl | rfl | rfl | rfl
    · have e : selB n k 0 c m = true := by simp [selB, q1, q2]
      simp (disch := omega) only [go_sem, h0, l0, hss, hnet, hdd, hlt, hll, List.length_append, Nat.le_refl, simprocAttr]
      rw [loop_norm (l := [1, 2, 3, 4, 5, 11, 12]) rfl]
      simp (disch := omega) only [go_sem, simprocAttr]
      exact yes e _ (l0 _)
    · by_cases q3 : m.src = c
      · have e : selB n k 1 c m = true := by simp [selB, q1, q2, q3]
        simp (disch := omega) only [go_sem, h0, l0, hss, hnet, hdd, hlt, hll, List.length_append, Nat.le_refl, simprocAttr]
        rw [loop_norm (l := [1, 2, 3, 4, 5, 11, 12]) rfl]
        simp (disch := omega) only [go_sem, simprocAttr]
        exact yes e _ (l0 _)
      · have e : selB n k 1 c m = false := by simp [selB, q3]
        simp (disch := omega) only [go_sem, h0, l0, hss, hnet, hdd, hlt, hll, List.length_append, Nat.le_refl, simprocAttr]
        rw [loop_norm (l := [1, 2, 3, 4, 5, 11, 12]) rfl]
        simp (disch := omega) only [go_sem, simprocAttr]
        exact no e _ (l0 _)
    · by_cases q3 : m.dst = c
      · have e : selB n k 2 c m = true := by simp [selB, q1, q2, q3]
        simp (disch := omega) only [go_sem, h0, l0, hss, hnet, hdd, hlt, hll, List.length_append, Nat.le_refl, simprocAttr]
        rw [loop_norm (l := [1, 2, 3, 4, 5, 11, 12]) rfl]
        simp (disch := omega) only [go_sem, simprocAttr]
        exact yes e _ (l0 _)
      · have e : selB n k 2 c m = false := by simp [selB, q3]
        simp (disch := omega) only [go_sem, h0, l0, hss, hnet, hdd, hlt, hll, List.length_append, Nat.le_refl, simprocAttr]
        rw [loop_norm (l := [1, 2, 3, 4, 5, 11, 12]) rfl]
        simp (disch := omega) only [go_sem, simprocAttr]
        exact no e _ (l0 _)
    · by_cases q3 : m.asker = c
      · have e : selB n k 3 c m = true := by simp [selB, q1, q2, q3]
        simp (disch := omega) only [go_sem, h0, l0, hss, hnet, hdd, hlt, hll, List.length_append, Nat.le_refl, simprocAttr]
        rw [loop_norm (l := [1, 2, 3, 4, 5, 11, 12]) rfl]
        simp (disch := omega) only [go_sem, simprocAttr]
        exact yes e _ (l0 _)
      · have e : selB n k 3 c m = false := by simp [selB, q3]
        simp (disch := omega) only [go_sem, h0, l0, hss, hnet, hdd, hlt, hll, List.length_append, Nat.le_refl, simprocAttr]
        rw [loop_norm (l := [1, 2, 3, 4, 5, 11, 12]) rfl]
        simp (disch := omega) only [go_sem, simprocAttr]
        exact no e _ (l0 _)
set_option maxHeartbeats 8000000 in
theorem count_ev {ss : List A} {net : List Mg} (hS : SysR ss net) (hok : ∀ m ∈ net, m.Ok) (hn : net.length ≤ 4611686018427387904) {n : Nat} {k b c : Int} (hb : b = 0 ∨ b = 1 ∨ b = 2 ∨ b = 3) :
    EvQ Cx 48 [.agg ss, i64 n, i8 k, i64 b, i8 c] (i64 (cntM (selB n k b c) net)) := by
  have h1 := hS.one
  have hss := hS.len
  refine evQ_of CxB48 rfl (by simp [fn48]) ?_
  simp (disch := omega) only [go_sem, hss, h1, simprocAttr]
  rw [loop_norm (l := [1, 2, 3, 4, 5, 11, 12]) rfl]
  simp (disch := omega) only [go_sem, simprocAttr]
  refine count_loop hS hok hn hb (fun H e => ?_) net [] _ rfl rfl
  simp (disch := omega) only [go_sem, simprocAttr]
theorem kind_evS {ss : List A} {net : List Mg} (hS : SysR ss net) (hok : ∀ m ∈ net, m.Ok) (hn : net.length ≤ 4611686018427387904) {n : Nat} {k : Int} : EvQ Cx 49 [.agg ss, i64 n, i8 k] (i64 (cntM (selB n k 0 0) net)) := by
  have hc := count_ev hS hok hn (n := n) (k := k) (b := 0) (c := 0) (.inl rfl)
  have hfz := hS.fz
  have hsh := hS.shut
  have hss := hS.len
  have h1 := hS.one
  have hta : List.take 69 ss = ss := List.take_of_length_le (by omega)
  refine evQ_of CxB49 rfl (by simp [fn49]) ?_
  simp (disch := omega) only [go_sem, hfz, hsh, hss, h1, hta, simprocAttr, passK_shut CxP48, QK.use hc]
end Go.Proofs.YtnhknhniemfnjaaGreatDoor.Ev
namespace Go.Proofs.YtnhknhniemfnjaaGreatDoor.Ev
open Go Go.RowKit
set_option maxRecDepth 100000
structure WorldR (ws : List A) (c h o s y : Int) : Prop where
  len : ws.length = 585
  one : ones ws = true
  shut : shut.shutL ws = true
  fz : ∀ (H : Heap) (n : Nat), mapO (freeze H (n + 1)) ws = some ws
  geo : ∃ tl, List.drop 10 ws = i64 c :: i64 h :: i64 o :: i64 s :: i64 y :: tl
structure SysC (ss : List A) (J : List (List A)) (W : Nat → Nat → Nat → Ln) : Prop where
  caches : ∃ tl, List.drop 1 ss = .sl J.length J.flatten :: tl
  each : ∀ i cs, J[i]? = some cs → CacheR cs (W i)
theorem flat_len : ∀ {J : List (List A)}, (∀ cs ∈ J, cs.length = 160) → J.flatten.length = J.length * 160
  | [], _ => rfl
  | k :: J, h => by
    rw [List.flatten_cons, List.length_append, flat_len fun cs hc => h cs (.tail _ hc), h k (.head _), List.length_cons]
    omega
theorem flat_drop : ∀ {J : List (List A)} {i : Nat} {cs : List A}, (∀ cs ∈ J, cs.length = 160) → J[i]? = some cs → ∃ tl, List.drop (i * 160) J.flatten = cs ++ tl
  | [], i, cs, _, h => by simp at h
  | k :: J, 0, cs, hl, h => by
    simp only [List.getElem?_cons_zero, Option.some.injEq] at h
    subst h
    exact ⟨J.flatten, by simp⟩
  | k :: J, i + 1, cs, hl, h => by
    obtain ⟨tl, e⟩ := flat_drop (J := J) (fun cs hc => hl cs (.tail _ hc)) (by simpa using h)
    refine ⟨tl, ?_⟩
    rw [List.flatten_cons, show (i + 1) * 160 = k.length + i * 160 by rw [hl k (.head _)]; omega, ← List.drop_drop, List.drop_left, e]
theorem SysC.all {ss : List A} {J : List (List A)} {W : Nat → Nat → Nat → Ln} (h : SysC ss J W) : ∀ cs ∈ J, cs.length = 160 := fun cs hc => by
  obtain ⟨i, hi⟩ := List.mem_iff_getElem?.1 hc
  exact (h.each i cs hi).len
def atL (W : Nat → Nat → Ln) (s y : Int) (l : Nat) : Ln := match findR (W ((l : Int) % s).toNat) l 0 y.toNat with
  | some w => W ((l : Int) % s).toNat w
  | none => noLn
set_option maxHeartbeats 8000000 in
theorem at_ev {ws ss : List A} {c h o s y : Int} {net : List Mg} {J : List (List A)} {W : Nat → Nat → Nat → Ln} (hW : WorldR ws c h o s y) (hS : SysR ss net) (hC : SysC ss J W) (hk : OkG c h o s y) {i l : Nat} (hi : i < J.length) (hK : J.length ≤ 4611686018427387904) (hl : l < 256) :
    EvQ Cx 42 [.agg ws, .agg ss, i64 i, i64 l] (encLn (atL (W i) s y l)) := by
  obtain ⟨cs, hcs⟩ : ∃ cs, J[i]? = some cs := ⟨_, List.getElem?_eq_getElem hi⟩
  have hCi := hC.each i cs hcs
  obtain ⟨tl, hd⟩ := flat_drop hC.all hcs
  have hfl := flat_len hC.all
  have hG := rget_ev hCi hk (l := l) (by omega) (by omega)
  obtain ⟨tw, hw⟩ := hW.geo
  obtain ⟨ts, hs⟩ := hC.caches
  have w1 := hW.len
  have w2 := hW.one
  have s3 := hS.len
  have s4 := hS.one
  have hlc := hCi.len
  have hsh := hCi.shut
  have hfz := hCi.fz
  have hi8 : i * 160 + 160 ≤ J.length * 160 := by omega
  have htc : List.take 160 (cs ++ tl) = cs := by rw [← hlc, List.take_left]
  have hlt : 160 ≤ (cs ++ tl).length := by rw [List.length_append]; omega
  obtain ⟨c1, c2, h1, h2, o1, o2, s1, s2, y1, y2⟩ := id hk
  refine evQ_of CxB42 rfl (by simp [fn42]) ?_
  unfold atL
  cases hr : findR (W i ((l : Int) % s).toNat) l 0 y.toNat with
  | none =>
    rw [hr] at hG
    simp (disch := omega) only [go_sem, noLn, hw, hs, hd, hi, w1, w2, s3, s4, htc, hlt, hsh, hfz, Nat.zero_add, simprocAttr, passK_shut CxP84, QK.use hG]
  | some w =>
    rw [hr] at hG
    simp (disch := omega) only [go_sem, hw, hs, hd, hi, w1, w2, s3, s4, htc, hlt, hsh, hfz, Nat.zero_add, simprocAttr, passK_shut CxP84, QK.use hG]
end Go.Proofs.YtnhknhniemfnjaaGreatDoor.Ev
namespace Go.Proofs.YtnhknhniemfnjaaGreatDoor.Ev
open Go Go.RowKit
set_option maxRecDepth 100000
def allN (p : Nat → Bool) : Nat → Nat → Bool
  | _, 0 => true
  | i, d + 1 => p i && allN p (i + 1) d
def badS (x y : Int) : Bool := decide (x = 2 ∨ x = 4) && cpyB y || ownB x && ownB y
def swB (L : Nat → Ln) (a b : Nat) : Bool := decide (a = b) || !badS (L a).state (L b).state
structure InR (ws ss : List A) (c h o s y : Int) (net : List Mg) (J : List (List A)) (W : Nat → Nat → Nat → Ln) : Prop where
  world : WorldR ws c h o s y
  sys : SysR ss net
  caches : SysC ss J W
  ok : OkG c h o s y
  many : c = J.length
theorem InR.at {ws ss : List A} {c h o s y : Int} {net : List Mg} {J : List (List A)} {W : Nat → Nat → Nat → Ln} (I : InR ws ss c h o s y net J W) {i l : Nat} (hi : i < J.length) (hl : l < 256) : EvQ Cx 42 [.agg ws, .agg ss, i64 i, i64 l] (encLn (atL (W i) s y l)) :=
  at_ev I.world I.sys I.caches I.ok hi (by have := I.many; have := I.ok; unfold OkG at this; omega) hl
set_option maxHeartbeats 16000000 in
theorem swmr_in {ws ss : List A} {c h o s y : Int} {net : List Mg} {J : List (List A)} {W : Nat → Nat → Nat → Ln} (I : InR ws ss c h o s y net J W) {l : Nat} (hl : l < 256) {a : Nat} (ha : a < J.length) {KK : List It} {Q : Ex → St → Prop} :
    ∀ (d b : Nat), b + d = J.length → (allN (swB (fun i => atL (W i) s y l) a) b d = false → UnwK Cx .back KK ⟨[(6, bo false)], [some ⟨44, ws, true⟩, some ⟨69, ss, true⟩]⟩ Q) →
      (allN (swB (fun i => atL (W i) s y l) a) b d = true → UnwK Cx (.out 2) KK ⟨[(22, bo false), (21, i64 c), (20, .ptr 0 10), (19, .ptr 0 10), (18, i64 c), (2, i64 l), (3, .ptr 0 0), (4, .ptr 1 0), (7, i64 a), (8, i64 c)], [some ⟨44, ws, true⟩, some ⟨69, ss, true⟩]⟩ Q) →
      RunK Cx (.code (.loop m24_l1) :: KK) ⟨[(2, i64 l), (3, .ptr 0 0), (4, .ptr 1 0), (7, i64 a), (8, i64 b)], [some ⟨44, ws, true⟩, some ⟨69, ss, true⟩]⟩ Q := by
  obtain ⟨tw, hw⟩ := I.world.geo
  have w1 := I.world.len
  have s3 := I.sys.len
  have hmany := I.many
  have hk := I.ok
  obtain ⟨c1, c2, h1, h2, o1, o2, s1, s2, y1, y2⟩ := id hk
  have hwt : List.take 585 ws = ws := List.take_of_length_le (by omega)
  have hst : List.take 69 ss = ss := List.take_of_length_le (by omega)
  have hwf := I.world.fz
  have hsf := I.sys.fz
  intro d
  induction d with
  | zero =>
    intro b hb _ hT
    have hbe : b = J.length := by omega
    subst hbe
    have := hT rfl
    rw [hmany] at this
    rw [runK_loop]
    simp (disch := omega) only [go_sem, hw, w1, hmany, Int.lt_irrefl, simprocAttr]
    exact this
  | succ d ih =>
    intro b hb hF hT
    have hbc : (b : Int) < c := by omega
    have hA := I.at ha hl
    have hB := I.at (i := b) (by omega) hl
    rw [runK_loop]
    by_cases hab : a = b
    · have e : swB (fun i => atL (W i) s y l) a b = true := by simp [swB, hab]
      simp only [allN, e, Bool.true_and] at hF hT
      have := ih (b + 1) (by omega) hF hT
      have hne : ((a : Int) != b) = false := bne_no (by omega)
      subst hab
      have hcy := rcpy_ev 0
      have hox := rown_ev 0
      have hoy := rown_ev 0
      simp (disch := omega) only [go_sem, hw, w1, s3, hwt, hst, hwf, hsf, hbc, hne, simprocAttr, passK_shut CxP42, QK.use hA, QK.use hB, passK_shut CxP43, QK.use hcy, passK_shut CxP44, QK.use hox, QK.use hoy]
      rw [loop_norm (l := [2, 3, 4, 7, 8]) rfl]
      simp (disch := omega) only [go_sem, simprocAttr]
      simpa only [i64, Int.natCast_add, Int.natCast_one] using this
    · have hne : ((a : Int) != b) = true := bne_yes (by omega)
      have e : swB (fun i => atL (W i) s y l) a b = !badS (atL (W a) s y l).state (atL (W b) s y l).state := by simp [swB, hab]
      simp only [allN, e] at hF hT
      generalize atL (W a) s y l = X at *
      generalize atL (W b) s y l = Y at *
      have hcy := rcpy_ev Y.state
      have hox := rown_ev X.state
      have hoy := rown_ev Y.state
      cases vcy : cpyB Y.state <;> cases vox : ownB X.state <;> cases voy : ownB Y.state <;> rw [vcy] at hcy <;> rw [vox] at hox <;> rw [voy] at hoy
      all_goals
        by_cases x2 : X.state = 2
        · have z1 : (X.state == 2) = true := beq_yes x2
          have hbd : badS X.state Y.state = (cpyB Y.state || ownB X.state && ownB Y.state) := by simp [badS, x2]
          simp only [vcy, vox, voy] at hbd
          simp (disch := omega) only [go_sem, hw, w1, s3, hwt, hst, hwf, hsf, hbc, hne, simprocAttr, passK_shut CxP42, QK.use hA, QK.use hB, passK_shut CxP43, QK.use hcy, passK_shut CxP44, QK.use hox, QK.use hoy]
          first
            | exact hF (by rw [hbd]; rfl)
            | (rw [loop_norm (l := [2, 3, 4, 7, 8]) rfl]
               simp (disch := omega) only [go_sem, simprocAttr]
               simpa only [i64, Int.natCast_add, Int.natCast_one] using ih (b + 1) (by omega) (fun h => hF (by rw [hbd, h]; rfl)) fun h => hT (by rw [hbd, h]; rfl))
        have z1 : (X.state == 2) = false := beq_no x2
        by_cases x4 : X.state = 4
        · have z2 : (X.state == 4) = true := beq_yes x4
          have hbd : badS X.state Y.state = (cpyB Y.state || ownB X.state && ownB Y.state) := by simp [badS, x4]
          simp only [vcy, vox, voy] at hbd
          simp (disch := omega) only [go_sem, hw, w1, s3, hwt, hst, hwf, hsf, hbc, hne, simprocAttr, passK_shut CxP42, QK.use hA, QK.use hB, passK_shut CxP43, QK.use hcy, passK_shut CxP44, QK.use hox, QK.use hoy]
          first
            | exact hF (by rw [hbd]; rfl)
            | (rw [loop_norm (l := [2, 3, 4, 7, 8]) rfl]
               simp (disch := omega) only [go_sem, simprocAttr]
               simpa only [i64, Int.natCast_add, Int.natCast_one] using ih (b + 1) (by omega) (fun h => hF (by rw [hbd, h]; rfl)) fun h => hT (by rw [hbd, h]; rfl))
        · have z2 : (X.state == 4) = false := beq_no x4
          have hbd : badS X.state Y.state = (ownB X.state && ownB Y.state) := by simp [badS, x2, x4]
          simp only [vcy, vox, voy] at hbd
          simp (disch := omega) only [go_sem, hw, w1, s3, hwt, hst, hwf, hsf, hbc, hne, simprocAttr, passK_shut CxP42, QK.use hA, QK.use hB, passK_shut CxP43, QK.use hcy, passK_shut CxP44, QK.use hox, QK.use hoy]
          first
            | exact hF (by rw [hbd]; rfl)
            | (rw [loop_norm (l := [2, 3, 4, 7, 8]) rfl]
               simp (disch := omega) only [go_sem, simprocAttr]
               simpa only [i64, Int.natCast_add, Int.natCast_one] using ih (b + 1) (by omega) (fun h => hF (by rw [hbd, h]; rfl)) fun h => hT (by rw [hbd, h]; rfl))
def swmrL (L : Nat → Ln) (n : Nat) : Bool := allN (fun a => allN (swB L a) 0 n) 0 n
set_option maxHeartbeats 16000000 in
theorem swmr_out {ws ss : List A} {c h o s y : Int} {net : List Mg} {J : List (List A)} {W : Nat → Nat → Nat → Ln} (I : InR ws ss c h o s y net J W) {l : Nat} (hl : l < 256) {KK : List It} {Q : Ex → St → Prop} :
    ∀ (d a : Nat), a + d = J.length → (allN (fun a => allN (swB (fun i => atL (W i) s y l) a) 0 J.length) a d = false → UnwK Cx .back KK ⟨[(6, bo false)], [some ⟨44, ws, true⟩, some ⟨69, ss, true⟩]⟩ Q) →
      (allN (fun a => allN (swB (fun i => atL (W i) s y l) a) 0 J.length) a d = true → UnwK Cx (.out 0) KK ⟨[(15, bo false), (14, i64 c), (13, .ptr 0 10), (12, .ptr 0 10), (11, i64 c), (2, i64 l), (3, .ptr 0 0), (4, .ptr 1 0), (7, i64 c)], [some ⟨44, ws, true⟩, some ⟨69, ss, true⟩]⟩ Q) →
      RunK Cx (.code (.loop m24_l0) :: KK) ⟨[(2, i64 l), (3, .ptr 0 0), (4, .ptr 1 0), (7, i64 a)], [some ⟨44, ws, true⟩, some ⟨69, ss, true⟩]⟩ Q := by
  obtain ⟨tw, hw⟩ := I.world.geo
  have w1 := I.world.len
  have hmany := I.many
  have hk := I.ok
  obtain ⟨c1, c2, h1, h2, o1, o2, s1, s2, y1, y2⟩ := id hk
  intro d
  induction d with
  | zero =>
    intro a ha _ hT
    have hbe : a = J.length := by omega
    subst hbe
    have := hT rfl
    rw [hmany] at this
    rw [runK_loop]
    simp (disch := omega) only [go_sem, hw, w1, hmany, Int.lt_irrefl, simprocAttr]
    exact this
  | succ d ih =>
    intro a ha hF hT
    have hbc : (a : Int) < c := by omega
    rw [runK_loop]
    simp (disch := omega) only [go_sem, hw, w1, hbc, simprocAttr]
    rw [loop_norm (l := [2, 3, 4, 7, 8]) rfl]
    simp (disch := omega) only [go_sem, simprocAttr]
    refine swmr_in I hl (a := a) (by omega) J.length 0 (by omega) (fun h => ?_) fun h => ?_
    · simp (disch := omega) only [go_sem, simprocAttr]
      exact hF (by simp [allN, h])
    · simp (disch := omega) only [go_sem, simprocAttr]
      rw [loop_norm (l := [2, 3, 4, 7]) rfl]
      simp (disch := omega) only [go_sem, simprocAttr]
      simpa only [i64, Int.natCast_add, Int.natCast_one] using ih (a + 1) (by omega) (fun h' => hF (by rw [allN, h, h']; rfl)) fun h' => hT (by rw [allN, h, h']; rfl)
set_option maxHeartbeats 8000000 in
theorem rswmr_ev {ws ss : List A} {c h o s y : Int} {net : List Mg} {J : List (List A)} {W : Nat → Nat → Nat → Ln} (I : InR ws ss c h o s y net J W) {l : Nat} (hl : l < 256) : EvQ Cx 24 [.agg ws, .agg ss, i64 l] (bo (swmrL (fun i => atL (W i) s y l) J.length)) := by
  have w1 := I.world.len
  have s1 := I.sys.len
  have w2 := I.world.one
  have s2 := I.sys.one
  refine evQ_of CxB24 rfl (by simp [fn24]) ?_
  simp (disch := omega) only [go_sem, w1, w2, s1, s2, simprocAttr]
  rw [loop_norm (l := [2, 3, 4, 7]) rfl]
  simp (disch := omega) only [go_sem, simprocAttr]
  refine swmr_out I hl J.length 0 (by omega) (fun h => ?_) fun h => ?_
  · have e : swmrL (fun i => atL (W i) s y l) J.length = false := h
    rw [e]
    simp (disch := omega) only [go_sem, simprocAttr]
  · have e : swmrL (fun i => atL (W i) s y l) J.length = true := h
    rw [e]
    simp (disch := omega) only [go_sem, simprocAttr]
end Go.Proofs.YtnhknhniemfnjaaGreatDoor.Ev
