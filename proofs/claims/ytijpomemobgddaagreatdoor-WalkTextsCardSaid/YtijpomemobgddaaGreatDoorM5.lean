/- Closed calls, step by step: what is done; the example. Printed by genM.py. -/
import Derived.Test.YtijpomemobgddaaGreatDoorM4
set_option linter.unusedSimpArgs false
set_option linter.unusedVariables false
namespace Go.Proofs.YtijpomemobgddaaGreatDoor.Ev
open Go Go.RowKit
set_option maxRecDepth 1000000
def a55_0 : List A := [v0, v1, (.agg ([i8 1] ++ rp 8 [i8 0] ++ [bo false, i8 0, i8 0, i8 0, i8 0]))]
def r55_0 : A := (.tup [v3, (.v (.slice none 0 0)), i64 0])
theorem q55_0 : EvQ (CX X3) 55 a55_0 r55_0 := evQ_fast 100000 (by kernel_rfl)
def gv6 : GotA (.agg ([i8 3] ++ rp 8 [i8 0] ++ [bo false, i8 0, i8 0, i8 0, i8 0])) := by
  refine ⟨?m, ?h⟩
  case h => conv => lhs; cbv
def v6 : A := gv6.m
def a55_1 : List A := [v0, v3, v6]
def r55_1 : A := (.tup [v5, (.v (.slice none 0 0)), i64 0])
theorem q55_1 : EvQ (CX X3) 55 a55_1 r55_1 := evQ_fast 100000 (by kernel_rfl)
def gv7 : GotA (.agg [i8 5, i8 0, i8 0, i8 2, i8 0, i8 2, i8 0, i8 0, i8 0, bo false, i8 0, i8 0, i8 0, i8 0]) := by
  refine ⟨?m, ?h⟩
  case h => conv => lhs; cbv
def v7 : A := gv7.m
def a55_2 : List A := [v0, v5, v7]
def r55_2 : A := (.tup [(.agg ([v2, v4, i8 2, i8 0, i8 1, (.v (.int .u64 0)), bo false, i8 1] ++ rp 5 [i8 0, i8 0, i8 0, i8 0, i8 0, i8 0, i8 255, i8 1, (.v (.int .u64 0)), bo false, i8 0] ++ [i8 0, i8 0, i8 0, i8 0, i8 0, (.sl 1 [i8 10, i8 2, i8 0, i8 0, i8 0, i8 0, bo false, i8 0, i8 0, i8 0, i8 0])])), (.v (.slice none 0 0)), i64 0])
theorem q55_2 : EvQ (CX X3) 55 a55_2 r55_2 := evQ_fast 100000 (by kernel_rfl)
def gv8 : GotA (.agg ([(.v (.slice none 0 0)), (.v (.slice none 0 0))] ++ rp 6 [i8 0, i8 0, i8 0, (.v (.int .u64 0)), bo false, i8 0, i8 0, i8 0, i8 0, i8 0, i8 0] ++ [(.v (.slice none 0 0))])) := by
  refine ⟨?m, ?h⟩
  case h => conv => lhs; cbv
def v8 : A := gv8.m
def a55_3 : List A := [v0, v3, v7]
def r55_3 : A := (.tup [v8, (.v (.slice none 0 0)), i64 6])
theorem q55_3 : EvQ (CX X3) 55 a55_3 r55_3 := evQ_fast 100000 (by kernel_rfl)
def a55_4 : List A := [v0, v1, v6]
def r55_4 : A := (.tup [v8, (.v (.slice none 0 0)), i64 272])
theorem q55_4 : EvQ (CX X3) 55 a55_4 r55_4 := evQ_fast 100000 (by kernel_rfl)
def mt55 : List (List A × A) := [(a55_0, r55_0), (a55_1, r55_1), (a55_2, r55_2), (a55_3, r55_3), (a55_4, r55_4)]
theorem mt55_ok : ∀ p ∈ mt55, EvQ (CX X3) 55 p.1 p.2 := by
  unfold mt55
  simp only [List.forall_mem_cons, List.not_mem_nil, false_implies, implies_true, and_true]
  exact ⟨q55_0, q55_1, q55_2, q55_3, q55_4⟩
def X5 : FuncId → List A → Option A := orX 55 mt55 X4
theorem X5_ok : QOk Cx.T Tryz.prog X5 := orX_ok X3_ok mt55_ok X4_ok
theorem awake_ev : EvQ (CX X5) 5 [] (bo true) := evQ_fast 100000 (by kernel_rfl)
end Go.Proofs.YtijpomemobgddaaGreatDoor.Ev
