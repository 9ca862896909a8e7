/- Closed calls, step by step: the first state; states that fit. Printed by genM.py. -/
import Derived.Test.YtijpomemobgddaaGreatDoorM2
set_option linter.unusedSimpArgs false
set_option linter.unusedVariables false
namespace Go.Proofs.YtijpomemobgddaaGreatDoor.Ev
open Go Go.RowKit
set_option maxRecDepth 1000000
def gv1 : GotA (.agg ([(.sl 2 (rp 2 (rp 9 [i8 0] ++ [(.v (.slice none 0 0)), bo false, bo false]))), (.sl 2 (rp 16 [i8 0, i8 0, (.v (.int .i8 0)), bo false, i8 0, i8 0, i8 0, i8 0] ++ [i8 1, i64 1] ++ rp 3 [i8 0, i8 0, i8 0, i8 0, i8 0, i8 0, i64 0] ++ rp 11 [i8 0] ++ rp 15 [(.v (.int .i8 0)), bo false, i8 0, i8 0, i8 0, i8 0, i8 0, i8 0] ++ [(.v (.int .i8 0)), bo false, i8 0, i8 0, i8 0, i8 0, i8 1, i64 1] ++ rp 3 [i8 0, i8 0, i8 0, i8 0, i8 0, i8 0, i64 0] ++ rp 9 [i8 0]))] ++ rp 6 [i8 0, i8 255, i8 1, (.v (.int .u64 0)), bo false, i8 0, i8 0, i8 0, i8 0, i8 0, i8 0] ++ [(.v (.slice none 0 0))])) := by
  refine ⟨?m, ?h⟩
  case h => conv => lhs; cbv
def v1 : A := gv1.m
def a50_0 : List A := [v0]
def r50_0 : A := (.tup [v1, i64 0])
theorem q50_0 : EvQ (CX X2) 50 a50_0 r50_0 := evQ_fast 100000 (by kernel_rfl)
def mt50 : List (List A × A) := [(a50_0, r50_0)]
theorem mt50_ok : ∀ p ∈ mt50, EvQ (CX X2) 50 p.1 p.2 := by
  unfold mt50
  simp only [List.forall_mem_cons, List.not_mem_nil, false_implies, implies_true, and_true]
  exact q50_0
def a51_0 : List A := [v0, v1]
def r51_0 : A := (bo true)
theorem q51_0 : EvQ (CX X2) 51 a51_0 r51_0 := evQ_fast 100000 (by kernel_rfl)
def gv2 : GotA (.sl 2 (rp 9 [i8 0] ++ [(.v (.slice none 0 0)), bo true, bo false] ++ rp 9 [i8 0] ++ [(.v (.slice none 0 0)), bo false, bo false])) := by
  refine ⟨?m, ?h⟩
  case h => conv => lhs; cbv
def v2 : A := gv2.m
def gv3 : GotA (.agg ([v2, (.sl 2 (rp 16 [i8 0, i8 0, (.v (.int .i8 0)), bo false, i8 0, i8 0, i8 0, i8 0] ++ [i8 1, i64 1] ++ rp 3 [i8 0, i8 0, i8 0, i8 0, i8 0, i8 0, i64 0] ++ [i8 0, i8 0, i8 0, i8 0, i8 0, i8 2, i8 0, i8 1] ++ rp 16 [i8 0, i8 0, i8 0, (.v (.int .i8 0)), bo false, i8 0, i8 0, i8 0] ++ [i8 0, i8 1, i64 1] ++ rp 3 [i8 0, i8 0, i8 0, i8 0, i8 0, i8 0, i64 0] ++ rp 9 [i8 0]))] ++ rp 6 [i8 0, i8 255, i8 1, (.v (.int .u64 0)), bo false, i8 0, i8 0, i8 0, i8 0, i8 0, i8 0] ++ [(.v (.slice none 0 0))])) := by
  refine ⟨?m, ?h⟩
  case h => conv => lhs; cbv
def v3 : A := gv3.m
def a51_1 : List A := [v0, v3]
def r51_1 : A := (bo true)
theorem q51_1 : EvQ (CX X2) 51 a51_1 r51_1 := evQ_fast 100000 (by kernel_rfl)
def gv4 : GotA (.sl 2 ([i8 0, i8 6] ++ rp 15 [(.v (.int .i8 0)), bo false, i8 0, i8 0, i8 0, i8 0, i8 0, i8 0] ++ [(.v (.int .i8 0)), bo false, i8 0, i8 0, i8 0, i8 0, i8 1, i64 1] ++ rp 3 [i8 0, i8 0, i8 0, i8 0, i8 0, i8 0, i64 0] ++ [i8 0, i8 0, i8 0, i8 0, i8 0, i8 2, i8 0, i8 1] ++ rp 16 [i8 0, i8 0, i8 0, (.v (.int .i8 0)), bo false, i8 0, i8 0, i8 0] ++ [i8 0, i8 1, i64 1] ++ rp 3 [i8 0, i8 0, i8 0, i8 0, i8 0, i8 0, i64 0] ++ rp 9 [i8 0])) := by
  refine ⟨?m, ?h⟩
  case h => conv => lhs; cbv
def v4 : A := gv4.m
def gv5 : GotA (.agg ([v2, v4] ++ rp 6 [i8 0, i8 255, i8 1, (.v (.int .u64 0)), bo false, i8 0, i8 0, i8 0, i8 0, i8 0, i8 0] ++ [(.sl 1 [i8 2, i8 0, i8 2, i8 0, i8 0, i8 0, bo false, i8 0, i8 0, i8 0, i8 0])])) := by
  refine ⟨?m, ?h⟩
  case h => conv => lhs; cbv
def v5 : A := gv5.m
def a51_2 : List A := [v0, v5]
def r51_2 : A := (bo true)
theorem q51_2 : EvQ (CX X2) 51 a51_2 r51_2 := evQ_fast 100000 (by kernel_rfl)
def mt51 : List (List A × A) := [(a51_0, r51_0), (a51_1, r51_1), (a51_2, r51_2)]
theorem mt51_ok : ∀ p ∈ mt51, EvQ (CX X2) 51 p.1 p.2 := by
  unfold mt51
  simp only [List.forall_mem_cons, List.not_mem_nil, false_implies, implies_true, and_true]
  exact ⟨q51_0, q51_1, q51_2⟩
def X3 : FuncId → List A → Option A := orX 50 mt50 (orX 51 mt51 X2)
theorem X3_ok : QOk Cx.T Tryz.prog X3 := orX_ok X2_ok mt50_ok (orX_ok X2_ok mt51_ok X2_ok)
end Go.Proofs.YtijpomemobgddaaGreatDoor.Ev
