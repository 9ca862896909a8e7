/- Closed calls, step by step: a valid world. Printed by genM.py. -/
import Derived.Test.YtijpomemobgddaaGreatDoorM1
set_option linter.unusedSimpArgs false
set_option linter.unusedVariables false
namespace Go.Proofs.YtijpomemobgddaaGreatDoor.Ev
open Go Go.RowKit
set_option maxRecDepth 1000000
def gv0 : GotA (.agg ([sA #[116], (.sl 1 [sA #[120]]), (.sl 1 [i8 0]), (.sl 1 [(.sl 1 [i8 2, i8 0, i8 0, bo false, i8 1, bo false, i8 0, i8 0, i8 0, i8 0])]), i8 1, i8 0, i8 0, i8 0, i8 0, (.v (.slice none 0 0)), i64 2, i64 1, i64 1, i64 1, i64 1, i8 1, i8 1, i8 1, i64 0, bo false, sA #[109, 115, 105], i8 1, i8 5, (.v (.int .u16 2)), i8 1, i8 6, (.v (.int .u16 4))] ++ rp 3 [i8 3, i8 0, (.v (.int .u16 0))] ++ [i8 1, i8 0, (.v (.int .u16 64))] ++ rp 8 [i8 3, i8 0, (.v (.int .u16 0))] ++ [i8 1, i8 1, (.v (.int .u16 256)), i8 1, i8 7, (.v (.int .u16 4)), i8 1, i8 0, (.v (.int .u16 512)), i8 3, i8 0, (.v (.int .u16 0)), i8 3, i8 0, (.v (.int .u16 0)), i8 1, i8 0, (.v (.int .u16 576))] ++ rp 36 [i8 3, i8 0, (.v (.int .u16 0))] ++ [i8 1, i8 4, (.v (.int .u16 256)), i8 1, i8 4, (.v (.int .u16 256)), i8 1, i8 10, (.v (.int .u16 8)), i8 1, i8 1, (.v (.int .u16 48)), i8 1, i8 0, (.v (.int .u16 528))] ++ rp 9 [i8 3, i8 0, (.v (.int .u16 0))] ++ rp 3 [i8 2, i8 0, (.v (.int .u16 0))] ++ [i8 3, i8 0, (.v (.int .u16 0)), i8 3, i8 0, (.v (.int .u16 0)), i8 1, i8 5, (.v (.int .u16 64)), i8 3, i8 0, (.v (.int .u16 0)), i8 1, i8 1, (.v (.int .u16 385))] ++ rp 6 [i8 3, i8 0, (.v (.int .u16 0))] ++ rp 3 [i8 2, i8 0, (.v (.int .u16 0))] ++ [i8 3, i8 0, (.v (.int .u16 0)), i8 3, i8 0, (.v (.int .u16 0)), i8 1, i8 6, (.v (.int .u16 64)), i8 3, i8 0, (.v (.int .u16 0)), i8 1, i8 4, (.v (.int .u16 385)), i8 3, i8 0, (.v (.int .u16 0)), i8 1, i8 9, (.v (.int .u16 1)), i8 3, i8 0, (.v (.int .u16 0)), i8 3, i8 0, (.v (.int .u16 0)), i8 1, i8 6, (.v (.int .u16 0)), i8 3] ++ rp 3 [i8 0, (.v (.int .u16 0)), i8 2] ++ [i8 0, (.v (.int .u16 0)), i8 3, i8 0, (.v (.int .u16 0)), i8 3, i8 0, (.v (.int .u16 0)), i8 1, i8 6, (.v (.int .u16 64)), i8 3, i8 0, (.v (.int .u16 0)), i8 1, i8 4, (.v (.int .u16 385)), i8 3, i8 0, (.v (.int .u16 0)), i8 1, i8 9, (.v (.int .u16 1)), i8 3, i8 0, (.v (.int .u16 0)), i8 3, i8 0, (.v (.int .u16 0)), i8 1, i8 7] ++ rp 15 [(.v (.int .u16 0)), i8 3, i8 0] ++ rp 3 [(.v (.int .u16 0)), i8 2, i8 0] ++ rp 9 [(.v (.int .u16 0)), i8 3, i8 0] ++ [(.v (.int .u16 0)), i8 1, i8 9, (.v (.int .u16 0)), i8 1, i8 4, (.v (.int .u16 384))] ++ rp 3 [i8 2, i8 0, (.v (.int .u16 0))] ++ [i8 1, i8 11, (.v (.int .u16 48)), i8 1, i8 11, (.v (.int .u16 16)), i8 1, i8 11, (.v (.int .u16 64)), i8 1, i8 0, (.v (.int .u16 512))] ++ rp 7 [i8 3, i8 0, (.v (.int .u16 0))] ++ rp 3 [i8 2, i8 0, (.v (.int .u16 0))] ++ [i8 3, i8 0, (.v (.int .u16 0)), i8 3, i8 0, (.v (.int .u16 0)), i8 1, i8 11, (.v (.int .u16 64)), i8 1, i8 0, (.v (.int .u16 512))] ++ rp 7 [i8 3, i8 0, (.v (.int .u16 0))] ++ [i8 1, i8 1, (.v (.int .u16 8706)), i8 1, i8 2, (.v (.int .u16 10242)), i8 3, i8 0, (.v (.int .u16 0)), i8 3, i8 0, (.v (.int .u16 0)), i8 1, i8 0, (.v (.int .u16 128)), i8 1, i8 1, (.v (.int .u16 8706)), i8 1, i8 2, (.v (.int .u16 10499)), i8 3, i8 0, (.v (.int .u16 0)), i8 3, i8 0, (.v (.int .u16 0)), i8 1, i8 1, (.v (.int .u16 128)), i8 1, i8 1, (.v (.int .u16 26120)), i8 1, i8 2, (.v (.int .u16 10256)), i8 3, i8 0, (.v (.int .u16 0)), i8 1, i8 0, (.v (.int .u16 4288)), i8 1, i8 2, (.v (.int .u16 128))] ++ rp 5 [i8 3, i8 0, (.v (.int .u16 0))])) := by
  refine ⟨?m, ?h⟩
  case h => conv => lhs; cbv
def v0 : A := gv0.m
def a75_0 : List A := [v0]
def r75_0 : A := (bo true)
theorem q75_0 : EvQ (CX X1) 75 a75_0 r75_0 := evQ_fast 100000 (by kernel_rfl)
def mt75 : List (List A × A) := [(a75_0, r75_0)]
theorem mt75_ok : ∀ p ∈ mt75, EvQ (CX X1) 75 p.1 p.2 := by
  unfold mt75
  simp only [List.forall_mem_cons, List.not_mem_nil, false_implies, implies_true, and_true]
  exact q75_0
def X2 : FuncId → List A → Option A := orX 75 mt75 X1
theorem X2_ok : QOk Cx.T Tryz.prog X2 := orX_ok X1_ok mt75_ok X1_ok
end Go.Proofs.YtijpomemobgddaaGreatDoor.Ev
