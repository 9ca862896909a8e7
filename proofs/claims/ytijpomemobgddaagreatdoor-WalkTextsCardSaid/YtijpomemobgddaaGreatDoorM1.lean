/- Closed calls, step by step: the geometry, the table. Printed by genM.py. -/
import Derived.Test.YtijpomemobgddaaGreatDoorM0
set_option linter.unusedSimpArgs false
set_option linter.unusedVariables false
namespace Go.Proofs.YtijpomemobgddaaGreatDoor.Ev
open Go Go.RowKit
set_option maxRecDepth 1000000
def a110_0 : List A := [(.agg [i64 2, i64 1, i64 1, i64 1, i64 1])]
def r110_0 : A := (bo true)
theorem q110_0 : EvQ (CX xLibs) 110 a110_0 r110_0 := evQ_fast 100000 (by kernel_rfl)
def mt110 : List (List A × A) := [(a110_0, r110_0)]
theorem mt110_ok : ∀ p ∈ mt110, EvQ (CX xLibs) 110 p.1 p.2 := by
  unfold mt110
  simp only [List.forall_mem_cons, List.not_mem_nil, false_implies, implies_true, and_true]
  exact q110_0
def a23_0 : List A := [(i8 1)]
def r23_0 : A := (.tup [(.agg ([sA #[109, 115, 105], i8 1, i8 5, (.v (.int .u16 2)), i8 1, i8 6, (.v (.int .u16 4))] ++ rp 3 [i8 3, i8 0, (.v (.int .u16 0))] ++ [i8 1, i8 0, (.v (.int .u16 64))] ++ rp 8 [i8 3, i8 0, (.v (.int .u16 0))] ++ [i8 1, i8 1, (.v (.int .u16 256)), i8 1, i8 7, (.v (.int .u16 4)), i8 1, i8 0, (.v (.int .u16 512)), i8 3, i8 0, (.v (.int .u16 0)), i8 3, i8 0, (.v (.int .u16 0)), i8 1, i8 0, (.v (.int .u16 576))] ++ rp 36 [i8 3, i8 0, (.v (.int .u16 0))] ++ [i8 1, i8 4, (.v (.int .u16 256)), i8 1, i8 4, (.v (.int .u16 256)), i8 1, i8 10, (.v (.int .u16 8)), i8 1, i8 1, (.v (.int .u16 48)), i8 1, i8 0, (.v (.int .u16 528))] ++ rp 9 [i8 3, i8 0, (.v (.int .u16 0))] ++ rp 3 [i8 2, i8 0, (.v (.int .u16 0))] ++ [i8 3, i8 0, (.v (.int .u16 0)), i8 3, i8 0, (.v (.int .u16 0)), i8 1, i8 5, (.v (.int .u16 64)), i8 3, i8 0, (.v (.int .u16 0)), i8 1, i8 1, (.v (.int .u16 385))] ++ rp 6 [i8 3, i8 0, (.v (.int .u16 0))] ++ rp 3 [i8 2, i8 0, (.v (.int .u16 0))] ++ [i8 3, i8 0, (.v (.int .u16 0)), i8 3, i8 0, (.v (.int .u16 0)), i8 1, i8 6, (.v (.int .u16 64)), i8 3, i8 0, (.v (.int .u16 0)), i8 1, i8 4, (.v (.int .u16 385)), i8 3, i8 0, (.v (.int .u16 0)), i8 1, i8 9, (.v (.int .u16 1)), i8 3, i8 0, (.v (.int .u16 0)), i8 3, i8 0, (.v (.int .u16 0)), i8 1, i8 6, (.v (.int .u16 0)), i8 3] ++ rp 3 [i8 0, (.v (.int .u16 0)), i8 2] ++ [i8 0, (.v (.int .u16 0)), i8 3, i8 0, (.v (.int .u16 0)), i8 3, i8 0, (.v (.int .u16 0)), i8 1, i8 6, (.v (.int .u16 64)), i8 3, i8 0, (.v (.int .u16 0)), i8 1, i8 4, (.v (.int .u16 385)), i8 3, i8 0, (.v (.int .u16 0)), i8 1, i8 9, (.v (.int .u16 1)), i8 3, i8 0, (.v (.int .u16 0)), i8 3, i8 0, (.v (.int .u16 0)), i8 1, i8 7] ++ rp 15 [(.v (.int .u16 0)), i8 3, i8 0] ++ rp 3 [(.v (.int .u16 0)), i8 2, i8 0] ++ rp 9 [(.v (.int .u16 0)), i8 3, i8 0] ++ [(.v (.int .u16 0)), i8 1, i8 9, (.v (.int .u16 0)), i8 1, i8 4, (.v (.int .u16 384))] ++ rp 3 [i8 2, i8 0, (.v (.int .u16 0))] ++ [i8 1, i8 11, (.v (.int .u16 48)), i8 1, i8 11, (.v (.int .u16 16)), i8 1, i8 11, (.v (.int .u16 64)), i8 1, i8 0, (.v (.int .u16 512))] ++ rp 7 [i8 3, i8 0, (.v (.int .u16 0))] ++ rp 3 [i8 2, i8 0, (.v (.int .u16 0))] ++ [i8 3, i8 0, (.v (.int .u16 0)), i8 3, i8 0, (.v (.int .u16 0)), i8 1, i8 11, (.v (.int .u16 64)), i8 1, i8 0, (.v (.int .u16 512))] ++ rp 7 [i8 3, i8 0, (.v (.int .u16 0))] ++ [i8 1, i8 1, (.v (.int .u16 8706)), i8 1, i8 2, (.v (.int .u16 10242)), i8 3, i8 0, (.v (.int .u16 0)), i8 3, i8 0, (.v (.int .u16 0)), i8 1, i8 0, (.v (.int .u16 128)), i8 1, i8 1, (.v (.int .u16 8706)), i8 1, i8 2, (.v (.int .u16 10499)), i8 3, i8 0, (.v (.int .u16 0)), i8 3, i8 0, (.v (.int .u16 0)), i8 1, i8 1, (.v (.int .u16 128)), i8 1, i8 1, (.v (.int .u16 26120)), i8 1, i8 2, (.v (.int .u16 10256)), i8 3, i8 0, (.v (.int .u16 0)), i8 1, i8 0, (.v (.int .u16 4288)), i8 1, i8 2, (.v (.int .u16 128))] ++ rp 5 [i8 3, i8 0, (.v (.int .u16 0))])), i64 0])
theorem q23_0 : EvQ (CX xLibs) 23 a23_0 r23_0 := evQ_fast 100000 (by kernel_rfl)
def mt23 : List (List A × A) := [(a23_0, r23_0)]
theorem mt23_ok : ∀ p ∈ mt23, EvQ (CX xLibs) 23 p.1 p.2 := by
  unfold mt23
  simp only [List.forall_mem_cons, List.not_mem_nil, false_implies, implies_true, and_true]
  exact q23_0
def X1 : FuncId → List A → Option A := orX 110 mt110 (orX 23 mt23 xLibs)
theorem X1_ok : QOk Cx.T Tryz.prog X1 := orX_ok X0_ok mt110_ok (orX_ok X0_ok mt23_ok X0_ok)
end Go.Proofs.YtijpomemobgddaaGreatDoor.Ev
