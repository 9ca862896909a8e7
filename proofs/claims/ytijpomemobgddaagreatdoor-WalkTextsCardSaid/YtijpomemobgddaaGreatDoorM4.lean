/- Closed calls, step by step: what can be done. Printed by genM.py. -/
import Derived.Test.YtijpomemobgddaaGreatDoorM3
set_option linter.unusedSimpArgs false
set_option linter.unusedVariables false
namespace Go.Proofs.YtijpomemobgddaaGreatDoor.Ev
open Go Go.RowKit
set_option maxRecDepth 1000000
def a25_0 : List A := [v0, v1]
def r25_0 : A := (.sl 1 ([i8 1] ++ rp 8 [i8 0] ++ [bo false, i8 0, i8 0, i8 0, i8 0]))
theorem q25_0 : EvQ (CX X3) 25 a25_0 r25_0 := evQ_fast 100000 (by kernel_rfl)
def a25_1 : List A := [v0, v3]
def r25_1 : A := (.sl 1 ([i8 3] ++ rp 8 [i8 0] ++ [bo false, i8 0, i8 0, i8 0, i8 0]))
theorem q25_1 : EvQ (CX X3) 25 a25_1 r25_1 := evQ_fast 100000 (by kernel_rfl)
def a25_2 : List A := [v0, v5]
def r25_2 : A := (.sl 1 [i8 5, i8 0, i8 0, i8 2, i8 0, i8 2, i8 0, i8 0, i8 0, bo false, i8 0, i8 0, i8 0, i8 0])
theorem q25_2 : EvQ (CX X3) 25 a25_2 r25_2 := evQ_fast 100000 (by kernel_rfl)
def mt25 : List (List A × A) := [(a25_0, r25_0), (a25_1, r25_1), (a25_2, r25_2)]
theorem mt25_ok : ∀ p ∈ mt25, EvQ (CX X3) 25 p.1 p.2 := by
  unfold mt25
  simp only [List.forall_mem_cons, List.not_mem_nil, false_implies, implies_true, and_true]
  exact ⟨q25_0, q25_1, q25_2⟩
def X4 : FuncId → List A → Option A := orX 25 mt25 X3
theorem X4_ok : QOk Cx.T Tryz.prog X4 := orX_ok X3_ok mt25_ok X3_ok
end Go.Proofs.YtijpomemobgddaaGreatDoor.Ev
