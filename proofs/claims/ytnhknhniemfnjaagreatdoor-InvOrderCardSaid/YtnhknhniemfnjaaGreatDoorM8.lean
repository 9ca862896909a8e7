/- Closed calls, step by step: the examples. Printed by genM.py. -/
import Derived.Test.YtnhknhniemfnjaaGreatDoorM7
set_option linter.unusedSimpArgs false
set_option linter.unusedVariables false
namespace Go.Proofs.YtnhknhniemfnjaaGreatDoor.Ev
open Go Go.RowKit
set_option maxRecDepth 1000000
/-- The program, what the examples start from held. -/
def CZ : Ctx := ⟨Cx.T, fun f => bif Nat.beq f 20 then some { fn20 with mode := .shut } else Cx.B f, X5, xOut⟩
theorem CZ_ok : CtxOk Tryz.prog CZ := ⟨CxOk.mixed, CxOk.types, CxOk.loops, by
  intro f m h
  have h' : (bif Nat.beq f 20 then some { fn20 with mode := .shut } else Cx.B f) = some m := h
  cases hb : Nat.beq f 20 with
  | true =>
    rw [hb] at h'
    obtain rfl := Option.some.inj h'
    obtain rfl := Nat.eq_of_beq_eq_true hb
    exact fnOk20
  | false =>
    rw [hb] at h'
    exact CxOk.fns f m h', X5_ok, xOut_ok⟩
theorem awake_ev : EvQ CZ 8 [] (bo true) := evQ_fast 100000 (by kernel_rfl)
end Go.Proofs.YtnhknhniemfnjaaGreatDoor.Ev
