/- Closed calls, step by step: awake. Printed by genM.py. -/
import Derived.Test.YtpdphobnchajbaaGreatDoorP12
set_option linter.unusedSimpArgs false
set_option linter.unusedVariables false
namespace Go.Proofs.YtpdphobnchajbaaGreatDoor.Ev
open Go Go.RowKit
set_option maxRecDepth 1000000
theorem awake_ev:EvQ (CS Y11) 6 [] (bo true):=evQ_fast 100000 (by kernel_rfl)
end Go.Proofs.YtpdphobnchajbaaGreatDoor.Ev
