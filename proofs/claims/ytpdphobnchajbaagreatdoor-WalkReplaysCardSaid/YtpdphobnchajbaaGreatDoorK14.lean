/- Closed calls, step by step: awake. Printed by genM.py. -/
import Derived.Test.YtpdphobnchajbaaGreatDoorK13
set_option linter.all false
namespace Go.Proofs.YtpdphobnchajbaaGreatDoor.Ev
open Go Go.RowKit
set_option maxRecDepth 1000000
theorem OA:EvQ (CS Y11) 14 [] (bo true):=aS 100000 (by kernel_rfl)
