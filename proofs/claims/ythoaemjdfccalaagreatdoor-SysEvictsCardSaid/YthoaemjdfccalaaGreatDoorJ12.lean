/- Closed calls, step by step: awake. Printed by genM.py. -/
import Derived.Test.YthoaemjdfccalaaGreatDoorJ11
set_option linter.all false
namespace Go.Proofs.YthoaemjdfccalaaGreatDoor.Ev
open Go Go.RowKit
set_option maxRecDepth 1000000
theorem BR:EvQ (CS Y11) 8 [] (bo true):=aW 100000 (by kernel_rfl)
