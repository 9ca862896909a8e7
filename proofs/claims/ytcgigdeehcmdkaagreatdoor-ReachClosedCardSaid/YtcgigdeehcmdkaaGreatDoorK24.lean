/- Closed calls, step by step: awake. Printed by genM.py. -/
import Derived.Test.YtcgigdeehcmdkaaGreatDoorK23
set_option linter.all false
namespace Go.Proofs.YtcgigdeehcmdkaaGreatDoor.Ev
open Go Go.RowKit
set_option maxRecDepth 1000000
theorem aAb:EvQ (CS Y9) 7 [] (bo true):=aW 100000 (by kernel_rfl)
