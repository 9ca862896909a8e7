/-
  The law SysEvicts, as its tied card states it: without evictions there are no eviction steps; with them there is one for each line that a cache holds in a stable state, and for no other line. Conditions: the row's own.
-/
import Derived.Test.YthoaemjdfccalaaGreatDoorCards
import Derived.Test.YthoaemjdfccalaaGreatDoorTie
import Derived.Lay
import Derived.Test.YthoaemjdfccalaaGreatDoorSysEvictsA
import Derived.Test.YthoaemjdfccalaaGreatDoorSysEvictsB
set_option linter.unusedSimpArgs false
set_option linter.unusedVariables false
namespace Go.Proofs.YthoaemjdfccalaaGreatDoor.sysEvicts
open Go Go.ChangeShapes Go.WideShapes Go.ChangeAt Go.RowKit Go.Proofs.YthoaemjdfccalaaGreatDoor
theorem card : Rows.SysEvictsCardSaid :=
  Claim7.holds_tied_plain_at .later [] _ _ _ _ said (fun _ h => by cases h) c1 (fun _ h => by cases h) sysEvicts_row_tie rfl ⟨rfl, rfl⟩ c2 rfl plain c3
#print axioms card
end Go.Proofs.YthoaemjdfccalaaGreatDoor.sysEvicts
