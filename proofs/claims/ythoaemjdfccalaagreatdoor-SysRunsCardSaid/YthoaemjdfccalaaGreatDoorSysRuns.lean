/-
  The law SysRuns, as its tied card states it: with any of the three built-in protocols, every step that Steps gives along any path from the first state succeeds, and the state after it fits the world. Conditions: the row's own.
-/
import Derived.Test.YthoaemjdfccalaaGreatDoorCards
import Derived.Test.YthoaemjdfccalaaGreatDoorTie
import Derived.Lay
import Derived.Test.YthoaemjdfccalaaGreatDoorSysRunsA
import Derived.Test.YthoaemjdfccalaaGreatDoorSysRunsB
set_option linter.unusedSimpArgs false
set_option linter.unusedVariables false
namespace Go.Proofs.YthoaemjdfccalaaGreatDoor.sysRuns
open Go Go.ChangeShapes Go.WideShapes Go.ChangeAt Go.RowKit Go.Proofs.YthoaemjdfccalaaGreatDoor
theorem card : Rows.SysRunsCardSaid :=
  Claim7.holds_tied_plain_at .later [] _ _ _ _ said (fun _ h => by cases h) c1 (fun _ h => by cases h) sysRuns_row_tie rfl ⟨rfl, rfl⟩ c2 rfl plain c3
#print axioms card
end Go.Proofs.YthoaemjdfccalaaGreatDoor.sysRuns
