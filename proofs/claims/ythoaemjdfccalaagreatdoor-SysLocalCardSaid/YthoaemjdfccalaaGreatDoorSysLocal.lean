/-
  The law SysLocal, as its tied card states it: a step changes only the core and the cache of its node, or the receiver of the delivered message and that core; steps of cores and drains neither send nor perform anything. Conditions: the row's own.
-/
import Derived.Test.YthoaemjdfccalaaGreatDoorCards
import Derived.Test.YthoaemjdfccalaaGreatDoorTie
import Derived.Lay
import Derived.Test.YthoaemjdfccalaaGreatDoorSysLocalA
import Derived.Test.YthoaemjdfccalaaGreatDoorSysLocalB
set_option linter.unusedSimpArgs false
set_option linter.unusedVariables false
namespace Go.Proofs.YthoaemjdfccalaaGreatDoor.sysLocal
open Go Go.ChangeShapes Go.WideShapes Go.ChangeAt Go.RowKit Go.Proofs.YthoaemjdfccalaaGreatDoor
theorem card : Rows.SysLocalCardSaid :=
  Claim7.holds_tied_plain_at .later [] _ _ _ _ said (fun _ h => by cases h) c1 (fun _ h => by cases h) sysLocal_row_tie rfl ⟨rfl, rfl⟩ c2 rfl plain c3
#print axioms card
end Go.Proofs.YthoaemjdfccalaaGreatDoor.sysLocal
