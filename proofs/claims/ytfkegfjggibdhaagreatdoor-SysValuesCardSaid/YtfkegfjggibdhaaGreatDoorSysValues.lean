/-
  The law SysValues, as its tied card states it: with any of the three built-in protocols, whenever the system is quiet, Value of each location is what the last performed write left there, or the initial value; each performed operation read just that value. Conditions: the row's own.
-/
import Derived.Test.YtfkegfjggibdhaaGreatDoorCards
import Derived.Test.YtfkegfjggibdhaaGreatDoorTie
import Derived.Lay
import Derived.Test.YtfkegfjggibdhaaGreatDoorSysValuesA
import Derived.Test.YtfkegfjggibdhaaGreatDoorSysValuesB
set_option linter.unusedSimpArgs false
set_option linter.unusedVariables false
namespace Go.Proofs.YtfkegfjggibdhaaGreatDoor.sysValues
open Go Go.ChangeShapes Go.WideShapes Go.ChangeAt Go.RowKit Go.Proofs.YtfkegfjggibdhaaGreatDoor
theorem card : Rows.SysValuesCardSaid :=
  Claim7.holds_tied_plain_at .later [] _ _ _ _ said (fun _ h => by cases h) c1 (fun _ h => by cases h) sysValues_row_tie rfl ⟨rfl, rfl⟩ c2 rfl plain c3
#print axioms card
end Go.Proofs.YtfkegfjggibdhaaGreatDoor.sysValues
