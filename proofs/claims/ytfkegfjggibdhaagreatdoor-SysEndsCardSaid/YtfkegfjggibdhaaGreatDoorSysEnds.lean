/-
  The law SysEnds, as its tied card states it: with any of the three built-in protocols, a state without steps is over and quiet, unless the network is ordered by pairs of nodes; and in a state that is over no core has a buffered store or waits. Conditions: the row's own.
-/
import Derived.Test.YtfkegfjggibdhaaGreatDoorCards
import Derived.Test.YtfkegfjggibdhaaGreatDoorTie
import Derived.Lay
import Derived.Test.YtfkegfjggibdhaaGreatDoorSysEndsA
import Derived.Test.YtfkegfjggibdhaaGreatDoorSysEndsB
set_option linter.unusedSimpArgs false
set_option linter.unusedVariables false
namespace Go.Proofs.YtfkegfjggibdhaaGreatDoor.sysEnds
open Go Go.ChangeShapes Go.WideShapes Go.ChangeAt Go.RowKit Go.Proofs.YtfkegfjggibdhaaGreatDoor
theorem card : Rows.SysEndsCardSaid :=
  Claim7.holds_tied_plain_at .later [] _ _ _ _ said (fun _ h => by cases h) c1 (fun _ h => by cases h) sysEnds_row_tie rfl ⟨rfl, rfl⟩ c2 rfl plain c3
#print axioms card
end Go.Proofs.YtfkegfjggibdhaaGreatDoor.sysEnds
