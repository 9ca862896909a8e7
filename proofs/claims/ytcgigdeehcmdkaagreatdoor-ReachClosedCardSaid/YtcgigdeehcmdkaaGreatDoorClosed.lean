/-
  The law ReachClosed, as its tied card states it: the first of States is the initial state; no two of them are identified; each step that succeeds in one of them leads to one of them; each other one is such a successor of an earlier one. Conditions: the row's own.
-/
import Derived.Test.YtcgigdeehcmdkaaGreatDoorCards
import Derived.Test.YtcgigdeehcmdkaaGreatDoorTie
import Derived.Lay
import Derived.Test.YtcgigdeehcmdkaaGreatDoorK51
import Derived.Test.YtcgigdeehcmdkaaGreatDoorK52
set_option linter.all false
namespace Go.Proofs.YtcgigdeehcmdkaaGreatDoor.reachClosed
open Go Go.ChangeShapes Go.WideShapes Go.ChangeAt Go.RowKit Go.Proofs.YtcgigdeehcmdkaaGreatDoor
theorem card:Rows.ReachClosedCardSaid:=Claim7.holds_tied_plain_at .later [] _ _ _ _ said (fun _ h=>by cases h) c1 (fun _ h=>by cases h) reachClosed_row_tie rfl ⟨rfl,rfl⟩ c2 rfl plain c3
#print axioms card
