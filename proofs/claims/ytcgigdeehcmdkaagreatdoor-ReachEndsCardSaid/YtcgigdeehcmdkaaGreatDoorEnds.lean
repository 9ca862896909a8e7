/-
  The law ReachEnds, as its tied card states it: Ends is true if and only if each reachable state is in the least set that contains the final states and every state with a step into the set. Conditions: the row's own.
-/
import Derived.Test.YtcgigdeehcmdkaaGreatDoorCards
import Derived.Test.YtcgigdeehcmdkaaGreatDoorTie
import Derived.Lay
import Derived.Test.YtcgigdeehcmdkaaGreatDoorL50
import Derived.Test.YtcgigdeehcmdkaaGreatDoorL51
set_option linter.all false
namespace Go.Proofs.YtcgigdeehcmdkaaGreatDoor.reachEnds
open Go Go.ChangeShapes Go.WideShapes Go.ChangeAt Go.RowKit Go.Proofs.YtcgigdeehcmdkaaGreatDoor
theorem card:Rows.ReachEndsCardSaid:=Claim7.holds_tied_plain_at .later [] _ _ _ _ said (fun _ h=>by cases h) c1 (fun _ h=>by cases h) reachEnds_row_tie rfl ⟨rfl,rfl⟩ c2 rfl plain c3
#print axioms card
