/-
  DERIVED. GIVEN WITH THE SEED: THE CARDS: each row of YtcgigdeehcmdkaaGreatDoorRows.lean that lists a variable, with what it lists TIED to the program's text (the seventh form; the later family's looks); each row that meets fmt, with fmt's text TOLD by the authors' own Lean function (tested against real Go, not proved from fmt's source: count such statements apart). THE CARD IS WHAT COUNTS. Prove the row's statement (the work); the ties are given (YtcgigdeehcmdkaaGreatDoorTie.lean); close each card by the builder's one call (the guide's Derived/Test/ToyasCard.lean, 'card_holds'). Laid BY PROGRAM, IN A SANDBOX (cutbox-door.mjs). By AI agents, Wed Nov 11 2026. No macro, syntax, notation, axiom, sorry.
-/
import Derived.Test.YtcgigdeehcmdkaaGreatDoorRows
import GoSem.ClaimSeven
namespace Go.Proofs.YtcgigdeehcmdkaaGreatDoor
namespace Rows

/-- THE TIED CARD OF 'seisinlaw33.ReachShortest'. -/
def reachShortestCard : Claim7 := { stood := { row := reachShortestRow, standIns := [], harness := (true, "eef17d60182ca5d28928df6a7a21f10f58b4879e4e5f442b21b15860fecb4f6b"), looks := false }, kinds := [], alts := [], laidByText := true, laidKinds := [.data, .data, .data, .data, .data], laidTests := true, laidLooks := .later }
def ReachShortestCardSaid : Prop := Claim7.holds Tryz.pinned (.plain (OpenSpec.ofChange reachShortestSpec)) reachShortestCard

/-- THE TIED CARD OF 'seisinlaw33.ReachFinds'. -/
def reachFindsCard : Claim7 := { stood := { row := reachFindsRow, standIns := [], harness := (true, "eef17d60182ca5d28928df6a7a21f10f58b4879e4e5f442b21b15860fecb4f6b"), looks := false }, kinds := [], alts := [], laidByText := true, laidKinds := [.data, .data, .data, .data, .data], laidTests := true, laidLooks := .later }
def ReachFindsCardSaid : Prop := Claim7.holds Tryz.pinned (.plain (OpenSpec.ofChange reachFindsSpec)) reachFindsCard

/-- THE TIED CARD OF 'seisinlaw33.ReachEnds'. -/
def reachEndsCard : Claim7 := { stood := { row := reachEndsRow, standIns := [], harness := (true, "eef17d60182ca5d28928df6a7a21f10f58b4879e4e5f442b21b15860fecb4f6b"), looks := false }, kinds := [], alts := [], laidByText := true, laidKinds := [.data, .data, .data, .data, .data], laidTests := true, laidLooks := .later }
def ReachEndsCardSaid : Prop := Claim7.holds Tryz.pinned (.plain (OpenSpec.ofChange reachEndsSpec)) reachEndsCard

/-- THE TIED CARD OF 'seisinlaw33.ReachClosed'. -/
def reachClosedCard : Claim7 := { stood := { row := reachClosedRow, standIns := [], harness := (true, "eef17d60182ca5d28928df6a7a21f10f58b4879e4e5f442b21b15860fecb4f6b"), looks := false }, kinds := [], alts := [], laidByText := true, laidKinds := [.data, .data, .data, .data, .data], laidTests := true, laidLooks := .later }
def ReachClosedCardSaid : Prop := Claim7.holds Tryz.pinned (.plain (OpenSpec.ofChange reachClosedSpec)) reachClosedCard

/-- THE SECOND FORM's CARD OF 'seisinlaw33.ReachShortest'. -/
def reachShortestUptoCard : Claim7 := { stood := { row := reachShortestUptoRow, standIns := [], harness := (true, "eef17d60182ca5d28928df6a7a21f10f58b4879e4e5f442b21b15860fecb4f6b"), looks := false }, kinds := [], alts := [], laidByText := true, laidKinds := [.data, .data, .data, .data, .data], laidTests := true, laidLooks := .later }
def ReachShortestUptoCardSaid : Prop := Claim7.holds Tryz.pinned (.plain (OpenSpec.upto reachShortestSpec)) reachShortestUptoCard

/-- THE SECOND FORM's CARD OF 'seisinlaw33.ReachFinds'. -/
def reachFindsUptoCard : Claim7 := { stood := { row := reachFindsUptoRow, standIns := [], harness := (true, "eef17d60182ca5d28928df6a7a21f10f58b4879e4e5f442b21b15860fecb4f6b"), looks := false }, kinds := [], alts := [], laidByText := true, laidKinds := [.data, .data, .data, .data, .data], laidTests := true, laidLooks := .later }
def ReachFindsUptoCardSaid : Prop := Claim7.holds Tryz.pinned (.plain (OpenSpec.upto reachFindsSpec)) reachFindsUptoCard

/-- THE SECOND FORM's CARD OF 'seisinlaw33.ReachEnds'. -/
def reachEndsUptoCard : Claim7 := { stood := { row := reachEndsUptoRow, standIns := [], harness := (true, "eef17d60182ca5d28928df6a7a21f10f58b4879e4e5f442b21b15860fecb4f6b"), looks := false }, kinds := [], alts := [], laidByText := true, laidKinds := [.data, .data, .data, .data, .data], laidTests := true, laidLooks := .later }
def ReachEndsUptoCardSaid : Prop := Claim7.holds Tryz.pinned (.plain (OpenSpec.upto reachEndsSpec)) reachEndsUptoCard

/-- THE SECOND FORM's CARD OF 'seisinlaw33.ReachClosed'. -/
def reachClosedUptoCard : Claim7 := { stood := { row := reachClosedUptoRow, standIns := [], harness := (true, "eef17d60182ca5d28928df6a7a21f10f58b4879e4e5f442b21b15860fecb4f6b"), looks := false }, kinds := [], alts := [], laidByText := true, laidKinds := [.data, .data, .data, .data, .data], laidTests := true, laidLooks := .later }
def ReachClosedUptoCardSaid : Prop := Claim7.holds Tryz.pinned (.plain (OpenSpec.upto reachClosedSpec)) reachClosedUptoCard
end Rows
end Go.Proofs.YtcgigdeehcmdkaaGreatDoor
