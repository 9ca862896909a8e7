/-
  DERIVED. GIVEN WITH THE SEED: THE CARDS: each row of YtijpomemobgddaaGreatDoorRows.lean that lists a variable, with what it lists TIED to the program's text (the seventh form; the later family's looks); each row that meets fmt, with fmt's text TOLD by the authors' own Lean function (tested against real Go, not proved from fmt's source: count such statements apart). THE CARD IS WHAT COUNTS. Prove the row's statement (the work); the ties are given (YtijpomemobgddaaGreatDoorTie.lean); close each card by the builder's one call (the guide's Derived/Test/ToyasCard.lean, 'card_holds'). Laid BY PROGRAM, IN A SANDBOX (cutbox-door.mjs). By AI agents, Wed Nov 11 2026. No macro, syntax, notation, axiom, sorry.
-/
import Derived.Test.YtijpomemobgddaaGreatDoorRows
import GoSem.ClaimSeven
namespace Go.Proofs.YtijpomemobgddaaGreatDoor
namespace Rows

/-- THE TIED CARD OF 'seisinlaw34.WalkTexts'. -/
def walkTextsCard : Claim7 := { stood := { row := walkTextsRow, standIns := [], harness := (true, "61156910603adbb7c50cb4d4ecd886d0d431d2c2f5d62f8beda9ca0229e10b67"), looks := true }, kinds := [], alts := [], laidByText := true, laidKinds := [.data, .data, .data, .data, .data, .sentinel, .sentinel, .data, .data, .data, .pinned], laidTests := true, laidLooks := .later }
def WalkTextsCardSaid : Prop := Claim7.holds Tryz.pinned (.plain (OpenSpec.ofChange walkTextsSpec)) walkTextsCard

/-- THE TIED CARD OF 'seisinlaw34.WalkReads'. -/
def walkReadsCard : Claim7 := { stood := { row := walkReadsRow, standIns := [], harness := (true, "61156910603adbb7c50cb4d4ecd886d0d431d2c2f5d62f8beda9ca0229e10b67"), looks := true }, kinds := [], alts := [], laidByText := true, laidKinds := [.data, .data, .data, .data, .data, .sentinel, .sentinel, .data, .data, .data, .pinned], laidTests := true, laidLooks := .later }
def WalkReadsCardSaid : Prop := Claim7.holds Tryz.pinned (.plain (OpenSpec.ofChange walkReadsSpec)) walkReadsCard

/-- THE SECOND FORM's CARD OF 'seisinlaw34.WalkTexts'. -/
def walkTextsUptoCard : Claim7 := { stood := { row := walkTextsUptoRow, standIns := [], harness := (true, "61156910603adbb7c50cb4d4ecd886d0d431d2c2f5d62f8beda9ca0229e10b67"), looks := true }, kinds := [], alts := [], laidByText := true, laidKinds := [.data, .data, .data, .data, .data, .sentinel, .sentinel, .data, .data, .data, .pinned], laidTests := true, laidLooks := .later }
def WalkTextsUptoCardSaid : Prop := Claim7.holds Tryz.pinned (.plain (OpenSpec.upto walkTextsSpec)) walkTextsUptoCard

/-- THE SECOND FORM's CARD OF 'seisinlaw34.WalkReads'. -/
def walkReadsUptoCard : Claim7 := { stood := { row := walkReadsUptoRow, standIns := [], harness := (true, "61156910603adbb7c50cb4d4ecd886d0d431d2c2f5d62f8beda9ca0229e10b67"), looks := true }, kinds := [], alts := [], laidByText := true, laidKinds := [.data, .data, .data, .data, .data, .sentinel, .sentinel, .data, .data, .data, .pinned], laidTests := true, laidLooks := .later }
def WalkReadsUptoCardSaid : Prop := Claim7.holds Tryz.pinned (.plain (OpenSpec.upto walkReadsSpec)) walkReadsUptoCard
end Rows
end Go.Proofs.YtijpomemobgddaaGreatDoor
