/-
  DERIVED. GIVEN WITH THE SEED: THE CARDS: each row of YtpdphobnchajbaaGreatDoorRows.lean that lists a variable, with what it lists TIED to the program's text (the seventh form; the later family's looks); each row that meets fmt, with fmt's text TOLD by the authors' own Lean function (tested against real Go, not proved from fmt's source: count such statements apart). THE CARD IS WHAT COUNTS. Prove the row's statement (the work); the ties are given (YtpdphobnchajbaaGreatDoorTie.lean); close each card by the builder's one call (the guide's Derived/Test/ToyasCard.lean, 'card_holds'). Laid BY PROGRAM, IN A SANDBOX (cutbox-door.mjs). By AI agents, Wed Nov 11 2026. No macro, syntax, notation, axiom, sorry.
-/
import Derived.Test.YtpdphobnchajbaaGreatDoorRows
import GoSem.ClaimSeven
namespace Go.Proofs.YtpdphobnchajbaaGreatDoor
namespace Rows

/-- THE TIED CARD OF 'seisinlaw31.SysListed'. -/
def sysListedCard : Claim7 := { stood := { row := sysListedRow, standIns := [], harness := (true, "9a80b7ad9127bbbb213fee8b2f4122ebf8bf5233b000bee0c282704d51413288"), looks := true }, kinds := [], alts := [], laidByText := true, laidKinds := [.data, .data, .data, .data], laidTests := true, laidLooks := .later }
def SysListedCardSaid : Prop := Claim7.holds Tryz.pinned (.plain (OpenSpec.ofChange sysListedSpec)) sysListedCard

/-- THE TIED CARD OF 'seisinlaw34.WalkPrefix'. -/
def walkPrefixCard : Claim7 := { stood := { row := walkPrefixRow, standIns := [], harness := (true, "9a80b7ad9127bbbb213fee8b2f4122ebf8bf5233b000bee0c282704d51413288"), looks := true }, kinds := [], alts := [], laidByText := true, laidKinds := [.data, .data, .data, .data, .data, .data, .data], laidTests := true, laidLooks := .later }
def WalkPrefixCardSaid : Prop := Claim7.holds Tryz.pinned (.plain (OpenSpec.ofChange walkPrefixSpec)) walkPrefixCard

/-- THE TIED CARD OF 'seisinlaw34.WalkReplays'. -/
def walkReplaysCard : Claim7 := { stood := { row := walkReplaysRow, standIns := [], harness := (true, "9a80b7ad9127bbbb213fee8b2f4122ebf8bf5233b000bee0c282704d51413288"), looks := true }, kinds := [], alts := [], laidByText := true, laidKinds := [.data, .data, .data, .data, .data, .sentinel, .sentinel, .data, .data, .data, .pinned], laidTests := true, laidLooks := .later }
def WalkReplaysCardSaid : Prop := Claim7.holds Tryz.pinned (.plain (OpenSpec.ofChange walkReplaysSpec)) walkReplaysCard

/-- THE SECOND FORM's CARD OF 'seisinlaw31.SysListed'. -/
def sysListedUptoCard : Claim7 := { stood := { row := sysListedUptoRow, standIns := [], harness := (true, "9a80b7ad9127bbbb213fee8b2f4122ebf8bf5233b000bee0c282704d51413288"), looks := true }, kinds := [], alts := [], laidByText := true, laidKinds := [.data, .data, .data, .data], laidTests := true, laidLooks := .later }
def SysListedUptoCardSaid : Prop := Claim7.holds Tryz.pinned (.plain (OpenSpec.upto sysListedSpec)) sysListedUptoCard

/-- THE SECOND FORM's CARD OF 'seisinlaw34.WalkPrefix'. -/
def walkPrefixUptoCard : Claim7 := { stood := { row := walkPrefixUptoRow, standIns := [], harness := (true, "9a80b7ad9127bbbb213fee8b2f4122ebf8bf5233b000bee0c282704d51413288"), looks := true }, kinds := [], alts := [], laidByText := true, laidKinds := [.data, .data, .data, .data, .data, .data, .data], laidTests := true, laidLooks := .later }
def WalkPrefixUptoCardSaid : Prop := Claim7.holds Tryz.pinned (.plain (OpenSpec.upto walkPrefixSpec)) walkPrefixUptoCard

/-- THE SECOND FORM's CARD OF 'seisinlaw34.WalkReplays'. -/
def walkReplaysUptoCard : Claim7 := { stood := { row := walkReplaysUptoRow, standIns := [], harness := (true, "9a80b7ad9127bbbb213fee8b2f4122ebf8bf5233b000bee0c282704d51413288"), looks := true }, kinds := [], alts := [], laidByText := true, laidKinds := [.data, .data, .data, .data, .data, .sentinel, .sentinel, .data, .data, .data, .pinned], laidTests := true, laidLooks := .later }
def WalkReplaysUptoCardSaid : Prop := Claim7.holds Tryz.pinned (.plain (OpenSpec.upto walkReplaysSpec)) walkReplaysUptoCard
end Rows
end Go.Proofs.YtpdphobnchajbaaGreatDoor
