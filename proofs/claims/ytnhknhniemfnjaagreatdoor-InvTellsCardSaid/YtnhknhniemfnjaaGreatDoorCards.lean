/-
  DERIVED. GIVEN WITH THE SEED: THE CARDS: each row of YtnhknhniemfnjaaGreatDoorRows.lean that lists a variable, with what it lists TIED to the program's text (the seventh form; the later family's looks); each row that meets fmt, with fmt's text TOLD by the authors' own Lean function (tested against real Go, not proved from fmt's source: count such statements apart). THE CARD IS WHAT COUNTS. Prove the row's statement (the work); the ties are given (YtnhknhniemfnjaaGreatDoorTie.lean); close each card by the builder's one call (the guide's Derived/Test/ToyasCard.lean, 'card_holds'). Laid BY PROGRAM, IN A SANDBOX (cutbox-door.mjs). By AI agents, Wed Nov 11 2026. No macro, syntax, notation, axiom, sorry.
-/
import Derived.Test.YtnhknhniemfnjaaGreatDoorRows
import GoSem.ClaimSeven
namespace Go.Proofs.YtnhknhniemfnjaaGreatDoor
namespace Rows

/-- THE TIED CARD OF 'seisinlaw32.InvMemory'. -/
def invMemoryCard : Claim7 := { stood := { row := invMemoryRow, standIns := [], harness := (true, "76ea2c1529fb71c41f5cb0c5ca3ad412709796b2c74c08adc3e8e2a833627a06"), looks := false }, kinds := [], alts := [], laidByText := true, laidKinds := [.data, .data, .data, .data, .data, .data, .pinned], laidTests := true, laidLooks := .later }
def InvMemoryCardSaid : Prop := Claim7.holds Tryz.pinned (.plain (OpenSpec.ofChange invMemorySpec)) invMemoryCard

/-- THE TIED CARD OF 'seisinlaw32.InvOrder'. -/
def invOrderCard : Claim7 := { stood := { row := invOrderRow, standIns := [], harness := (true, "76ea2c1529fb71c41f5cb0c5ca3ad412709796b2c74c08adc3e8e2a833627a06"), looks := false }, kinds := [], alts := [], laidByText := true, laidKinds := [.data, .data, .data, .data, .data, .data, .pinned], laidTests := true, laidLooks := .later }
def InvOrderCardSaid : Prop := Claim7.holds Tryz.pinned (.plain (OpenSpec.ofChange invOrderSpec)) invOrderCard

/-- THE TIED CARD OF 'seisinlaw32.InvTells'. -/
def invTellsCard : Claim7 := { stood := { row := invTellsRow, standIns := [], harness := (true, "76ea2c1529fb71c41f5cb0c5ca3ad412709796b2c74c08adc3e8e2a833627a06"), looks := false }, kinds := [], alts := [], laidByText := true, laidKinds := [.data, .data, .data, .data, .data, .data, .pinned], laidTests := true, laidLooks := .later }
def InvTellsCardSaid : Prop := Claim7.holds Tryz.pinned (.plain (OpenSpec.ofChange invTellsSpec)) invTellsCard

/-- THE SECOND FORM's CARD OF 'seisinlaw32.InvMemory'. -/
def invMemoryUptoCard : Claim7 := { stood := { row := invMemoryUptoRow, standIns := [], harness := (true, "76ea2c1529fb71c41f5cb0c5ca3ad412709796b2c74c08adc3e8e2a833627a06"), looks := false }, kinds := [], alts := [], laidByText := true, laidKinds := [.data, .data, .data, .data, .data, .data, .pinned], laidTests := true, laidLooks := .later }
def InvMemoryUptoCardSaid : Prop := Claim7.holds Tryz.pinned (.plain (OpenSpec.upto invMemorySpec)) invMemoryUptoCard

/-- THE SECOND FORM's CARD OF 'seisinlaw32.InvOrder'. -/
def invOrderUptoCard : Claim7 := { stood := { row := invOrderUptoRow, standIns := [], harness := (true, "76ea2c1529fb71c41f5cb0c5ca3ad412709796b2c74c08adc3e8e2a833627a06"), looks := false }, kinds := [], alts := [], laidByText := true, laidKinds := [.data, .data, .data, .data, .data, .data, .pinned], laidTests := true, laidLooks := .later }
def InvOrderUptoCardSaid : Prop := Claim7.holds Tryz.pinned (.plain (OpenSpec.upto invOrderSpec)) invOrderUptoCard

/-- THE SECOND FORM's CARD OF 'seisinlaw32.InvTells'. -/
def invTellsUptoCard : Claim7 := { stood := { row := invTellsUptoRow, standIns := [], harness := (true, "76ea2c1529fb71c41f5cb0c5ca3ad412709796b2c74c08adc3e8e2a833627a06"), looks := false }, kinds := [], alts := [], laidByText := true, laidKinds := [.data, .data, .data, .data, .data, .data, .pinned], laidTests := true, laidLooks := .later }
def InvTellsUptoCardSaid : Prop := Claim7.holds Tryz.pinned (.plain (OpenSpec.upto invTellsSpec)) invTellsUptoCard
end Rows
end Go.Proofs.YtnhknhniemfnjaaGreatDoor
