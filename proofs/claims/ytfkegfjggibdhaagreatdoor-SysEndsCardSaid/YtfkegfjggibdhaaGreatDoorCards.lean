/-
  DERIVED. GIVEN WITH THE SEED: THE CARDS: each row of YtfkegfjggibdhaaGreatDoorRows.lean that lists a variable, with what it lists TIED to the program's text (the seventh form; the later family's looks); each row that meets fmt, with fmt's text TOLD by the authors' own Lean function (tested against real Go, not proved from fmt's source: count such statements apart). THE CARD IS WHAT COUNTS. Prove the row's statement (the work); the ties are given (YtfkegfjggibdhaaGreatDoorTie.lean); close each card by the builder's one call (the guide's Derived/Test/ToyasCard.lean, 'card_holds'). Laid BY PROGRAM, IN A SANDBOX (cutbox-door.mjs). By AI agents, Wed Nov 11 2026. No macro, syntax, notation, axiom, sorry.
-/
import Derived.Test.YtfkegfjggibdhaaGreatDoorRows
import GoSem.ClaimSeven
namespace Go.Proofs.YtfkegfjggibdhaaGreatDoor
namespace Rows

/-- THE TIED CARD OF 'seisinlaw31.SysRuns'. -/
def sysRunsCard : Claim7 := { stood := { row := sysRunsRow, standIns := [], harness := (true, "824f2d90d583e4516e01f897fc22b5f16b9f0f793af0600a213728452ac5c247"), looks := false }, kinds := [], alts := [], laidByText := true, laidKinds := [.data, .data, .data, .data, .data, .data, .pinned], laidTests := true, laidLooks := .later }
def SysRunsCardSaid : Prop := Claim7.holds Tryz.pinned (.plain (OpenSpec.ofChange sysRunsSpec)) sysRunsCard

/-- THE TIED CARD OF 'seisinlaw31.SysLocal'. -/
def sysLocalCard : Claim7 := { stood := { row := sysLocalRow, standIns := [], harness := (true, "824f2d90d583e4516e01f897fc22b5f16b9f0f793af0600a213728452ac5c247"), looks := false }, kinds := [], alts := [], laidByText := true, laidKinds := [.data, .data, .data, .data, .data, .data, .pinned], laidTests := true, laidLooks := .later }
def SysLocalCardSaid : Prop := Claim7.holds Tryz.pinned (.plain (OpenSpec.ofChange sysLocalSpec)) sysLocalCard

/-- THE TIED CARD OF 'seisinlaw31.SysEvicts'. -/
def sysEvictsCard : Claim7 := { stood := { row := sysEvictsRow, standIns := [], harness := (true, "824f2d90d583e4516e01f897fc22b5f16b9f0f793af0600a213728452ac5c247"), looks := false }, kinds := [], alts := [], laidByText := true, laidKinds := [.data, .data, .data, .data, .data, .data, .pinned], laidTests := true, laidLooks := .later }
def SysEvictsCardSaid : Prop := Claim7.holds Tryz.pinned (.plain (OpenSpec.ofChange sysEvictsSpec)) sysEvictsCard

/-- THE TIED CARD OF 'seisinlaw31.SysEnds'. -/
def sysEndsCard : Claim7 := { stood := { row := sysEndsRow, standIns := [], harness := (true, "824f2d90d583e4516e01f897fc22b5f16b9f0f793af0600a213728452ac5c247"), looks := false }, kinds := [], alts := [], laidByText := true, laidKinds := [.data, .data, .data, .data, .data, .data, .pinned], laidTests := true, laidLooks := .later }
def SysEndsCardSaid : Prop := Claim7.holds Tryz.pinned (.plain (OpenSpec.ofChange sysEndsSpec)) sysEndsCard

/-- THE TIED CARD OF 'seisinlaw31.SysValues'. -/
def sysValuesCard : Claim7 := { stood := { row := sysValuesRow, standIns := [], harness := (true, "824f2d90d583e4516e01f897fc22b5f16b9f0f793af0600a213728452ac5c247"), looks := false }, kinds := [], alts := [], laidByText := true, laidKinds := [.data, .data, .data, .data, .data, .data, .pinned], laidTests := true, laidLooks := .later }
def SysValuesCardSaid : Prop := Claim7.holds Tryz.pinned (.plain (OpenSpec.ofChange sysValuesSpec)) sysValuesCard

/-- THE SECOND FORM's CARD OF 'seisinlaw31.SysRuns'. -/
def sysRunsUptoCard : Claim7 := { stood := { row := sysRunsUptoRow, standIns := [], harness := (true, "824f2d90d583e4516e01f897fc22b5f16b9f0f793af0600a213728452ac5c247"), looks := false }, kinds := [], alts := [], laidByText := true, laidKinds := [.data, .data, .data, .data, .data, .data, .pinned], laidTests := true, laidLooks := .later }
def SysRunsUptoCardSaid : Prop := Claim7.holds Tryz.pinned (.plain (OpenSpec.upto sysRunsSpec)) sysRunsUptoCard

/-- THE SECOND FORM's CARD OF 'seisinlaw31.SysLocal'. -/
def sysLocalUptoCard : Claim7 := { stood := { row := sysLocalUptoRow, standIns := [], harness := (true, "824f2d90d583e4516e01f897fc22b5f16b9f0f793af0600a213728452ac5c247"), looks := false }, kinds := [], alts := [], laidByText := true, laidKinds := [.data, .data, .data, .data, .data, .data, .pinned], laidTests := true, laidLooks := .later }
def SysLocalUptoCardSaid : Prop := Claim7.holds Tryz.pinned (.plain (OpenSpec.upto sysLocalSpec)) sysLocalUptoCard

/-- THE SECOND FORM's CARD OF 'seisinlaw31.SysEvicts'. -/
def sysEvictsUptoCard : Claim7 := { stood := { row := sysEvictsUptoRow, standIns := [], harness := (true, "824f2d90d583e4516e01f897fc22b5f16b9f0f793af0600a213728452ac5c247"), looks := false }, kinds := [], alts := [], laidByText := true, laidKinds := [.data, .data, .data, .data, .data, .data, .pinned], laidTests := true, laidLooks := .later }
def SysEvictsUptoCardSaid : Prop := Claim7.holds Tryz.pinned (.plain (OpenSpec.upto sysEvictsSpec)) sysEvictsUptoCard

/-- THE SECOND FORM's CARD OF 'seisinlaw31.SysEnds'. -/
def sysEndsUptoCard : Claim7 := { stood := { row := sysEndsUptoRow, standIns := [], harness := (true, "824f2d90d583e4516e01f897fc22b5f16b9f0f793af0600a213728452ac5c247"), looks := false }, kinds := [], alts := [], laidByText := true, laidKinds := [.data, .data, .data, .data, .data, .data, .pinned], laidTests := true, laidLooks := .later }
def SysEndsUptoCardSaid : Prop := Claim7.holds Tryz.pinned (.plain (OpenSpec.upto sysEndsSpec)) sysEndsUptoCard

/-- THE SECOND FORM's CARD OF 'seisinlaw31.SysValues'. -/
def sysValuesUptoCard : Claim7 := { stood := { row := sysValuesUptoRow, standIns := [], harness := (true, "824f2d90d583e4516e01f897fc22b5f16b9f0f793af0600a213728452ac5c247"), looks := false }, kinds := [], alts := [], laidByText := true, laidKinds := [.data, .data, .data, .data, .data, .data, .pinned], laidTests := true, laidLooks := .later }
def SysValuesUptoCardSaid : Prop := Claim7.holds Tryz.pinned (.plain (OpenSpec.upto sysValuesSpec)) sysValuesUptoCard
end Rows
end Go.Proofs.YtfkegfjggibdhaaGreatDoor
