/-
  DERIVED. GIVEN WITH THE SEED: THE CARDS: each row of YtolkajcgddiceaaDoorRows.lean that lists a variable, with what it lists TIED to the program's text (the seventh form; the later family's looks); each row that meets fmt, with fmt's text TOLD by the authors' own Lean function (tested against real Go, not proved from fmt's source: count such statements apart). THE CARD IS WHAT COUNTS. Prove the row's statement (the work); the ties are given (YtolkajcgddiceaaDoorTie.lean); close each card by the builder's one call (the guide's Derived/Test/ToyasCard.lean, 'card_holds'). Laid BY PROGRAM, IN A SANDBOX (cutbox-door.mjs). By AI agents, Wed Nov 11 2026. No macro, syntax, notation, axiom, sorry.
-/
import Derived.Test.YtolkajcgddiceaaDoorRows
import GoSem.ClaimSeven
namespace Go.Proofs.YtolkajcgddiceaaDoor
namespace Rows

/-- THE TIED CARD OF 'seisinlaw16.GeoOnce'. -/
def geoOnceCard : Claim7 := { stood := { row := geoOnceRow, standIns := [], harness := (true, "005f4dc03d3e56c6bb21f73d8227be09e5d524980aca1491b52cf91875bf7f77"), looks := false }, kinds := [], alts := [], laidByText := true, laidKinds := [.data], laidTests := true, laidLooks := .later }
def GeoOnceCardSaid : Prop := Claim7.holds Tryd.pinned (.plain (OpenSpec.ofChange geoOnceSpec)) geoOnceCard

/-- THE TIED CARD OF 'seisinlaw16.GeoWords'. -/
def geoWordsCard : Claim7 := { stood := { row := geoWordsRow, standIns := [], harness := (true, "005f4dc03d3e56c6bb21f73d8227be09e5d524980aca1491b52cf91875bf7f77"), looks := false }, kinds := [], alts := [], laidByText := true, laidKinds := [.data], laidTests := true, laidLooks := .later }
def GeoWordsCardSaid : Prop := Claim7.holds Tryd.pinned (.plain (OpenSpec.ofChange geoWordsSpec)) geoWordsCard

/-- THE TIED CARD OF 'seisinlaw16.GeoKeeps'. -/
def geoKeepsCard : Claim7 := { stood := { row := geoKeepsRow, standIns := [], harness := (true, "005f4dc03d3e56c6bb21f73d8227be09e5d524980aca1491b52cf91875bf7f77"), looks := false }, kinds := [], alts := [], laidByText := true, laidKinds := [.data], laidTests := true, laidLooks := .later }
def GeoKeepsCardSaid : Prop := Claim7.holds Tryd.pinned (.plain (OpenSpec.ofChange geoKeepsSpec)) geoKeepsCard

/-- THE TIED CARD OF 'seisinlaw16.GeoTells'. -/
def geoTellsCard : Claim7 := { stood := { row := geoTellsRow, standIns := [], harness := (true, "005f4dc03d3e56c6bb21f73d8227be09e5d524980aca1491b52cf91875bf7f77"), looks := false }, kinds := [], alts := [], laidByText := true, laidKinds := [.data], laidTests := true, laidLooks := .later }
def GeoTellsCardSaid : Prop := Claim7.holds Tryd.pinned (.plain (OpenSpec.ofChange geoTellsSpec)) geoTellsCard

/-- THE TIED CARD OF 'seisinlaw16.GeoNodes'. -/
def geoNodesCard : Claim7 := { stood := { row := geoNodesRow, standIns := [], harness := (true, "005f4dc03d3e56c6bb21f73d8227be09e5d524980aca1491b52cf91875bf7f77"), looks := false }, kinds := [], alts := [], laidByText := true, laidKinds := [.data], laidTests := true, laidLooks := .later }
def GeoNodesCardSaid : Prop := Claim7.holds Tryd.pinned (.plain (OpenSpec.ofChange geoNodesSpec)) geoNodesCard

/-- THE TIED CARD OF 'seisinlaw16.GeoEnds'. -/
def geoEndsCard : Claim7 := { stood := { row := geoEndsRow, standIns := [], harness := (true, "005f4dc03d3e56c6bb21f73d8227be09e5d524980aca1491b52cf91875bf7f77"), looks := false }, kinds := [], alts := [], laidByText := true, laidKinds := [.data], laidTests := true, laidLooks := .later }
def GeoEndsCardSaid : Prop := Claim7.holds Tryd.pinned (.plain (OpenSpec.ofChange geoEndsSpec)) geoEndsCard

/-- THE SECOND FORM's CARD OF 'seisinlaw16.GeoOnce'. -/
def geoOnceUptoCard : Claim7 := { stood := { row := geoOnceUptoRow, standIns := [], harness := (true, "005f4dc03d3e56c6bb21f73d8227be09e5d524980aca1491b52cf91875bf7f77"), looks := false }, kinds := [], alts := [], laidByText := true, laidKinds := [.data], laidTests := true, laidLooks := .later }
def GeoOnceUptoCardSaid : Prop := Claim7.holds Tryd.pinned (.plain (OpenSpec.upto geoOnceSpec)) geoOnceUptoCard

/-- THE SECOND FORM's CARD OF 'seisinlaw16.GeoWords'. -/
def geoWordsUptoCard : Claim7 := { stood := { row := geoWordsUptoRow, standIns := [], harness := (true, "005f4dc03d3e56c6bb21f73d8227be09e5d524980aca1491b52cf91875bf7f77"), looks := false }, kinds := [], alts := [], laidByText := true, laidKinds := [.data], laidTests := true, laidLooks := .later }
def GeoWordsUptoCardSaid : Prop := Claim7.holds Tryd.pinned (.plain (OpenSpec.upto geoWordsSpec)) geoWordsUptoCard

/-- THE SECOND FORM's CARD OF 'seisinlaw16.GeoKeeps'. -/
def geoKeepsUptoCard : Claim7 := { stood := { row := geoKeepsUptoRow, standIns := [], harness := (true, "005f4dc03d3e56c6bb21f73d8227be09e5d524980aca1491b52cf91875bf7f77"), looks := false }, kinds := [], alts := [], laidByText := true, laidKinds := [.data], laidTests := true, laidLooks := .later }
def GeoKeepsUptoCardSaid : Prop := Claim7.holds Tryd.pinned (.plain (OpenSpec.upto geoKeepsSpec)) geoKeepsUptoCard

/-- THE SECOND FORM's CARD OF 'seisinlaw16.GeoTells'. -/
def geoTellsUptoCard : Claim7 := { stood := { row := geoTellsUptoRow, standIns := [], harness := (true, "005f4dc03d3e56c6bb21f73d8227be09e5d524980aca1491b52cf91875bf7f77"), looks := false }, kinds := [], alts := [], laidByText := true, laidKinds := [.data], laidTests := true, laidLooks := .later }
def GeoTellsUptoCardSaid : Prop := Claim7.holds Tryd.pinned (.plain (OpenSpec.upto geoTellsSpec)) geoTellsUptoCard

/-- THE SECOND FORM's CARD OF 'seisinlaw16.GeoNodes'. -/
def geoNodesUptoCard : Claim7 := { stood := { row := geoNodesUptoRow, standIns := [], harness := (true, "005f4dc03d3e56c6bb21f73d8227be09e5d524980aca1491b52cf91875bf7f77"), looks := false }, kinds := [], alts := [], laidByText := true, laidKinds := [.data], laidTests := true, laidLooks := .later }
def GeoNodesUptoCardSaid : Prop := Claim7.holds Tryd.pinned (.plain (OpenSpec.upto geoNodesSpec)) geoNodesUptoCard

/-- THE SECOND FORM's CARD OF 'seisinlaw16.GeoEnds'. -/
def geoEndsUptoCard : Claim7 := { stood := { row := geoEndsUptoRow, standIns := [], harness := (true, "005f4dc03d3e56c6bb21f73d8227be09e5d524980aca1491b52cf91875bf7f77"), looks := false }, kinds := [], alts := [], laidByText := true, laidKinds := [.data], laidTests := true, laidLooks := .later }
def GeoEndsUptoCardSaid : Prop := Claim7.holds Tryd.pinned (.plain (OpenSpec.upto geoEndsSpec)) geoEndsUptoCard
end Rows
end Go.Proofs.YtolkajcgddiceaaDoor
