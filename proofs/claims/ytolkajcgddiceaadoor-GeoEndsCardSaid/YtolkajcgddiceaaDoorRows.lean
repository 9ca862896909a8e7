/-
  NARROWER THAN 'FOR EVERY INPUT', by the rows' own cells (each row's printed sentence says how): GeoOnce: laid · GeoWords: laid · GeoKeeps: laid · GeoTells: laid · GeoNodes: laid · GeoEnds: laid.
  DERIVED. THE GIVEN ROWS OF THIS SEAT. 6 by the template 'for every input the law returns true; each argument reads behind the call as it read before'; 0 by the template 'total and deterministic' (their statements: YtolkajcgddiceaaDoorTotals.lean).
  GIVEN WITH THE SEED: the statements are not yours to turn. If you find one false, say at which input.
  Laid BY PROGRAM, IN A SANDBOX (cutbox-rows.mjs): the forced cells as the released guide's own fill.sh prints them over the translation 4965d8f4e43ec16a… (all of the seat's roots in one cut). By AI agents, Wed Nov 11 2026. No macro, syntax, notation, axiom, sorry.
-/
import Derived.Test.YtolkajcgddiceaaDoorChecked
import GoSem.Claim
import GoSem.ClaimJoined
import GoSem.ClaimMapViews
import Derived.JoinedTies
import Derived.KernelRfl
namespace Go.Proofs.YtolkajcgddiceaaDoor
/- THE CELL 'sum', in the pinned program and in every row, IS THE sha256 OF THE DUMP (.gsa) THAT YtolkajcgddiceaaDoorProg.lean LOADS. Nothing in Lean hashes anything: it is a label: what it is worth is what the hold of that sum in a sandbox is worth. -/
noncomputable def Tryd.pinned : Pinned := { name := "ytolkajcgddiceaadoor", sum := "4965d8f4e43ec16a68dca55cf180e748c691a08e3f9b7be5d9601d01673772cf", checked := Tryd.checked }
namespace Rows
def none {H : Type} : Left H := { results := [], args := [] }

/- WHAT THE LISTED PACKAGE-LEVEL VARIABLES READ AS WHEN THE CALL BEGINS. Each datum BY PROGRAM (the guide's laid-datum.mjs) off the statement by which the dump's own 'gosem.cut.vars' lays the variable. In a bare row this is a premise. The card (YtolkajcgddiceaaDoorCards.lean) ties it to the program's text. -/
def laid_seisin_geo_bounds {H : Type} : DataW H := .agg [.lit (.int .i64 4), .lit (.int .i64 2), .lit (.int .i64 4), .lit (.int .i64 4), .lit (.int .i64 4)]

/-- 'seisinlaw16.GeoOnce': WHATEVER THE INPUT: true; the input reads as it did. -/
def geoOnceSpec : ChangeSpec := { name := "geoOnce", fn := fun _ => fun
  | [d] => { results := [.lit (.bool true)], args := [d] }
  | _ => none }
def geoOnceRow : OpenClaim := { program := "ytolkajcgddiceaadoor", sum := "4965d8f4e43ec16a68dca55cf180e748c691a08e3f9b7be5d9601d01673772cf", func := "seisin/seisinlaw16.GeoOnce", spec := "geoOnce", unfollowed := true, recurses := true, named := ["seisin/geo.bounds"], apart := false, laid := [("seisin/geo.bounds", laid_seisin_geo_bounds)] }
def GeoOnceSaid : Prop := geoOnceRow.holds Tryd.pinned (OpenSpec.ofChange geoOnceSpec)

/-- ITS FALSE NEIGHBOUR: 'it returns false'. Refute it at one input. -/
def geoOnceWrong : ChangeSpec := { name := "geoOnce", fn := fun _ => fun
  | [d] => { results := [.lit (.bool false)], args := [d] }
  | _ => none }
def GeoOnceWrongFalsely : Prop := geoOnceRow.holds Tryd.pinned (OpenSpec.ofChange geoOnceWrong)

/-- 'seisinlaw16.GeoWords': WHATEVER THE INPUT: true; the input reads as it did. -/
def geoWordsSpec : ChangeSpec := { name := "geoWords", fn := fun _ => fun
  | [d1, d2, d3, d4] => { results := [.lit (.bool true)], args := [d1, d2, d3, d4] }
  | _ => none }
def geoWordsRow : OpenClaim := { program := "ytolkajcgddiceaadoor", sum := "4965d8f4e43ec16a68dca55cf180e748c691a08e3f9b7be5d9601d01673772cf", func := "seisin/seisinlaw16.GeoWords", spec := "geoWords", unfollowed := true, recurses := true, named := ["seisin/geo.bounds"], apart := false, laid := [("seisin/geo.bounds", laid_seisin_geo_bounds)] }
def GeoWordsSaid : Prop := geoWordsRow.holds Tryd.pinned (OpenSpec.ofChange geoWordsSpec)

/-- ITS FALSE NEIGHBOUR: 'it returns false'. Refute it at one input. -/
def geoWordsWrong : ChangeSpec := { name := "geoWords", fn := fun _ => fun
  | [d1, d2, d3, d4] => { results := [.lit (.bool false)], args := [d1, d2, d3, d4] }
  | _ => none }
def GeoWordsWrongFalsely : Prop := geoWordsRow.holds Tryd.pinned (OpenSpec.ofChange geoWordsWrong)

/-- 'seisinlaw16.GeoKeeps': WHATEVER THE INPUT: true; the input reads as it did. -/
def geoKeepsSpec : ChangeSpec := { name := "geoKeeps", fn := fun _ => fun
  | [d1, d2, d3, d4] => { results := [.lit (.bool true)], args := [d1, d2, d3, d4] }
  | _ => none }
def geoKeepsRow : OpenClaim := { program := "ytolkajcgddiceaadoor", sum := "4965d8f4e43ec16a68dca55cf180e748c691a08e3f9b7be5d9601d01673772cf", func := "seisin/seisinlaw16.GeoKeeps", spec := "geoKeeps", unfollowed := true, recurses := true, named := ["seisin/geo.bounds"], apart := false, laid := [("seisin/geo.bounds", laid_seisin_geo_bounds)] }
def GeoKeepsSaid : Prop := geoKeepsRow.holds Tryd.pinned (OpenSpec.ofChange geoKeepsSpec)

/-- ITS FALSE NEIGHBOUR: 'it returns false'. Refute it at one input. -/
def geoKeepsWrong : ChangeSpec := { name := "geoKeeps", fn := fun _ => fun
  | [d1, d2, d3, d4] => { results := [.lit (.bool false)], args := [d1, d2, d3, d4] }
  | _ => none }
def GeoKeepsWrongFalsely : Prop := geoKeepsRow.holds Tryd.pinned (OpenSpec.ofChange geoKeepsWrong)

/-- 'seisinlaw16.GeoTells': WHATEVER THE INPUT: true; the input reads as it did. -/
def geoTellsSpec : ChangeSpec := { name := "geoTells", fn := fun _ => fun
  | [d1, d2] => { results := [.lit (.bool true)], args := [d1, d2] }
  | _ => none }
def geoTellsRow : OpenClaim := { program := "ytolkajcgddiceaadoor", sum := "4965d8f4e43ec16a68dca55cf180e748c691a08e3f9b7be5d9601d01673772cf", func := "seisin/seisinlaw16.GeoTells", spec := "geoTells", unfollowed := true, recurses := true, named := ["seisin/geo.bounds"], apart := false, laid := [("seisin/geo.bounds", laid_seisin_geo_bounds)] }
def GeoTellsSaid : Prop := geoTellsRow.holds Tryd.pinned (OpenSpec.ofChange geoTellsSpec)

/-- ITS FALSE NEIGHBOUR: 'it returns false'. Refute it at one input. -/
def geoTellsWrong : ChangeSpec := { name := "geoTells", fn := fun _ => fun
  | [d1, d2] => { results := [.lit (.bool false)], args := [d1, d2] }
  | _ => none }
def GeoTellsWrongFalsely : Prop := geoTellsRow.holds Tryd.pinned (OpenSpec.ofChange geoTellsWrong)

/-- 'seisinlaw16.GeoNodes': WHATEVER THE INPUT: true; the input reads as it did. -/
def geoNodesSpec : ChangeSpec := { name := "geoNodes", fn := fun _ => fun
  | [d1, d2] => { results := [.lit (.bool true)], args := [d1, d2] }
  | _ => none }
def geoNodesRow : OpenClaim := { program := "ytolkajcgddiceaadoor", sum := "4965d8f4e43ec16a68dca55cf180e748c691a08e3f9b7be5d9601d01673772cf", func := "seisin/seisinlaw16.GeoNodes", spec := "geoNodes", unfollowed := true, recurses := true, named := ["seisin/geo.bounds"], apart := false, laid := [("seisin/geo.bounds", laid_seisin_geo_bounds)] }
def GeoNodesSaid : Prop := geoNodesRow.holds Tryd.pinned (OpenSpec.ofChange geoNodesSpec)

/-- ITS FALSE NEIGHBOUR: 'it returns false'. Refute it at one input. -/
def geoNodesWrong : ChangeSpec := { name := "geoNodes", fn := fun _ => fun
  | [d1, d2] => { results := [.lit (.bool false)], args := [d1, d2] }
  | _ => none }
def GeoNodesWrongFalsely : Prop := geoNodesRow.holds Tryd.pinned (OpenSpec.ofChange geoNodesWrong)

/-- 'seisinlaw16.GeoEnds': WHATEVER THE INPUT: true; the input reads as it did. -/
def geoEndsSpec : ChangeSpec := { name := "geoEnds", fn := fun _ => fun
  | [] => { results := [.lit (.bool true)], args := [] }
  | _ => none }
def geoEndsRow : OpenClaim := { program := "ytolkajcgddiceaadoor", sum := "4965d8f4e43ec16a68dca55cf180e748c691a08e3f9b7be5d9601d01673772cf", func := "seisin/seisinlaw16.GeoEnds", spec := "geoEnds", unfollowed := true, recurses := true, named := ["seisin/geo.bounds"], apart := false, laid := [("seisin/geo.bounds", laid_seisin_geo_bounds)] }
def GeoEndsSaid : Prop := geoEndsRow.holds Tryd.pinned (OpenSpec.ofChange geoEndsSpec)

/-- ITS FALSE NEIGHBOUR: 'it returns false'. Refute it at one input. -/
def geoEndsWrong : ChangeSpec := { name := "geoEnds", fn := fun _ => fun
  | [] => { results := [.lit (.bool false)], args := [] }
  | _ => none }
def GeoEndsWrongFalsely : Prop := geoEndsRow.holds Tryd.pinned (OpenSpec.ofChange geoEndsWrong)

/- THE SECOND FORM. 'bulk': how many values and letters a reading holds, each counted each time it is reached (what is shared counts as often as it is met; a slice's spare places count too). A statement '..UptoSaid' is the law's where the arguments, and the package variables that the reading takes, are together of bulk at most 1048576: NARROWER than '..Said'. Prove '..Said' where nothing that the law and all that it calls make is longer than what came in: it says more and counts as full. Else prove '..UptoSaid'. A law counts once. -/
mutual
def uptoBulk {H : Type} : DataW H → Nat
  | .lit (.string bytes) => bytes.length + 1
  | .lit _ => 1
  | .nil => 1
  | .ptr d => uptoBulk d + 1
  | .slice elems spare => uptoBulkAll elems + uptoBulkAll spare + 1
  | .agg parts => uptoBulkAll parts + 1
  | .iface _ d => uptoBulk d + 1
  | .map entries => uptoBulkEntries entries + 1
  | .held _ => 1
def uptoBulkAll {H : Type} : List (DataW H) → Nat
  | [] => 0
  | d :: r => uptoBulk d + uptoBulkAll r
def uptoBulkEntries {H : Type} : List (Lit × DataW H) → Nat
  | [] => 0
  | x :: r => uptoBulkEntry x + uptoBulkEntries r
def uptoBulkEntry {H : Type} : Lit × DataW H → Nat
  | (.string bytes, d) => bytes.length + uptoBulk d + 1
  | (_, d) => uptoBulk d + 1
 end
def uptoSmall : (H : Type) → List (DataW H) → Bool := fun _ ds => decide (uptoBulkAll ds ≤ 1048576)
def OpenSpec.upto (s : _root_.Go.ChangeSpec) : _root_.Go.OpenSpec := { _root_.Go.OpenSpec.ofChange s with cond := some uptoSmall }

/-- 'seisinlaw16.GeoOnce', WHERE WHAT IT READS IS OF BULK AT MOST 1048576: true; the input reads as it did. -/
def geoOnceUptoRow : OpenClaim := { program := "ytolkajcgddiceaadoor", sum := "4965d8f4e43ec16a68dca55cf180e748c691a08e3f9b7be5d9601d01673772cf", func := "seisin/seisinlaw16.GeoOnce", spec := "geoOnce", unfollowed := true, recurses := true, named := ["seisin/geo.bounds"], apart := false, laid := [("seisin/geo.bounds", laid_seisin_geo_bounds)], narrowed := true }
def GeoOnceUptoSaid : Prop := geoOnceUptoRow.holds Tryd.pinned (OpenSpec.upto geoOnceSpec)

/-- 'seisinlaw16.GeoWords', WHERE WHAT IT READS IS OF BULK AT MOST 1048576: true; the input reads as it did. -/
def geoWordsUptoRow : OpenClaim := { program := "ytolkajcgddiceaadoor", sum := "4965d8f4e43ec16a68dca55cf180e748c691a08e3f9b7be5d9601d01673772cf", func := "seisin/seisinlaw16.GeoWords", spec := "geoWords", unfollowed := true, recurses := true, named := ["seisin/geo.bounds"], apart := false, laid := [("seisin/geo.bounds", laid_seisin_geo_bounds)], narrowed := true }
def GeoWordsUptoSaid : Prop := geoWordsUptoRow.holds Tryd.pinned (OpenSpec.upto geoWordsSpec)

/-- 'seisinlaw16.GeoKeeps', WHERE WHAT IT READS IS OF BULK AT MOST 1048576: true; the input reads as it did. -/
def geoKeepsUptoRow : OpenClaim := { program := "ytolkajcgddiceaadoor", sum := "4965d8f4e43ec16a68dca55cf180e748c691a08e3f9b7be5d9601d01673772cf", func := "seisin/seisinlaw16.GeoKeeps", spec := "geoKeeps", unfollowed := true, recurses := true, named := ["seisin/geo.bounds"], apart := false, laid := [("seisin/geo.bounds", laid_seisin_geo_bounds)], narrowed := true }
def GeoKeepsUptoSaid : Prop := geoKeepsUptoRow.holds Tryd.pinned (OpenSpec.upto geoKeepsSpec)

/-- 'seisinlaw16.GeoTells', WHERE WHAT IT READS IS OF BULK AT MOST 1048576: true; the input reads as it did. -/
def geoTellsUptoRow : OpenClaim := { program := "ytolkajcgddiceaadoor", sum := "4965d8f4e43ec16a68dca55cf180e748c691a08e3f9b7be5d9601d01673772cf", func := "seisin/seisinlaw16.GeoTells", spec := "geoTells", unfollowed := true, recurses := true, named := ["seisin/geo.bounds"], apart := false, laid := [("seisin/geo.bounds", laid_seisin_geo_bounds)], narrowed := true }
def GeoTellsUptoSaid : Prop := geoTellsUptoRow.holds Tryd.pinned (OpenSpec.upto geoTellsSpec)

/-- 'seisinlaw16.GeoNodes', WHERE WHAT IT READS IS OF BULK AT MOST 1048576: true; the input reads as it did. -/
def geoNodesUptoRow : OpenClaim := { program := "ytolkajcgddiceaadoor", sum := "4965d8f4e43ec16a68dca55cf180e748c691a08e3f9b7be5d9601d01673772cf", func := "seisin/seisinlaw16.GeoNodes", spec := "geoNodes", unfollowed := true, recurses := true, named := ["seisin/geo.bounds"], apart := false, laid := [("seisin/geo.bounds", laid_seisin_geo_bounds)], narrowed := true }
def GeoNodesUptoSaid : Prop := geoNodesUptoRow.holds Tryd.pinned (OpenSpec.upto geoNodesSpec)

/-- 'seisinlaw16.GeoEnds', WHERE WHAT IT READS IS OF BULK AT MOST 1048576: true; the input reads as it did. -/
def geoEndsUptoRow : OpenClaim := { program := "ytolkajcgddiceaadoor", sum := "4965d8f4e43ec16a68dca55cf180e748c691a08e3f9b7be5d9601d01673772cf", func := "seisin/seisinlaw16.GeoEnds", spec := "geoEnds", unfollowed := true, recurses := true, named := ["seisin/geo.bounds"], apart := false, laid := [("seisin/geo.bounds", laid_seisin_geo_bounds)], narrowed := true }
def GeoEndsUptoSaid : Prop := geoEndsUptoRow.holds Tryd.pinned (OpenSpec.upto geoEndsSpec)

end Rows
end Go.Proofs.YtolkajcgddiceaaDoor
