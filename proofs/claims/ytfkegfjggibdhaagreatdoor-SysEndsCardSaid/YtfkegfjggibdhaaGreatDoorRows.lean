/-
  NARROWER THAN 'FOR EVERY INPUT', by the rows' own cells (each row's printed sentence says how): SysRuns: loops, laid · SysLocal: loops, laid · SysEvicts: loops, laid · SysEnds: loops, laid · SysValues: loops, laid.
  DERIVED. THE GIVEN ROWS OF THIS SEAT. 5 by the template 'for every input the law returns true; each argument reads behind the call as it read before'; 0 by the template 'total and deterministic' (their statements: YtfkegfjggibdhaaGreatDoorTotals.lean).
  GIVEN WITH THE SEED: the statements are not yours to turn. If you find one false, say at which input.
  Laid BY PROGRAM, IN A SANDBOX (cutbox-rows.mjs): the forced cells as the released guide's own fill.sh prints them over the translation edafd40808b2dbf2… (all of the seat's roots in one cut). By AI agents, Wed Nov 11 2026. No macro, syntax, notation, axiom, sorry.
-/
import Derived.Test.YtfkegfjggibdhaaGreatDoorChecked
import GoSem.PinnedTables
import GoSem.Claim
import GoSem.ClaimJoined
import GoSem.ClaimMapViews
import Derived.JoinedTies
import Derived.KernelRfl
namespace Go.Proofs.YtfkegfjggibdhaaGreatDoor
/- THE CELL 'sum', in the pinned program and in every row, IS THE sha256 OF THE DUMP (.gsa) THAT YtfkegfjggibdhaaGreatDoorProg.lean LOADS. Nothing in Lean hashes anything: it is a label: what it is worth is what the hold of that sum in a sandbox is worth. -/
noncomputable def Tryz.pinned : Pinned := { name := "ytfkegfjggibdhaagreatdoor", sum := "edafd40808b2dbf22534af526726e3bd6fa235e14a7611c52a345990de44b1af", checked := Tryz.checked }
namespace Rows
def none {H : Type} : Left H := { results := [], args := [] }

/- WHAT THE LISTED PACKAGE-LEVEL VARIABLES READ AS WHEN THE CALL BEGINS. Each datum BY PROGRAM (the guide's laid-datum.mjs) off the statement by which the dump's own 'gosem.cut.vars' lays the variable. In a bare row this is a premise. The card (YtfkegfjggibdhaaGreatDoorCards.lean) ties it to the program's text. -/
def laid_math_bits_deBruijn64tab {H : Type} : DataW H := .agg [.lit (.int .u8 0), .lit (.int .u8 1), .lit (.int .u8 56), .lit (.int .u8 2), .lit (.int .u8 57), .lit (.int .u8 49), .lit (.int .u8 28), .lit (.int .u8 3), .lit (.int .u8 61), .lit (.int .u8 58), .lit (.int .u8 42), .lit (.int .u8 50), .lit (.int .u8 38), .lit (.int .u8 29), .lit (.int .u8 17), .lit (.int .u8 4), .lit (.int .u8 62), .lit (.int .u8 47), .lit (.int .u8 59), .lit (.int .u8 36), .lit (.int .u8 45), .lit (.int .u8 43), .lit (.int .u8 51), .lit (.int .u8 22), .lit (.int .u8 53), .lit (.int .u8 39), .lit (.int .u8 33), .lit (.int .u8 30), .lit (.int .u8 24), .lit (.int .u8 18), .lit (.int .u8 12), .lit (.int .u8 5), .lit (.int .u8 63), .lit (.int .u8 55), .lit (.int .u8 48), .lit (.int .u8 27), .lit (.int .u8 60), .lit (.int .u8 41), .lit (.int .u8 37), .lit (.int .u8 16), .lit (.int .u8 46), .lit (.int .u8 35), .lit (.int .u8 44), .lit (.int .u8 21), .lit (.int .u8 52), .lit (.int .u8 32), .lit (.int .u8 23), .lit (.int .u8 11), .lit (.int .u8 54), .lit (.int .u8 26), .lit (.int .u8 40), .lit (.int .u8 15), .lit (.int .u8 34), .lit (.int .u8 20), .lit (.int .u8 31), .lit (.int .u8 10), .lit (.int .u8 25), .lit (.int .u8 14), .lit (.int .u8 19), .lit (.int .u8 9), .lit (.int .u8 13), .lit (.int .u8 8), .lit (.int .u8 7), .lit (.int .u8 6)]
def laid_unicode_utf8_acceptRanges {H : Type} : DataW H := .agg [.agg [.lit (.int .u8 128), .lit (.int .u8 191)], .agg [.lit (.int .u8 160), .lit (.int .u8 191)], .agg [.lit (.int .u8 128), .lit (.int .u8 159)], .agg [.lit (.int .u8 144), .lit (.int .u8 191)], .agg [.lit (.int .u8 128), .lit (.int .u8 143)], .agg [.lit (.int .u8 0), .lit (.int .u8 0)], .agg [.lit (.int .u8 0), .lit (.int .u8 0)], .agg [.lit (.int .u8 0), .lit (.int .u8 0)], .agg [.lit (.int .u8 0), .lit (.int .u8 0)], .agg [.lit (.int .u8 0), .lit (.int .u8 0)], .agg [.lit (.int .u8 0), .lit (.int .u8 0)], .agg [.lit (.int .u8 0), .lit (.int .u8 0)], .agg [.lit (.int .u8 0), .lit (.int .u8 0)], .agg [.lit (.int .u8 0), .lit (.int .u8 0)], .agg [.lit (.int .u8 0), .lit (.int .u8 0)], .agg [.lit (.int .u8 0), .lit (.int .u8 0)]]
def laid_seisin_geo_bounds {H : Type} : DataW H := .agg [.lit (.int .i64 4), .lit (.int .i64 2), .lit (.int .i64 4), .lit (.int .i64 4), .lit (.int .i64 4)]
def laid_seisin_check_needs {H : Type} : DataW H := .agg [.lit (.int .u8 0), .lit (.int .u8 35), .lit (.int .u8 38), .lit (.int .u8 29), .lit (.int .u8 7), .lit (.int .u8 7), .lit (.int .u8 15), .lit (.int .u8 32), .lit (.int .u8 92)]
def laid_seisin_msg_classes {H : Type} : DataW H := .agg [.lit (.int .u8 0), .lit (.int .u8 1), .lit (.int .u8 1), .lit (.int .u8 1), .lit (.int .u8 3), .lit (.int .u8 3), .lit (.int .u8 2), .lit (.int .u8 2), .lit (.int .u8 2), .lit (.int .u8 2), .lit (.int .u8 3), .lit (.int .u8 3), .lit (.int .u8 3)]
def laid_seisin_spec_keywords {H : Type} : DataW H := .agg [.agg [.lit (.string []), .lit (.string []), .lit (.string []), .lit (.string []), .lit (.string []), .lit (.string []), .lit (.string []), .lit (.string []), .lit (.string []), .lit (.string []), .lit (.string []), .lit (.string []), .lit (.string []), .lit (.string []), .lit (.string [])], .agg [.lit (.string [73]), .lit (.string [83]), .lit (.string [69]), .lit (.string [79]), .lit (.string [77]), .lit (.string [73, 83]), .lit (.string [73, 77]), .lit (.string [83, 77]), .lit (.string [79, 77]), .lit (.string [73, 65]), .lit (.string [77, 73]), .lit (.string [73, 73]), .lit (.string []), .lit (.string []), .lit (.string [])], .agg [.lit (.string [108, 111, 97, 100]), .lit (.string [115, 116, 111, 114, 101]), .lit (.string [101, 118, 105, 99, 116]), .lit (.string [102, 119, 100, 115]), .lit (.string [102, 119, 100, 109]), .lit (.string [105, 110, 118]), .lit (.string [112, 117, 116]), .lit (.string [118, 97, 108, 117, 101]), .lit (.string [97, 108, 111, 110, 101]), .lit (.string [109, 111, 114, 101]), .lit (.string [103, 114, 97, 110, 116]), .lit (.string [115, 111, 111, 110]), .lit (.string [97, 99, 107]), .lit (.string [108, 97, 115, 116]), .lit (.string [])], .agg [.lit (.string [116, 97, 107, 101]), .lit (.string [97, 115, 107]), .lit (.string [97, 115, 107, 109]), .lit (.string [112, 117, 116]), .lit (.string [103, 105, 118, 101]), .lit (.string [99, 111, 112, 121]), .lit (.string [105, 110, 118]), .lit (.string [100, 111, 110, 101]), .lit (.string [100, 111]), .lit (.string [100, 114, 111, 112]), .lit (.string []), .lit (.string []), .lit (.string []), .lit (.string []), .lit (.string [])], .agg [.lit (.string [85, 110]), .lit (.string [83, 104]), .lit (.string [69, 120]), .lit (.string [79, 119]), .lit (.string []), .lit (.string []), .lit (.string []), .lit (.string []), .lit (.string []), .lit (.string []), .lit (.string []), .lit (.string []), .lit (.string []), .lit (.string []), .lit (.string [])], .agg [.lit (.string [103, 101, 116, 115]), .lit (.string [103, 101, 116, 109]), .lit (.string [117, 112]), .lit (.string [98, 97, 99, 107]), .lit (.string [115, 116, 97, 108, 101]), .lit (.string []), .lit (.string []), .lit (.string []), .lit (.string []), .lit (.string []), .lit (.string []), .lit (.string []), .lit (.string []), .lit (.string []), .lit (.string [])], .agg [.lit (.string [105, 110, 118, 115]), .lit (.string [109, 101, 109]), .lit (.string [97, 108, 111, 110, 101]), .lit (.string [102, 119, 100, 115]), .lit (.string [102, 119, 100, 109]), .lit (.string [103, 114, 97, 110, 116]), .lit (.string [119, 114, 105, 116, 101]), .lit (.string [98, 97, 99, 107]), .lit (.string [99, 108, 101, 97, 114]), .lit (.string [110, 111, 116, 101]), .lit (.string [98, 111, 116, 104]), .lit (.string [111, 119, 110]), .lit (.string [102, 114, 101, 101]), .lit (.string [98, 117, 115, 121]), .lit (.string [116, 119, 105, 99, 101])]]
/-- One of Go's own tables, pinned by name: the form's constant. -/
def laid_unicode_utf8_first : DataW Unit := Go.Pinned.utf8First

/-- 'seisinlaw31.SysRuns': WHATEVER THE INPUT: true; the input reads as it did. -/
def sysRunsSpec : ChangeSpec := { name := "sysRuns", fn := fun _ => fun
  | [d1, d2, d3] => { results := [.lit (.bool true)], args := [d1, d2, d3] }
  | _ => none }
def sysRunsRow : OpenClaim := { program := "ytfkegfjggibdhaagreatdoor", sum := "edafd40808b2dbf22534af526726e3bd6fa235e14a7611c52a345990de44b1af", func := "seisin/seisinlaw31.SysRuns", spec := "sysRuns", inPlace := ["internal/bytealg.IndexByteString", "internal/bytealg.IndexString"], unfollowed := true, recurses := true, named := ["seisin/check.needs", "seisin/geo.bounds", "seisin/msg.classes", "math/bits.deBruijn64tab", "seisin/spec.keywords", "unicode/utf8.first", "unicode/utf8.acceptRanges", "internal/bytealg.MaxLen"], loops := true, plainKeys := false, apart := false, laid := [("math/bits.deBruijn64tab", laid_math_bits_deBruijn64tab), ("unicode/utf8.acceptRanges", laid_unicode_utf8_acceptRanges), ("seisin/geo.bounds", laid_seisin_geo_bounds), ("seisin/check.needs", laid_seisin_check_needs), ("seisin/msg.classes", laid_seisin_msg_classes), ("seisin/spec.keywords", laid_seisin_spec_keywords), ("unicode/utf8.first", laid_unicode_utf8_first)] }
def SysRunsSaid : Prop := sysRunsRow.holds Tryz.pinned (OpenSpec.ofChange sysRunsSpec)

/-- ITS FALSE NEIGHBOUR: 'it returns false'. Refute it at one input. -/
def sysRunsWrong : ChangeSpec := { name := "sysRuns", fn := fun _ => fun
  | [d1, d2, d3] => { results := [.lit (.bool false)], args := [d1, d2, d3] }
  | _ => none }
def SysRunsWrongFalsely : Prop := sysRunsRow.holds Tryz.pinned (OpenSpec.ofChange sysRunsWrong)

/-- 'seisinlaw31.SysLocal': WHATEVER THE INPUT: true; the input reads as it did. -/
def sysLocalSpec : ChangeSpec := { name := "sysLocal", fn := fun _ => fun
  | [d1, d2, d3] => { results := [.lit (.bool true)], args := [d1, d2, d3] }
  | _ => none }
def sysLocalRow : OpenClaim := { program := "ytfkegfjggibdhaagreatdoor", sum := "edafd40808b2dbf22534af526726e3bd6fa235e14a7611c52a345990de44b1af", func := "seisin/seisinlaw31.SysLocal", spec := "sysLocal", inPlace := ["internal/bytealg.IndexByteString", "internal/bytealg.IndexString"], unfollowed := true, recurses := true, named := ["seisin/check.needs", "seisin/geo.bounds", "seisin/msg.classes", "math/bits.deBruijn64tab", "seisin/spec.keywords", "unicode/utf8.first", "unicode/utf8.acceptRanges", "internal/bytealg.MaxLen"], loops := true, plainKeys := false, apart := false, laid := [("math/bits.deBruijn64tab", laid_math_bits_deBruijn64tab), ("unicode/utf8.acceptRanges", laid_unicode_utf8_acceptRanges), ("seisin/geo.bounds", laid_seisin_geo_bounds), ("seisin/check.needs", laid_seisin_check_needs), ("seisin/msg.classes", laid_seisin_msg_classes), ("seisin/spec.keywords", laid_seisin_spec_keywords), ("unicode/utf8.first", laid_unicode_utf8_first)] }
def SysLocalSaid : Prop := sysLocalRow.holds Tryz.pinned (OpenSpec.ofChange sysLocalSpec)

/-- ITS FALSE NEIGHBOUR: 'it returns false'. Refute it at one input. -/
def sysLocalWrong : ChangeSpec := { name := "sysLocal", fn := fun _ => fun
  | [d1, d2, d3] => { results := [.lit (.bool false)], args := [d1, d2, d3] }
  | _ => none }
def SysLocalWrongFalsely : Prop := sysLocalRow.holds Tryz.pinned (OpenSpec.ofChange sysLocalWrong)

/-- 'seisinlaw31.SysEvicts': WHATEVER THE INPUT: true; the input reads as it did. -/
def sysEvictsSpec : ChangeSpec := { name := "sysEvicts", fn := fun _ => fun
  | [d1, d2, d3] => { results := [.lit (.bool true)], args := [d1, d2, d3] }
  | _ => none }
def sysEvictsRow : OpenClaim := { program := "ytfkegfjggibdhaagreatdoor", sum := "edafd40808b2dbf22534af526726e3bd6fa235e14a7611c52a345990de44b1af", func := "seisin/seisinlaw31.SysEvicts", spec := "sysEvicts", inPlace := ["internal/bytealg.IndexByteString", "internal/bytealg.IndexString"], unfollowed := true, recurses := true, named := ["seisin/check.needs", "seisin/geo.bounds", "seisin/msg.classes", "math/bits.deBruijn64tab", "seisin/spec.keywords", "unicode/utf8.first", "unicode/utf8.acceptRanges", "internal/bytealg.MaxLen"], loops := true, plainKeys := false, apart := false, laid := [("math/bits.deBruijn64tab", laid_math_bits_deBruijn64tab), ("unicode/utf8.acceptRanges", laid_unicode_utf8_acceptRanges), ("seisin/geo.bounds", laid_seisin_geo_bounds), ("seisin/check.needs", laid_seisin_check_needs), ("seisin/msg.classes", laid_seisin_msg_classes), ("seisin/spec.keywords", laid_seisin_spec_keywords), ("unicode/utf8.first", laid_unicode_utf8_first)] }
def SysEvictsSaid : Prop := sysEvictsRow.holds Tryz.pinned (OpenSpec.ofChange sysEvictsSpec)

/-- ITS FALSE NEIGHBOUR: 'it returns false'. Refute it at one input. -/
def sysEvictsWrong : ChangeSpec := { name := "sysEvicts", fn := fun _ => fun
  | [d1, d2, d3] => { results := [.lit (.bool false)], args := [d1, d2, d3] }
  | _ => none }
def SysEvictsWrongFalsely : Prop := sysEvictsRow.holds Tryz.pinned (OpenSpec.ofChange sysEvictsWrong)

/-- 'seisinlaw31.SysEnds': WHATEVER THE INPUT: true; the input reads as it did. -/
def sysEndsSpec : ChangeSpec := { name := "sysEnds", fn := fun _ => fun
  | [d1, d2, d3] => { results := [.lit (.bool true)], args := [d1, d2, d3] }
  | _ => none }
def sysEndsRow : OpenClaim := { program := "ytfkegfjggibdhaagreatdoor", sum := "edafd40808b2dbf22534af526726e3bd6fa235e14a7611c52a345990de44b1af", func := "seisin/seisinlaw31.SysEnds", spec := "sysEnds", inPlace := ["internal/bytealg.IndexByteString", "internal/bytealg.IndexString"], unfollowed := true, recurses := true, named := ["seisin/check.needs", "seisin/geo.bounds", "seisin/msg.classes", "math/bits.deBruijn64tab", "seisin/spec.keywords", "unicode/utf8.first", "unicode/utf8.acceptRanges", "internal/bytealg.MaxLen"], loops := true, plainKeys := false, apart := false, laid := [("math/bits.deBruijn64tab", laid_math_bits_deBruijn64tab), ("unicode/utf8.acceptRanges", laid_unicode_utf8_acceptRanges), ("seisin/geo.bounds", laid_seisin_geo_bounds), ("seisin/check.needs", laid_seisin_check_needs), ("seisin/msg.classes", laid_seisin_msg_classes), ("seisin/spec.keywords", laid_seisin_spec_keywords), ("unicode/utf8.first", laid_unicode_utf8_first)] }
def SysEndsSaid : Prop := sysEndsRow.holds Tryz.pinned (OpenSpec.ofChange sysEndsSpec)

/-- ITS FALSE NEIGHBOUR: 'it returns false'. Refute it at one input. -/
def sysEndsWrong : ChangeSpec := { name := "sysEnds", fn := fun _ => fun
  | [d1, d2, d3] => { results := [.lit (.bool false)], args := [d1, d2, d3] }
  | _ => none }
def SysEndsWrongFalsely : Prop := sysEndsRow.holds Tryz.pinned (OpenSpec.ofChange sysEndsWrong)

/-- 'seisinlaw31.SysValues': WHATEVER THE INPUT: true; the input reads as it did. -/
def sysValuesSpec : ChangeSpec := { name := "sysValues", fn := fun _ => fun
  | [d1, d2, d3] => { results := [.lit (.bool true)], args := [d1, d2, d3] }
  | _ => none }
def sysValuesRow : OpenClaim := { program := "ytfkegfjggibdhaagreatdoor", sum := "edafd40808b2dbf22534af526726e3bd6fa235e14a7611c52a345990de44b1af", func := "seisin/seisinlaw31.SysValues", spec := "sysValues", inPlace := ["internal/bytealg.IndexByteString", "internal/bytealg.IndexString"], unfollowed := true, recurses := true, named := ["seisin/check.needs", "seisin/geo.bounds", "seisin/msg.classes", "math/bits.deBruijn64tab", "seisin/spec.keywords", "unicode/utf8.first", "unicode/utf8.acceptRanges", "internal/bytealg.MaxLen"], loops := true, plainKeys := false, apart := false, laid := [("math/bits.deBruijn64tab", laid_math_bits_deBruijn64tab), ("unicode/utf8.acceptRanges", laid_unicode_utf8_acceptRanges), ("seisin/geo.bounds", laid_seisin_geo_bounds), ("seisin/check.needs", laid_seisin_check_needs), ("seisin/msg.classes", laid_seisin_msg_classes), ("seisin/spec.keywords", laid_seisin_spec_keywords), ("unicode/utf8.first", laid_unicode_utf8_first)] }
def SysValuesSaid : Prop := sysValuesRow.holds Tryz.pinned (OpenSpec.ofChange sysValuesSpec)

/-- ITS FALSE NEIGHBOUR: 'it returns false'. Refute it at one input. -/
def sysValuesWrong : ChangeSpec := { name := "sysValues", fn := fun _ => fun
  | [d1, d2, d3] => { results := [.lit (.bool false)], args := [d1, d2, d3] }
  | _ => none }
def SysValuesWrongFalsely : Prop := sysValuesRow.holds Tryz.pinned (OpenSpec.ofChange sysValuesWrong)

/- THE SECOND FORM. 'bulk': how many values and letters a reading holds, each counted each time it is reached (what is shared counts as often as it is met; a slice's spare places count too). A statement '..UptoSaid' is the law's where the arguments, and the package variables that the reading takes, are together of bulk at most 1048576: NARROWER than '..Said'. Prove '..Said' where nothing that the law and all that it calls make is longer than what came in: it says more and counts as full. Else prove '..UptoSaid'. A law counts once. -/
mutual
def uptoBulk {H : Type} : DataW H → Nat
  | .lit (.string bytes) => bytes.length + 1
  | .lit _ => 1
  | .nil => 1
  | .ptr d => uptoBulk d + 1
  | .slice elems spare => uptoBulkAll elems + uptoBulkAll spare + 1
  | .agg parts => uptoBulkAll parts + 1
  | .iface _ d => uptoBulk d + 1
  | .map entries => uptoBulkEntries entries + 1
  | .held _ => 1
def uptoBulkAll {H : Type} : List (DataW H) → Nat
  | [] => 0
  | d :: r => uptoBulk d + uptoBulkAll r
def uptoBulkEntries {H : Type} : List (Lit × DataW H) → Nat
  | [] => 0
  | x :: r => uptoBulkEntry x + uptoBulkEntries r
def uptoBulkEntry {H : Type} : Lit × DataW H → Nat
  | (.string bytes, d) => bytes.length + uptoBulk d + 1
  | (_, d) => uptoBulk d + 1
 end
def uptoSmall : (H : Type) → List (DataW H) → Bool := fun _ ds => decide (uptoBulkAll ds ≤ 1048576)
def OpenSpec.upto (s : _root_.Go.ChangeSpec) : _root_.Go.OpenSpec := { _root_.Go.OpenSpec.ofChange s with cond := some uptoSmall }

/-- 'seisinlaw31.SysRuns', WHERE WHAT IT READS IS OF BULK AT MOST 1048576: true; the input reads as it did. -/
def sysRunsUptoRow : OpenClaim := { program := "ytfkegfjggibdhaagreatdoor", sum := "edafd40808b2dbf22534af526726e3bd6fa235e14a7611c52a345990de44b1af", func := "seisin/seisinlaw31.SysRuns", spec := "sysRuns", inPlace := ["internal/bytealg.IndexByteString", "internal/bytealg.IndexString"], unfollowed := true, recurses := true, named := ["seisin/check.needs", "seisin/geo.bounds", "seisin/msg.classes", "math/bits.deBruijn64tab", "seisin/spec.keywords", "unicode/utf8.first", "unicode/utf8.acceptRanges", "internal/bytealg.MaxLen"], loops := true, plainKeys := false, apart := false, laid := [("math/bits.deBruijn64tab", laid_math_bits_deBruijn64tab), ("unicode/utf8.acceptRanges", laid_unicode_utf8_acceptRanges), ("seisin/geo.bounds", laid_seisin_geo_bounds), ("seisin/check.needs", laid_seisin_check_needs), ("seisin/msg.classes", laid_seisin_msg_classes), ("seisin/spec.keywords", laid_seisin_spec_keywords), ("unicode/utf8.first", laid_unicode_utf8_first)], narrowed := true }
def SysRunsUptoSaid : Prop := sysRunsUptoRow.holds Tryz.pinned (OpenSpec.upto sysRunsSpec)

/-- 'seisinlaw31.SysLocal', WHERE WHAT IT READS IS OF BULK AT MOST 1048576: true; the input reads as it did. -/
def sysLocalUptoRow : OpenClaim := { program := "ytfkegfjggibdhaagreatdoor", sum := "edafd40808b2dbf22534af526726e3bd6fa235e14a7611c52a345990de44b1af", func := "seisin/seisinlaw31.SysLocal", spec := "sysLocal", inPlace := ["internal/bytealg.IndexByteString", "internal/bytealg.IndexString"], unfollowed := true, recurses := true, named := ["seisin/check.needs", "seisin/geo.bounds", "seisin/msg.classes", "math/bits.deBruijn64tab", "seisin/spec.keywords", "unicode/utf8.first", "unicode/utf8.acceptRanges", "internal/bytealg.MaxLen"], loops := true, plainKeys := false, apart := false, laid := [("math/bits.deBruijn64tab", laid_math_bits_deBruijn64tab), ("unicode/utf8.acceptRanges", laid_unicode_utf8_acceptRanges), ("seisin/geo.bounds", laid_seisin_geo_bounds), ("seisin/check.needs", laid_seisin_check_needs), ("seisin/msg.classes", laid_seisin_msg_classes), ("seisin/spec.keywords", laid_seisin_spec_keywords), ("unicode/utf8.first", laid_unicode_utf8_first)], narrowed := true }
def SysLocalUptoSaid : Prop := sysLocalUptoRow.holds Tryz.pinned (OpenSpec.upto sysLocalSpec)

/-- 'seisinlaw31.SysEvicts', WHERE WHAT IT READS IS OF BULK AT MOST 1048576: true; the input reads as it did. -/
def sysEvictsUptoRow : OpenClaim := { program := "ytfkegfjggibdhaagreatdoor", sum := "edafd40808b2dbf22534af526726e3bd6fa235e14a7611c52a345990de44b1af", func := "seisin/seisinlaw31.SysEvicts", spec := "sysEvicts", inPlace := ["internal/bytealg.IndexByteString", "internal/bytealg.IndexString"], unfollowed := true, recurses := true, named := ["seisin/check.needs", "seisin/geo.bounds", "seisin/msg.classes", "math/bits.deBruijn64tab", "seisin/spec.keywords", "unicode/utf8.first", "unicode/utf8.acceptRanges", "internal/bytealg.MaxLen"], loops := true, plainKeys := false, apart := false, laid := [("math/bits.deBruijn64tab", laid_math_bits_deBruijn64tab), ("unicode/utf8.acceptRanges", laid_unicode_utf8_acceptRanges), ("seisin/geo.bounds", laid_seisin_geo_bounds), ("seisin/check.needs", laid_seisin_check_needs), ("seisin/msg.classes", laid_seisin_msg_classes), ("seisin/spec.keywords", laid_seisin_spec_keywords), ("unicode/utf8.first", laid_unicode_utf8_first)], narrowed := true }
def SysEvictsUptoSaid : Prop := sysEvictsUptoRow.holds Tryz.pinned (OpenSpec.upto sysEvictsSpec)

/-- 'seisinlaw31.SysEnds', WHERE WHAT IT READS IS OF BULK AT MOST 1048576: true; the input reads as it did. -/
def sysEndsUptoRow : OpenClaim := { program := "ytfkegfjggibdhaagreatdoor", sum := "edafd40808b2dbf22534af526726e3bd6fa235e14a7611c52a345990de44b1af", func := "seisin/seisinlaw31.SysEnds", spec := "sysEnds", inPlace := ["internal/bytealg.IndexByteString", "internal/bytealg.IndexString"], unfollowed := true, recurses := true, named := ["seisin/check.needs", "seisin/geo.bounds", "seisin/msg.classes", "math/bits.deBruijn64tab", "seisin/spec.keywords", "unicode/utf8.first", "unicode/utf8.acceptRanges", "internal/bytealg.MaxLen"], loops := true, plainKeys := false, apart := false, laid := [("math/bits.deBruijn64tab", laid_math_bits_deBruijn64tab), ("unicode/utf8.acceptRanges", laid_unicode_utf8_acceptRanges), ("seisin/geo.bounds", laid_seisin_geo_bounds), ("seisin/check.needs", laid_seisin_check_needs), ("seisin/msg.classes", laid_seisin_msg_classes), ("seisin/spec.keywords", laid_seisin_spec_keywords), ("unicode/utf8.first", laid_unicode_utf8_first)], narrowed := true }
def SysEndsUptoSaid : Prop := sysEndsUptoRow.holds Tryz.pinned (OpenSpec.upto sysEndsSpec)

/-- 'seisinlaw31.SysValues', WHERE WHAT IT READS IS OF BULK AT MOST 1048576: true; the input reads as it did. -/
def sysValuesUptoRow : OpenClaim := { program := "ytfkegfjggibdhaagreatdoor", sum := "edafd40808b2dbf22534af526726e3bd6fa235e14a7611c52a345990de44b1af", func := "seisin/seisinlaw31.SysValues", spec := "sysValues", inPlace := ["internal/bytealg.IndexByteString", "internal/bytealg.IndexString"], unfollowed := true, recurses := true, named := ["seisin/check.needs", "seisin/geo.bounds", "seisin/msg.classes", "math/bits.deBruijn64tab", "seisin/spec.keywords", "unicode/utf8.first", "unicode/utf8.acceptRanges", "internal/bytealg.MaxLen"], loops := true, plainKeys := false, apart := false, laid := [("math/bits.deBruijn64tab", laid_math_bits_deBruijn64tab), ("unicode/utf8.acceptRanges", laid_unicode_utf8_acceptRanges), ("seisin/geo.bounds", laid_seisin_geo_bounds), ("seisin/check.needs", laid_seisin_check_needs), ("seisin/msg.classes", laid_seisin_msg_classes), ("seisin/spec.keywords", laid_seisin_spec_keywords), ("unicode/utf8.first", laid_unicode_utf8_first)], narrowed := true }
def SysValuesUptoSaid : Prop := sysValuesUptoRow.holds Tryz.pinned (OpenSpec.upto sysValuesSpec)

end Rows
end Go.Proofs.YtfkegfjggibdhaaGreatDoor
