/-
  No cell of these rows narrows 'for every input' (looked for: loops, veiled, ifaces, maps, wideKeys, modest, calm, conditions, laid).
  DERIVED. THE GIVEN ROWS OF THIS SEAT. 5 by the template 'for every input the law returns true; each argument reads behind the call as it read before'; 0 by the template 'total and deterministic' (their statements: YtkpolehpdgnliaaTotals.lean).
  GIVEN WITH THE SEED: the statements are not yours to turn. If you find one false, say at which input.
  Laid BY PROGRAM, IN A SANDBOX (cutbox-rows.mjs): the forced cells as the released guide's own fill.sh prints them over the translation a63c5174f1e938bf… (all of the seat's roots in one cut). By AI agents, Wed Nov 11 2026. No macro, syntax, notation, axiom, sorry.
-/
import Derived.Test.YtkpolehpdgnliaaChecked
import GoSem.Claim
import GoSem.ClaimJoined
import GoSem.ClaimMapViews
import Derived.JoinedTies
import Derived.KernelRfl
namespace Go.Proofs.Ytkpolehpdgnliaa
/- THE CELL 'sum', in the pinned program and in every row, IS THE sha256 OF THE DUMP (.gsa) THAT YtkpolehpdgnliaaProg.lean LOADS. Nothing in Lean hashes anything: it is a label: what it is worth is what the hold of that sum in a sandbox is worth. -/
noncomputable def Try.pinned : Pinned := { name := "ytkpolehpdgnliaa", sum := "a63c5174f1e938bf56055dc3623ade96600adc1f4cde4c56c7ba633e0322b139", checked := Try.checked }
namespace Rows
def none {H : Type} : Left H := { results := [], args := [] }

/-- 'seisinlaw30.CoreCalcs': WHATEVER THE INPUT: true; the input reads as it did. -/
def coreCalcsSpec : ChangeSpec := { name := "coreCalcs", fn := fun _ => fun
  | [d1, d2, d3, d4, d5] => { results := [.lit (.bool true)], args := [d1, d2, d3, d4, d5] }
  | _ => none }
def coreCalcsRow : OpenClaim := { program := "ytkpolehpdgnliaa", sum := "a63c5174f1e938bf56055dc3623ade96600adc1f4cde4c56c7ba633e0322b139", func := "seisin/seisinlaw30.CoreCalcs", spec := "coreCalcs", unfollowed := true, recurses := true, apart := false }
def CoreCalcsSaid : Prop := coreCalcsRow.holds Try.pinned (OpenSpec.ofChange coreCalcsSpec)

/-- ITS FALSE NEIGHBOUR: 'it returns false'. Refute it at one input. -/
def coreCalcsWrong : ChangeSpec := { name := "coreCalcs", fn := fun _ => fun
  | [d1, d2, d3, d4, d5] => { results := [.lit (.bool false)], args := [d1, d2, d3, d4, d5] }
  | _ => none }
def CoreCalcsWrongFalsely : Prop := coreCalcsRow.holds Try.pinned (OpenSpec.ofChange coreCalcsWrong)

/-- 'seisinlaw30.CoreStuck': WHATEVER THE INPUT: true; the input reads as it did. -/
def coreStuckSpec : ChangeSpec := { name := "coreStuck", fn := fun _ => fun
  | [d1, d2, d3] => { results := [.lit (.bool true)], args := [d1, d2, d3] }
  | _ => none }
def coreStuckRow : OpenClaim := { program := "ytkpolehpdgnliaa", sum := "a63c5174f1e938bf56055dc3623ade96600adc1f4cde4c56c7ba633e0322b139", func := "seisin/seisinlaw30.CoreStuck", spec := "coreStuck", unfollowed := true, recurses := true, apart := false }
def CoreStuckSaid : Prop := coreStuckRow.holds Try.pinned (OpenSpec.ofChange coreStuckSpec)

/-- ITS FALSE NEIGHBOUR: 'it returns false'. Refute it at one input. -/
def coreStuckWrong : ChangeSpec := { name := "coreStuck", fn := fun _ => fun
  | [d1, d2, d3] => { results := [.lit (.bool false)], args := [d1, d2, d3] }
  | _ => none }
def CoreStuckWrongFalsely : Prop := coreStuckRow.holds Try.pinned (OpenSpec.ofChange coreStuckWrong)

/-- 'seisinlaw30.CoreAlone': WHATEVER THE INPUT: true; the input reads as it did. -/
def coreAloneSpec : ChangeSpec := { name := "coreAlone", fn := fun _ => fun
  | [d1, d2, d3, d4] => { results := [.lit (.bool true)], args := [d1, d2, d3, d4] }
  | _ => none }
def coreAloneRow : OpenClaim := { program := "ytkpolehpdgnliaa", sum := "a63c5174f1e938bf56055dc3623ade96600adc1f4cde4c56c7ba633e0322b139", func := "seisin/seisinlaw30.CoreAlone", spec := "coreAlone", unfollowed := true, recurses := true, apart := false }
def CoreAloneSaid : Prop := coreAloneRow.holds Try.pinned (OpenSpec.ofChange coreAloneSpec)

/-- ITS FALSE NEIGHBOUR: 'it returns false'. Refute it at one input. -/
def coreAloneWrong : ChangeSpec := { name := "coreAlone", fn := fun _ => fun
  | [d1, d2, d3, d4] => { results := [.lit (.bool false)], args := [d1, d2, d3, d4] }
  | _ => none }
def CoreAloneWrongFalsely : Prop := coreAloneRow.holds Try.pinned (OpenSpec.ofChange coreAloneWrong)

/-- 'seisinlaw30.CoreOrder': WHATEVER THE INPUT: true; the input reads as it did. -/
def coreOrderSpec : ChangeSpec := { name := "coreOrder", fn := fun _ => fun
  | [d1, d2, d3] => { results := [.lit (.bool true)], args := [d1, d2, d3] }
  | _ => none }
def coreOrderRow : OpenClaim := { program := "ytkpolehpdgnliaa", sum := "a63c5174f1e938bf56055dc3623ade96600adc1f4cde4c56c7ba633e0322b139", func := "seisin/seisinlaw30.CoreOrder", spec := "coreOrder", unfollowed := true, recurses := true, apart := false }
def CoreOrderSaid : Prop := coreOrderRow.holds Try.pinned (OpenSpec.ofChange coreOrderSpec)

/-- ITS FALSE NEIGHBOUR: 'it returns false'. Refute it at one input. -/
def coreOrderWrong : ChangeSpec := { name := "coreOrder", fn := fun _ => fun
  | [d1, d2, d3] => { results := [.lit (.bool false)], args := [d1, d2, d3] }
  | _ => none }
def CoreOrderWrongFalsely : Prop := coreOrderRow.holds Try.pinned (OpenSpec.ofChange coreOrderWrong)

/-- 'seisinlaw30.CoreFences': WHATEVER THE INPUT: true; the input reads as it did. -/
def coreFencesSpec : ChangeSpec := { name := "coreFences", fn := fun _ => fun
  | [d1, d2, d3] => { results := [.lit (.bool true)], args := [d1, d2, d3] }
  | _ => none }
def coreFencesRow : OpenClaim := { program := "ytkpolehpdgnliaa", sum := "a63c5174f1e938bf56055dc3623ade96600adc1f4cde4c56c7ba633e0322b139", func := "seisin/seisinlaw30.CoreFences", spec := "coreFences", unfollowed := true, recurses := true, apart := false }
def CoreFencesSaid : Prop := coreFencesRow.holds Try.pinned (OpenSpec.ofChange coreFencesSpec)

/-- ITS FALSE NEIGHBOUR: 'it returns false'. Refute it at one input. -/
def coreFencesWrong : ChangeSpec := { name := "coreFences", fn := fun _ => fun
  | [d1, d2, d3] => { results := [.lit (.bool false)], args := [d1, d2, d3] }
  | _ => none }
def CoreFencesWrongFalsely : Prop := coreFencesRow.holds Try.pinned (OpenSpec.ofChange coreFencesWrong)

/- THE SECOND FORM. 'bulk': how many values and letters a reading holds, each counted each time it is reached (what is shared counts as often as it is met; a slice's spare places count too). A statement '..UptoSaid' is the law's where the arguments, and the package variables that the reading takes, are together of bulk at most 1048576: NARROWER than '..Said'. Prove '..Said' where nothing that the law and all that it calls make is longer than what came in: it says more and counts as full. Else prove '..UptoSaid'. A law counts once. -/
mutual
def uptoBulk {H : Type} : DataW H → Nat
  | .lit (.string bytes) => bytes.length + 1
  | .lit _ => 1
  | .nil => 1
  | .ptr d => uptoBulk d + 1
  | .slice elems spare => uptoBulkAll elems + uptoBulkAll spare + 1
  | .agg parts => uptoBulkAll parts + 1
  | .iface _ d => uptoBulk d + 1
  | .map entries => uptoBulkEntries entries + 1
  | .held _ => 1
def uptoBulkAll {H : Type} : List (DataW H) → Nat
  | [] => 0
  | d :: r => uptoBulk d + uptoBulkAll r
def uptoBulkEntries {H : Type} : List (Lit × DataW H) → Nat
  | [] => 0
  | x :: r => uptoBulkEntry x + uptoBulkEntries r
def uptoBulkEntry {H : Type} : Lit × DataW H → Nat
  | (.string bytes, d) => bytes.length + uptoBulk d + 1
  | (_, d) => uptoBulk d + 1
 end
def uptoSmall : (H : Type) → List (DataW H) → Bool := fun _ ds => decide (uptoBulkAll ds ≤ 1048576)
def OpenSpec.upto (s : _root_.Go.ChangeSpec) : _root_.Go.OpenSpec := { _root_.Go.OpenSpec.ofChange s with cond := some uptoSmall }

/-- 'seisinlaw30.CoreCalcs', WHERE WHAT IT READS IS OF BULK AT MOST 1048576: true; the input reads as it did. -/
def coreCalcsUptoRow : OpenClaim := { program := "ytkpolehpdgnliaa", sum := "a63c5174f1e938bf56055dc3623ade96600adc1f4cde4c56c7ba633e0322b139", func := "seisin/seisinlaw30.CoreCalcs", spec := "coreCalcs", unfollowed := true, recurses := true, apart := false, narrowed := true }
def CoreCalcsUptoSaid : Prop := coreCalcsUptoRow.holds Try.pinned (OpenSpec.upto coreCalcsSpec)

/-- 'seisinlaw30.CoreStuck', WHERE WHAT IT READS IS OF BULK AT MOST 1048576: true; the input reads as it did. -/
def coreStuckUptoRow : OpenClaim := { program := "ytkpolehpdgnliaa", sum := "a63c5174f1e938bf56055dc3623ade96600adc1f4cde4c56c7ba633e0322b139", func := "seisin/seisinlaw30.CoreStuck", spec := "coreStuck", unfollowed := true, recurses := true, apart := false, narrowed := true }
def CoreStuckUptoSaid : Prop := coreStuckUptoRow.holds Try.pinned (OpenSpec.upto coreStuckSpec)

/-- 'seisinlaw30.CoreAlone', WHERE WHAT IT READS IS OF BULK AT MOST 1048576: true; the input reads as it did. -/
def coreAloneUptoRow : OpenClaim := { program := "ytkpolehpdgnliaa", sum := "a63c5174f1e938bf56055dc3623ade96600adc1f4cde4c56c7ba633e0322b139", func := "seisin/seisinlaw30.CoreAlone", spec := "coreAlone", unfollowed := true, recurses := true, apart := false, narrowed := true }
def CoreAloneUptoSaid : Prop := coreAloneUptoRow.holds Try.pinned (OpenSpec.upto coreAloneSpec)

/-- 'seisinlaw30.CoreOrder', WHERE WHAT IT READS IS OF BULK AT MOST 1048576: true; the input reads as it did. -/
def coreOrderUptoRow : OpenClaim := { program := "ytkpolehpdgnliaa", sum := "a63c5174f1e938bf56055dc3623ade96600adc1f4cde4c56c7ba633e0322b139", func := "seisin/seisinlaw30.CoreOrder", spec := "coreOrder", unfollowed := true, recurses := true, apart := false, narrowed := true }
def CoreOrderUptoSaid : Prop := coreOrderUptoRow.holds Try.pinned (OpenSpec.upto coreOrderSpec)

/-- 'seisinlaw30.CoreFences', WHERE WHAT IT READS IS OF BULK AT MOST 1048576: true; the input reads as it did. -/
def coreFencesUptoRow : OpenClaim := { program := "ytkpolehpdgnliaa", sum := "a63c5174f1e938bf56055dc3623ade96600adc1f4cde4c56c7ba633e0322b139", func := "seisin/seisinlaw30.CoreFences", spec := "coreFences", unfollowed := true, recurses := true, apart := false, narrowed := true }
def CoreFencesUptoSaid : Prop := coreFencesUptoRow.holds Try.pinned (OpenSpec.upto coreFencesSpec)

end Rows
end Go.Proofs.Ytkpolehpdgnliaa
