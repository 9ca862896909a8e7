/-
  The law SysEnds, parts of its tied card: with any of the three built-in protocols, a state without steps is over and quiet, unless the network is ordered by pairs of nodes; and in a state that is over no core has a buffered store or waits. Conditions: the row's own.
-/
import Derived.Test.YtfkegfjggibdhaaGreatDoorCards
import Derived.Test.YtfkegfjggibdhaaGreatDoorTie
import Derived.Lay
set_option linter.unusedSimpArgs false
set_option linter.unusedVariables false
namespace Go.Proofs.YtfkegfjggibdhaaGreatDoor.sysEnds
open Go Go.Proofs.YtfkegfjggibdhaaGreatDoor
theorem plain (f : FuncId) (fn : Func) (hf : Tryz.pinned.checked.prog.funcNamed "seisin/seisinlaw31.SysEnds" = some f) (hfn : Tryz.pinned.checked.prog.funcs[f]? = some fn) :
    false = Tryz.pinned.checked.prog.looks [] ∧ ∀ (j : Nat) t, fn.params[j]? = some t → Tryz.pinned.checked.prog.wantsStandIn t = false := by
  obtain rfl : f = 6 := Option.some.inj ((show Tryz.prog.funcNamed "seisin/seisinlaw31.SysEnds" = some 6 by kernel_rfl).symm.trans hf) |>.symm
  obtain rfl : fn = Tryz.f6 := (Option.some.inj (Tryz.func6.symm.trans hfn)).symm
  refine ⟨by kernel_rfl, fun j t ht => ?_⟩
  have hall : (Tryz.f6.params.toList).all (fun t => !Tryz.prog.wantsStandIn t) = true := by kernel_rfl
  have := List.all_eq_true.1 hall t (Array.mem_toList_iff.2 (Array.mem_of_getElem? ht))
  exact (by simpa using this : Tryz.prog.wantsStandIn t = false)

theorem c1 : Rows.sysEndsRow.wfByText (OpenSpec.ofChange Rows.sysEndsSpec) = true := by kernel_rfl
theorem c2 : Tryz.pinned.checked.prog.mainIs = some (Rows.sysEndsCard.stood.harness.1, Rows.sysEndsCard.stood.harness.2.toList) := by kernel_rfl
theorem c3 : false = Rows.sysEndsRow.goesBy Tryz.pinned.checked.prog := by kernel_rfl
end Go.Proofs.YtfkegfjggibdhaaGreatDoor.sysEnds
