/-
  The law SysEvicts, parts of its tied card: without evictions there are no eviction steps; with them there is one for each line that a cache holds in a stable state, and for no other line. Conditions: the row's own.
-/
import Derived.Test.YthoaemjdfccalaaGreatDoorCards
import Derived.Test.YthoaemjdfccalaaGreatDoorTie
import Derived.Lay
set_option linter.unusedSimpArgs false
set_option linter.unusedVariables false
namespace Go.Proofs.YthoaemjdfccalaaGreatDoor.sysEvicts
open Go Go.Proofs.YthoaemjdfccalaaGreatDoor
theorem plain (f : FuncId) (fn : Func) (hf : Tryz.pinned.checked.prog.funcNamed "seisin/seisinlaw31.SysEvicts" = some f) (hfn : Tryz.pinned.checked.prog.funcs[f]? = some fn) :
    false = Tryz.pinned.checked.prog.looks [] ∧ ∀ (j : Nat) t, fn.params[j]? = some t → Tryz.pinned.checked.prog.wantsStandIn t = false := by
  obtain rfl : f = 5 := Option.some.inj ((show Tryz.prog.funcNamed "seisin/seisinlaw31.SysEvicts" = some 5 by kernel_rfl).symm.trans hf) |>.symm
  obtain rfl : fn = Tryz.f5 := (Option.some.inj (Tryz.func5.symm.trans hfn)).symm
  refine ⟨by kernel_rfl, fun j t ht => ?_⟩
  have hall : (Tryz.f5.params.toList).all (fun t => !Tryz.prog.wantsStandIn t) = true := by kernel_rfl
  have := List.all_eq_true.1 hall t (Array.mem_toList_iff.2 (Array.mem_of_getElem? ht))
  exact (by simpa using this : Tryz.prog.wantsStandIn t = false)

theorem c1 : Rows.sysEvictsRow.wfByText (OpenSpec.ofChange Rows.sysEvictsSpec) = true := by kernel_rfl
theorem c2 : Tryz.pinned.checked.prog.mainIs = some (Rows.sysEvictsCard.stood.harness.1, Rows.sysEvictsCard.stood.harness.2.toList) := by kernel_rfl
theorem c3 : false = Rows.sysEvictsRow.goesBy Tryz.pinned.checked.prog := by kernel_rfl
end Go.Proofs.YthoaemjdfccalaaGreatDoor.sysEvicts
