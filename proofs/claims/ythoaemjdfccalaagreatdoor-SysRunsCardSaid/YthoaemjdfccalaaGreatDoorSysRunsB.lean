/-
  The law SysRuns, parts of its tied card: with any of the three built-in protocols, every step that Steps gives along any path from the first state succeeds, and the state after it fits the world. Conditions: the row's own.
-/
import Derived.Test.YthoaemjdfccalaaGreatDoorCards
import Derived.Test.YthoaemjdfccalaaGreatDoorTie
import Derived.Lay
set_option linter.unusedSimpArgs false
set_option linter.unusedVariables false
namespace Go.Proofs.YthoaemjdfccalaaGreatDoor.sysRuns
open Go Go.Proofs.YthoaemjdfccalaaGreatDoor
theorem plain (f : FuncId) (fn : Func) (hf : Tryz.pinned.checked.prog.funcNamed "seisin/seisinlaw31.SysRuns" = some f) (hfn : Tryz.pinned.checked.prog.funcs[f]? = some fn) :
    false = Tryz.pinned.checked.prog.looks [] ∧ ∀ (j : Nat) t, fn.params[j]? = some t → Tryz.pinned.checked.prog.wantsStandIn t = false := by
  obtain rfl : f = 3 := Option.some.inj ((show Tryz.prog.funcNamed "seisin/seisinlaw31.SysRuns" = some 3 by kernel_rfl).symm.trans hf) |>.symm
  obtain rfl : fn = Tryz.f3 := (Option.some.inj (Tryz.func3.symm.trans hfn)).symm
  refine ⟨by kernel_rfl, fun j t ht => ?_⟩
  have hall : (Tryz.f3.params.toList).all (fun t => !Tryz.prog.wantsStandIn t) = true := by kernel_rfl
  have := List.all_eq_true.1 hall t (Array.mem_toList_iff.2 (Array.mem_of_getElem? ht))
  exact (by simpa using this : Tryz.prog.wantsStandIn t = false)

theorem c1 : Rows.sysRunsRow.wfByText (OpenSpec.ofChange Rows.sysRunsSpec) = true := by kernel_rfl
theorem c2 : Tryz.pinned.checked.prog.mainIs = some (Rows.sysRunsCard.stood.harness.1, Rows.sysRunsCard.stood.harness.2.toList) := by kernel_rfl
theorem c3 : false = Rows.sysRunsRow.goesBy Tryz.pinned.checked.prog := by kernel_rfl
end Go.Proofs.YthoaemjdfccalaaGreatDoor.sysRuns
