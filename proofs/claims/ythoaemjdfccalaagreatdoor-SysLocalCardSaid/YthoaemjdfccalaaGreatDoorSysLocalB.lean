/-
  The law SysLocal, parts of its tied card: a step changes only the core and the cache of its node, or the receiver of the delivered message and that core; steps of cores and drains neither send nor perform anything. Conditions: the row's own.
-/
import Derived.Test.YthoaemjdfccalaaGreatDoorCards
import Derived.Test.YthoaemjdfccalaaGreatDoorTie
import Derived.Lay
set_option linter.unusedSimpArgs false
set_option linter.unusedVariables false
namespace Go.Proofs.YthoaemjdfccalaaGreatDoor.sysLocal
open Go Go.Proofs.YthoaemjdfccalaaGreatDoor
theorem plain (f : FuncId) (fn : Func) (hf : Tryz.pinned.checked.prog.funcNamed "seisin/seisinlaw31.SysLocal" = some f) (hfn : Tryz.pinned.checked.prog.funcs[f]? = some fn) :
    false = Tryz.pinned.checked.prog.looks [] ∧ ∀ (j : Nat) t, fn.params[j]? = some t → Tryz.pinned.checked.prog.wantsStandIn t = false := by
  obtain rfl : f = 4 := Option.some.inj ((show Tryz.prog.funcNamed "seisin/seisinlaw31.SysLocal" = some 4 by kernel_rfl).symm.trans hf) |>.symm
  obtain rfl : fn = Tryz.f4 := (Option.some.inj (Tryz.func4.symm.trans hfn)).symm
  refine ⟨by kernel_rfl, fun j t ht => ?_⟩
  have hall : (Tryz.f4.params.toList).all (fun t => !Tryz.prog.wantsStandIn t) = true := by kernel_rfl
  have := List.all_eq_true.1 hall t (Array.mem_toList_iff.2 (Array.mem_of_getElem? ht))
  exact (by simpa using this : Tryz.prog.wantsStandIn t = false)

theorem c1 : Rows.sysLocalRow.wfByText (OpenSpec.ofChange Rows.sysLocalSpec) = true := by kernel_rfl
theorem c2 : Tryz.pinned.checked.prog.mainIs = some (Rows.sysLocalCard.stood.harness.1, Rows.sysLocalCard.stood.harness.2.toList) := by kernel_rfl
theorem c3 : false = Rows.sysLocalRow.goesBy Tryz.pinned.checked.prog := by kernel_rfl
end Go.Proofs.YthoaemjdfccalaaGreatDoor.sysLocal
