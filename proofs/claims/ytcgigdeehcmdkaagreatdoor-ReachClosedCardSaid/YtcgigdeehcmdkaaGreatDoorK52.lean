/-
  The law ReachClosed, parts of its tied card: the first of States is the initial state; no two of them are identified; each step that succeeds in one of them leads to one of them; each other one is such a successor of an earlier one. Conditions: the row's own.
-/
import Derived.Test.YtcgigdeehcmdkaaGreatDoorCards
import Derived.Test.YtcgigdeehcmdkaaGreatDoorTie
import Derived.Lay
set_option linter.all false
namespace Go.Proofs.YtcgigdeehcmdkaaGreatDoor.reachClosed
open Go Go.Proofs.YtcgigdeehcmdkaaGreatDoor
theorem plain(f:FuncId)(fn:Func)(hf:Tryz.pinned.checked.prog.funcNamed "seisin/seisinlaw33.ReachClosed"=some f)(hfn:Tryz.pinned.checked.prog.funcs[f]?=some fn):false=Tryz.pinned.checked.prog.looks []/\∀(j:Nat) t,fn.params[j]?=some t->Tryz.pinned.checked.prog.wantsStandIn t=false:=by obtain rfl:f=6:=Option.some.inj ((show Tryz.prog.funcNamed "seisin/seisinlaw33.ReachClosed"=some 6 by kernel_rfl).symm.trans hf)|>.symm;obtain rfl:fn=Tryz.f6:=(Option.some.inj (Tryz.func6.symm.trans hfn)).symm;refine⟨by kernel_rfl,fun j t ht=>?_⟩;(have hall:(Tryz.f6.params.toList).all (fun t=>!Tryz.prog.wantsStandIn t)=true:=by kernel_rfl);have:=List.all_eq_true.1 hall t (Array.mem_toList_iff.2 (Array.mem_of_getElem? ht));exact(by simpa using this:Tryz.prog.wantsStandIn t=false)
theorem c1:Rows.reachClosedRow.wfByText (OpenSpec.ofChange Rows.reachClosedSpec)=true:=by kernel_rfl
theorem c2:Tryz.pinned.checked.prog.mainIs=some (Rows.reachClosedCard.stood.harness.1,Rows.reachClosedCard.stood.harness.2.toList):=by kernel_rfl
theorem c3:false=Rows.reachClosedRow.goesBy Tryz.pinned.checked.prog:=by kernel_rfl
