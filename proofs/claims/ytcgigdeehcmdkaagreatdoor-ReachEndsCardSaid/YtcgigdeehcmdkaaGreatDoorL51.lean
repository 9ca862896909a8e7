/-
  The law ReachEnds, parts of its tied card: Ends is true if and only if each reachable state is in the least set that contains the final states and every state with a step into the set. Conditions: the row's own.
-/
import Derived.Test.YtcgigdeehcmdkaaGreatDoorCards
import Derived.Test.YtcgigdeehcmdkaaGreatDoorTie
import Derived.Lay
set_option linter.all false
namespace Go.Proofs.YtcgigdeehcmdkaaGreatDoor.reachEnds
open Go Go.Proofs.YtcgigdeehcmdkaaGreatDoor
theorem plain(f:FuncId)(fn:Func)(hf:Tryz.pinned.checked.prog.funcNamed "seisin/seisinlaw33.ReachEnds"=some f)(hfn:Tryz.pinned.checked.prog.funcs[f]?=some fn):false=Tryz.pinned.checked.prog.looks []/\∀(j:Nat) t,fn.params[j]?=some t->Tryz.pinned.checked.prog.wantsStandIn t=false:=by obtain rfl:f=5:=Option.some.inj ((show Tryz.prog.funcNamed "seisin/seisinlaw33.ReachEnds"=some 5 by kernel_rfl).symm.trans hf)|>.symm;obtain rfl:fn=Tryz.f5:=(Option.some.inj (Tryz.func5.symm.trans hfn)).symm;refine⟨by kernel_rfl,fun j t ht=>?_⟩;(have hall:(Tryz.f5.params.toList).all (fun t=>!Tryz.prog.wantsStandIn t)=true:=by kernel_rfl);have:=List.all_eq_true.1 hall t (Array.mem_toList_iff.2 (Array.mem_of_getElem? ht));exact(by simpa using this:Tryz.prog.wantsStandIn t=false)
theorem c1:Rows.reachEndsRow.wfByText (OpenSpec.ofChange Rows.reachEndsSpec)=true:=by kernel_rfl
theorem c2:Tryz.pinned.checked.prog.mainIs=some (Rows.reachEndsCard.stood.harness.1,Rows.reachEndsCard.stood.harness.2.toList):=by kernel_rfl
theorem c3:false=Rows.reachEndsRow.goesBy Tryz.pinned.checked.prog:=by kernel_rfl
