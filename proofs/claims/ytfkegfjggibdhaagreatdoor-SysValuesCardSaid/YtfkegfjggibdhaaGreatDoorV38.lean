/- book.Make 2: the words of its lines. -/
import Derived.Test.YtfkegfjggibdhaaGreatDoorV35
import Derived.Test.YtfkegfjggibdhaaGreatDoorV21
set_option linter.all false
namespace Go.Proofs.YtfkegfjggibdhaaGreatDoor.Ev
open Go Go.RowKit
set_option maxRecDepth 1000000
theorem aJt:∀p∈(jY 2).take 26,EvQ CL1 156 p.1 p.2:=pY (by kernel_rfl)
theorem aQd:∀p∈(jY 2).drop 26,EvQ CL1 156 p.1 p.2:=pY (by kernel_rfl)
theorem aXQ:∀p∈jY 2,EvQ CL1 156 p.1 p.2:=fun p hp=>by rw[<-List.take_append_drop 26 (jY 2),cu]at hp;exact hp.elim (aJt p) (aQd p)
noncomputable def XP2:FuncId->List A->Option A:=orT 156 (jY 2) YD
theorem aND:QOk Cx.T Tryz.prog XP2:=O8 vA aXQ G8
