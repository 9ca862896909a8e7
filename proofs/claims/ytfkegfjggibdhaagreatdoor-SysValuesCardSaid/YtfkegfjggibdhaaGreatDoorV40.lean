/- book.Make 3: the words of its lines. -/
import Derived.Test.YtfkegfjggibdhaaGreatDoorV35
import Derived.Test.YtfkegfjggibdhaaGreatDoorV21
set_option linter.all false
namespace Go.Proofs.YtfkegfjggibdhaaGreatDoor.Ev
open Go Go.RowKit
set_option maxRecDepth 1000000
theorem aI4:∀p∈(jY 3).take 26,EvQ CL1 156 p.1 p.2:=pY (by kernel_rfl)
theorem aJR:∀p∈(jY 3).drop 26,EvQ CL1 156 p.1 p.2:=pY (by kernel_rfl)
theorem aXk:∀p∈jY 3,EvQ CL1 156 p.1 p.2:=fun p hp=>by rw[<-List.take_append_drop 26 (jY 3),cu]at hp;exact hp.elim (aI4 p) (aJR p)
noncomputable def XP3:FuncId->List A->Option A:=orT 156 (jY 3) YD
theorem aL8:QOk Cx.T Tryz.prog XP3:=O8 vA aXk G8
