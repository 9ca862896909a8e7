/- book.Make 1: the words of its lines. -/
import Derived.Test.YtfkegfjggibdhaaGreatDoorV35
import Derived.Test.YtfkegfjggibdhaaGreatDoorV21
set_option linter.all false
namespace Go.Proofs.YtfkegfjggibdhaaGreatDoor.Ev
open Go Go.RowKit
set_option maxRecDepth 1000000
theorem aOc:∀p∈(jY 1).take 26,EvQ CL1 156 p.1 p.2:=pY (by kernel_rfl)
theorem aRY:∀p∈(jY 1).drop 26,EvQ CL1 156 p.1 p.2:=pY (by kernel_rfl)
theorem aXe:∀p∈jY 1,EvQ CL1 156 p.1 p.2:=fun p hp=>by rw[<-List.take_append_drop 26 (jY 1),cu]at hp;exact hp.elim (aOc p) (aRY p)
noncomputable def XP1:FuncId->List A->Option A:=orT 156 (jY 1) YD
theorem aMP:QOk Cx.T Tryz.prog XP1:=O8 vA aXe G8
