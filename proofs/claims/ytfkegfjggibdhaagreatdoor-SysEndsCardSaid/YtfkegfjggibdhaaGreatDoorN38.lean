/- book.Make 2: the words of its lines. -/
import Derived.Test.YtfkegfjggibdhaaGreatDoorN35
import Derived.Test.YtfkegfjggibdhaaGreatDoorN23
set_option linter.all false
namespace Go.Proofs.YtfkegfjggibdhaaGreatDoor.Ev
open Go Go.RowKit
set_option maxRecDepth 1000000
theorem aMx:∀p∈(jM 2).take 26,EvQ CL1 156 p.1 p.2:=oX (by kernel_rfl)
theorem aOV:∀p∈(jM 2).drop 26,EvQ CL1 156 p.1 p.2:=oX (by kernel_rfl)
theorem aU7:∀p∈jM 2,EvQ CL1 156 p.1 p.2:=fun p hp=>by rw[<-List.take_append_drop 26 (jM 2),cv]at hp;exact hp.elim (aMx p) (aOV p)
noncomputable def XP2:FuncId->List A->Option A:=orT 156 (jM 2) aAt
theorem aKW:QOk Cx.T Tryz.prog XP2:=LX tU aU7 FH
