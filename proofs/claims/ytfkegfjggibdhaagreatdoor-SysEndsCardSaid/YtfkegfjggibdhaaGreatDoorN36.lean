/- book.Make 1: the words of its lines. -/
import Derived.Test.YtfkegfjggibdhaaGreatDoorN35
import Derived.Test.YtfkegfjggibdhaaGreatDoorN23
set_option linter.all false
namespace Go.Proofs.YtfkegfjggibdhaaGreatDoor.Ev
open Go Go.RowKit
set_option maxRecDepth 1000000
theorem aPO:∀p∈(jM 1).take 26,EvQ CL1 156 p.1 p.2:=oX (by kernel_rfl)
theorem aQY:∀p∈(jM 1).drop 26,EvQ CL1 156 p.1 p.2:=oX (by kernel_rfl)
theorem aWa:∀p∈jM 1,EvQ CL1 156 p.1 p.2:=fun p hp=>by rw[<-List.take_append_drop 26 (jM 1),cv]at hp;exact hp.elim (aPO p) (aQY p)
noncomputable def XP1:FuncId->List A->Option A:=orT 156 (jM 1) aAt
theorem aL7:QOk Cx.T Tryz.prog XP1:=LX tU aWa FH
