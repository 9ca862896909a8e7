/- book.Make 3: the words of its lines. -/
import Derived.Test.YtfkegfjggibdhaaGreatDoorN35
import Derived.Test.YtfkegfjggibdhaaGreatDoorN23
set_option linter.all false
namespace Go.Proofs.YtfkegfjggibdhaaGreatDoor.Ev
open Go Go.RowKit
set_option maxRecDepth 1000000
theorem aNo:∀p∈(jM 3).take 26,EvQ CL1 156 p.1 p.2:=oX (by kernel_rfl)
theorem aNu:∀p∈(jM 3).drop 26,EvQ CL1 156 p.1 p.2:=oX (by kernel_rfl)
theorem aV1:∀p∈jM 3,EvQ CL1 156 p.1 p.2:=fun p hp=>by rw[<-List.take_append_drop 26 (jM 3),cv]at hp;exact hp.elim (aNo p) (aNu p)
noncomputable def XP3:FuncId->List A->Option A:=orT 156 (jM 3) aAt
theorem aMg:QOk Cx.T Tryz.prog XP3:=LX tU aV1 FH
