/- book.Make 2: the words of its lines. -/
import Derived.Test.YthoaemjdfccalaaGreatDoorJ36
import Derived.Test.YthoaemjdfccalaaGreatDoorJ23
set_option linter.all false
namespace Go.Proofs.YthoaemjdfccalaaGreatDoor.Ev
open Go Go.RowKit
set_option maxRecDepth 1000000
theorem aK4:∀p∈(jV 2).take 26,EvQ CL1 156 p.1 p.2:=pF (by kernel_rfl)
theorem aO5:∀p∈(jV 2).drop 26,EvQ CL1 156 p.1 p.2:=pF (by kernel_rfl)
theorem aTV:∀p∈jV 2,EvQ CL1 156 p.1 p.2:=fun p hp=>by rw[<-List.take_append_drop 26 (jV 2),List.mem_append]at hp;exact hp.elim (aK4 p) (aO5 p)
noncomputable def XP2:FuncId->List A->Option A:=orT 156 (jV 2) aC6
theorem aNx:QOk Cx.T Tryz.prog XP2:=NB vB aTV ER
