/- book.Make 1: the words of its lines. -/
import Derived.Test.YthoaemjdfccalaaGreatDoorJ36
import Derived.Test.YthoaemjdfccalaaGreatDoorJ23
set_option linter.all false
namespace Go.Proofs.YthoaemjdfccalaaGreatDoor.Ev
open Go Go.RowKit
set_option maxRecDepth 1000000
theorem aNE:∀p∈(jV 1).take 26,EvQ CL1 156 p.1 p.2:=pF (by kernel_rfl)
theorem aQJ:∀p∈(jV 1).drop 26,EvQ CL1 156 p.1 p.2:=pF (by kernel_rfl)
theorem aWm:∀p∈jV 1,EvQ CL1 156 p.1 p.2:=fun p hp=>by rw[<-List.take_append_drop 26 (jV 1),List.mem_append]at hp;exact hp.elim (aNE p) (aQJ p)
noncomputable def XP1:FuncId->List A->Option A:=orT 156 (jV 1) aC6
theorem aQx:QOk Cx.T Tryz.prog XP1:=NB vB aWm ER
