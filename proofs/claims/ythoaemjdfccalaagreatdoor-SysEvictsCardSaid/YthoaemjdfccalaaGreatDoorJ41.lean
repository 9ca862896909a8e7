/- book.Make 3: the words of its lines. -/
import Derived.Test.YthoaemjdfccalaaGreatDoorJ36
import Derived.Test.YthoaemjdfccalaaGreatDoorJ23
set_option linter.all false
namespace Go.Proofs.YthoaemjdfccalaaGreatDoor.Ev
open Go Go.RowKit
set_option maxRecDepth 1000000
theorem aNj:∀p∈(jV 3).take 26,EvQ CL1 156 p.1 p.2:=pF (by kernel_rfl)
theorem aPh:∀p∈(jV 3).drop 26,EvQ CL1 156 p.1 p.2:=pF (by kernel_rfl)
theorem aVc:∀p∈jV 3,EvQ CL1 156 p.1 p.2:=fun p hp=>by rw[<-List.take_append_drop 26 (jV 3),List.mem_append]at hp;exact hp.elim (aNj p) (aPh p)
noncomputable def XP3:FuncId->List A->Option A:=orT 156 (jV 3) aC6
theorem aKJ:QOk Cx.T Tryz.prog XP3:=NB vB aVc ER
