/- book.Make 1: its text read. -/
import Derived.Test.YthoaemjdfccalaaGreatDoorJ37
set_option linter.all false
namespace Go.Proofs.YthoaemjdfccalaaGreatDoor.Ev
open Go Go.RowKit
set_option maxRecDepth 1000000
theorem aQv:EvQ (CT XP1) 54 [Sv (VO 1)] (.tup [.agg ((oF 1).map .v),I64 0,I64 0]):=CD (by kernel_rfl)
