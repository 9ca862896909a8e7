/- book.Make 3: its text read. -/
import Derived.Test.YthoaemjdfccalaaGreatDoorJ41
set_option linter.all false
namespace Go.Proofs.YthoaemjdfccalaaGreatDoor.Ev
open Go Go.RowKit
set_option maxRecDepth 1000000
theorem aNh:EvQ (CT XP3) 54 [Sv (VO 3)] (.tup [.agg ((oF 3).map .v),I64 0,I64 0]):=CD (by kernel_rfl)
