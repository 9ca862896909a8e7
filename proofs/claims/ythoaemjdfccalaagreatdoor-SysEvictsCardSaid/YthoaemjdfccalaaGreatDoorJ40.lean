/- book.Make 2: its text read. -/
import Derived.Test.YthoaemjdfccalaaGreatDoorJ39
set_option linter.all false
namespace Go.Proofs.YthoaemjdfccalaaGreatDoor.Ev
open Go Go.RowKit
set_option maxRecDepth 1000000
theorem aME:EvQ (CT XP2) 54 [Sv (VO 2)] (.tup [.agg ((oF 2).map .v),I64 0,I64 0]):=CD (by kernel_rfl)
