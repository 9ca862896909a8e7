/- book.Make 3: its text read. -/
import Derived.Test.YtfkegfjggibdhaaGreatDoorN40
set_option linter.all false
namespace Go.Proofs.YtfkegfjggibdhaaGreatDoor.Ev
open Go Go.RowKit
set_option maxRecDepth 1000000
theorem aJ4:EvQ (CT XP3) 54 [Sv (VX 3)] (.tup [.agg ((oC 3).map .v),I64 0,I64 0]):=BU (by kernel_rfl)
