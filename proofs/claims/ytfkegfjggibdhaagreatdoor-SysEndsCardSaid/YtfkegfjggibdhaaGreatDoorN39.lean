/- book.Make 2: its text read. -/
import Derived.Test.YtfkegfjggibdhaaGreatDoorN38
set_option linter.all false
namespace Go.Proofs.YtfkegfjggibdhaaGreatDoor.Ev
open Go Go.RowKit
set_option maxRecDepth 1000000
theorem aKC:EvQ (CT XP2) 54 [Sv (VX 2)] (.tup [.agg ((oC 2).map .v),I64 0,I64 0]):=BU (by kernel_rfl)
