/- book.Make 1: its text read. -/
import Derived.Test.YtfkegfjggibdhaaGreatDoorN36
set_option linter.all false
namespace Go.Proofs.YtfkegfjggibdhaaGreatDoor.Ev
open Go Go.RowKit
set_option maxRecDepth 1000000
theorem aPt:EvQ (CT XP1) 54 [Sv (VX 1)] (.tup [.agg ((oC 1).map .v),I64 0,I64 0]):=BU (by kernel_rfl)
