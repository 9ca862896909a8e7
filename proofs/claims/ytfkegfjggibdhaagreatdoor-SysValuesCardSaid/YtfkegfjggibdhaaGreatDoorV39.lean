/- book.Make 2: its text read. -/
import Derived.Test.YtfkegfjggibdhaaGreatDoorV38
set_option linter.all false
namespace Go.Proofs.YtfkegfjggibdhaaGreatDoor.Ev
open Go Go.RowKit
set_option maxRecDepth 1000000
theorem aL6:EvQ (CT XP2) 54 [Sv (U2 2)] (.tup [.agg ((oK 2).map .v),I64 0,I64 0]):=CG (by kernel_rfl)
