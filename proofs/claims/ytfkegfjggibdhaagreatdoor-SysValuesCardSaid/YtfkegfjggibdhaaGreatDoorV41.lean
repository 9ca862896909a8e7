/- book.Make 3: its text read. -/
import Derived.Test.YtfkegfjggibdhaaGreatDoorV40
set_option linter.all false
namespace Go.Proofs.YtfkegfjggibdhaaGreatDoor.Ev
open Go Go.RowKit
set_option maxRecDepth 1000000
theorem aKL:EvQ (CT XP3) 54 [Sv (U2 3)] (.tup [.agg ((oK 3).map .v),I64 0,I64 0]):=CG (by kernel_rfl)
