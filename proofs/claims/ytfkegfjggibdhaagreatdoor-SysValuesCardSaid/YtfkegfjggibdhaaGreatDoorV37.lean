/- book.Make 1: its text read. -/
import Derived.Test.YtfkegfjggibdhaaGreatDoorV36
set_option linter.all false
namespace Go.Proofs.YtfkegfjggibdhaaGreatDoor.Ev
open Go Go.RowKit
set_option maxRecDepth 1000000
theorem aPi:EvQ (CT XP1) 54 [Sv (U2 1)] (.tup [.agg ((oK 1).map .v),I64 0,I64 0]):=CG (by kernel_rfl)
