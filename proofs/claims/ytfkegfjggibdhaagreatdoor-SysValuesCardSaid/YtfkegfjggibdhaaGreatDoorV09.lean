/- Sizes of strings. -/
import Derived.Test.YtfkegfjggibdhaaGreatDoorV08
set_option linter.all false
namespace Go.Proofs.YtfkegfjggibdhaaGreatDoor.Ev
open Go Go.RowKit
set_option maxRecDepth 100000
theorem aOG:IntKind.i64.max=9223372036854775807:=rfl
theorem aXx(l:Array UInt8):(ByteArray.mk l).size=l.size:=rfl
theorem aPJ(l:List UInt8):(Array.mk l).size=l.length:=rfl
attribute [go_sem] aOG aXx aPJ ByteArray.size_append ig
