/- Sizes of strings. -/
import Derived.Test.YtfkegfjggibdhaaGreatDoorN10
set_option linter.all false
namespace Go.Proofs.YtfkegfjggibdhaaGreatDoor.Ev
open Go Go.RowKit
set_option maxRecDepth 100000
theorem aLD:IntKind.i64.max=9223372036854775807:=rfl
theorem aXI(l:Array UInt8):(ByteArray.mk l).size=l.size:=rfl
theorem aNa(l:List UInt8):(Array.mk l).size=l.length:=rfl
attribute [go_sem] aLD aXI aNa ByteArray.size_append io
