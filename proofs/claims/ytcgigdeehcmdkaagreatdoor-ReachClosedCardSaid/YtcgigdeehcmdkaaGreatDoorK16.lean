/- Sizes of strings. -/
import Derived.Test.YtcgigdeehcmdkaaGreatDoorK15
set_option linter.all false
namespace Go.Proofs.YtcgigdeehcmdkaaGreatDoor.Ev
open Go Go.RowKit
set_option maxRecDepth 100000
theorem aP1:IntKind.i64.max=9223372036854775807:=rfl
theorem aSI(l:Array UInt8):(ByteArray.mk l).size=l.size:=rfl
theorem aSe(l:List UInt8):(Array.mk l).size=l.length:=rfl
attribute [go_sem] aP1 aSI aSe ByteArray.size_append if_false
