/- Sizes of strings. -/
import Derived.Test.YtcgigdeehcmdkaaGreatDoorL11
set_option linter.all false
namespace Go.Proofs.YtcgigdeehcmdkaaGreatDoor.Ev
open Go Go.RowKit
set_option maxRecDepth 100000
theorem aOi:IntKind.i64.max=9223372036854775807:=rfl
theorem aWt(l:Array UInt8):(ByteArray.mk l).size=l.size:=rfl
theorem aMW(l:List UInt8):(Array.mk l).size=l.length:=rfl
attribute [go_sem] aOi aWt aMW ByteArray.size_append if_false
