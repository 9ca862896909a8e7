/- Sizes of strings. -/
import Derived.Test.YthoaemjdfccalaaGreatDoorJ08
set_option linter.all false
namespace Go.Proofs.YthoaemjdfccalaaGreatDoor.Ev
open Go Go.RowKit
set_option maxRecDepth 100000
theorem aMn:IntKind.i64.max=9223372036854775807:=rfl
theorem aVS(l:Array UInt8):(ByteArray.mk l).size=l.size:=rfl
theorem aQq(l:List UInt8):(Array.mk l).size=l.length:=rfl
attribute [go_sem] aMn aVS aQq ByteArray.size_append if_false
