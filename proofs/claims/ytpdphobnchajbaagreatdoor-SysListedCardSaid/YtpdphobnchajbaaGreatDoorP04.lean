/- Nothing is known otherwise. -/
import Derived.Test.YtpdphobnchajbaaGreatDoorP03
set_option linter.unusedSimpArgs false
set_option linter.unusedVariables false
namespace Go.Proofs.YtpdphobnchajbaaGreatDoor.Ev
open Go Go.RowKit
def xLibs(_:FuncId)(_:List A):Option A:=none
theorem xLibs_ok{T:Tb}{P:Program}:QOk T P xLibs:=fun _ _ _ h=>by cases h
def xOut0(_:FuncId):Option (List A→Heap→Option (A×Heap)):=none
theorem xOut0_ok{T:Tb}{P:Program}:∀ f g as H x H',xOut0 f=some g→g as H=some (x,H')→FnOut T P f as H x H':=fun _ _ _ _ _ _ h=>by cases h
def ifs34(_:Nat):Bool:=false
end Go.Proofs.YtpdphobnchajbaaGreatDoor.Ev
