/- Nothing is known otherwise. -/
import Derived.Test.YtcgigdeehcmdkaaGreatDoorK06
set_option linter.all false
namespace Go.Proofs.YtcgigdeehcmdkaaGreatDoor.Ev
open Go Go.RowKit
def VZ(_:FuncId)(_:List A):Option A:=none
theorem WL{T:Tb}{P:Program}:QOk T P VZ:=fun _ _ _ h=>by cases h
def PB(_:FuncId):Option (List A->aE->Option (A×aE)):=none
theorem aBZ{T:Tb}{P:Program}:∀f g as H x H',PB f=some g->g as H=some (x,H')->pH T P f as H x H':=fun _ _ _ _ _ _ h=>by cases h
def aWP(_:Nat):Bool:=false
