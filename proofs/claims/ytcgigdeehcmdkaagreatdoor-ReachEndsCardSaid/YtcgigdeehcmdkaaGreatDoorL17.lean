/- Closed calls, step by step: exploring. Printed by genM.py. -/
import Derived.Test.YtcgigdeehcmdkaaGreatDoorL16
set_option linter.all false
namespace Go.Proofs.YtcgigdeehcmdkaaGreatDoor.Ev
open Go Go.RowKit
set_option maxRecDepth 1000000
def aVO:List A:=[v0,(i64 9),(bo false)]
def aXw:A:=(.tup [(.agg [i64 1,i64 0,i64 1,i64 0,i8 0,i8 0,i64 0,(.v (.slice none 0 0))]),i64 0])
theorem a0h:EvQ (CS Y22) 9 aVO aXw:=aV 100000 (by kernel_rfl)
def aVu:List A:=[v1,(i64 9),(bo false)]
def aZg:A:=(.tup [(.agg [i64 2,i64 2,i64 0,i64 1,i8 1,i8 0,i64 270,(.sl 2 ([i8 1]++rp 8 [i8 0]++[bo false,i8 0,i8 0,i8 0,i8 0,i8 3]++rp 8 [i8 0]++[bo false,i8 0,i8 0,i8 0,i8 0]))]),i64 0])
theorem aZX:EvQ (CS Y22) 9 aVu aZg:=aV 100000 (by kernel_rfl)
def mt9:List (List A×A):=[(aVO,aXw),(aVu,aZg)]
theorem aPz:∀p∈mt9,EvQ (CS Y22) 9 p.1 p.2:=by unfold mt9;simp only[List.forall_mem_cons,List.not_mem_nil,false_implies,implies_true,and_true];exact⟨a0h,aZX⟩
def Y9:FuncId->List A->Option A:=orX 9 mt9 Y22
theorem aWF:QOk Cy.T Tryz.prog Y9:=mW aAV aPz aAV
theorem aAF:EvQ (CS Y9) 7 [] (bo true):=aV 100000 (by kernel_rfl)
