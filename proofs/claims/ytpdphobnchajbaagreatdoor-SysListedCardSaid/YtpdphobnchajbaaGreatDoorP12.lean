/- Closed calls, step by step: what is done. Printed by genM.py. -/
import Derived.Test.YtpdphobnchajbaaGreatDoorP11
set_option linter.unusedSimpArgs false
set_option linter.unusedVariables false
namespace Go.Proofs.YtpdphobnchajbaaGreatDoor.Ev
open Go Go.RowKit
set_option maxRecDepth 1000000
def a11_0:List A:=[v0,v1,(.agg ([i8 1]++rp 8 [i8 0]++[bo false,i8 0,i8 0,i8 0,i8 0]))]
def r11_0:A:=(.tup [v3,(.sl 0 []),i64 0])
theorem q11_0:EvQ (CS Y8) 11 a11_0 r11_0:=evQ_fast 100000 (by kernel_rfl)
def a11_1:List A:=[v0,v3,(.agg ([i8 3]++rp 8 [i8 0]++[bo false,i8 0,i8 0,i8 0,i8 0]))]
def r11_1:A:=(.tup [v4,(.sl 0 []),i64 0])
theorem q11_1:EvQ (CS Y8) 11 a11_1 r11_1:=evQ_fast 100000 (by kernel_rfl)
def mt11:List (List A×A):=[(a11_0,r11_0),(a11_1,r11_1)]
theorem mt11_ok:∀ p∈mt11,EvQ (CS Y8) 11 p.1 p.2:=by
 unfold mt11
 simp only[List.forall_mem_cons,List.not_mem_nil,false_implies,implies_true,and_true]
 exact⟨q11_0,q11_1⟩
def Y11:FuncId→List A→Option A:=orX 11 mt11 Y8
theorem Y11_ok:QOk Cy.T Tryz.prog Y11:=orX_ok Y8_ok mt11_ok Y8_ok
end Go.Proofs.YtpdphobnchajbaaGreatDoor.Ev
