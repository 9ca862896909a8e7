/- Closed calls, step by step: what can be done. Printed by genM.py. -/
import Derived.Test.YtpdphobnchajbaaGreatDoorP10
set_option linter.unusedSimpArgs false
set_option linter.unusedVariables false
namespace Go.Proofs.YtpdphobnchajbaaGreatDoor.Ev
open Go Go.RowKit
set_option maxRecDepth 1000000
def gv5:GotA (.sl 2 ([i8 1]++rp 8 [i8 0]++[bo false,i8 0,i8 0,i8 0,i8 0,i8 1,i8 1]++rp 7 [i8 0]++[bo false,i8 0,i8 0,i8 0,i8 0])):=by
 refine⟨?m,?h⟩
 case h=>conv=>lhs;cbv
def v5:A:=gv5.m
def a8_0:List A:=[v0,v1]
def r8_0:A:=v5
theorem q8_0:EvQ (CS Y10) 8 a8_0 r8_0:=evQ_fast 100000 (by kernel_rfl)
def gv6:GotA (.sl 2 ([i8 1,i8 1]++rp 7 [i8 0]++[bo false,i8 0,i8 0,i8 0,i8 0,i8 3]++rp 8 [i8 0]++[bo false,i8 0,i8 0,i8 0,i8 0])):=by
 refine⟨?m,?h⟩
 case h=>conv=>lhs;cbv
def v6:A:=gv6.m
def a8_1:List A:=[v0,v3]
def r8_1:A:=v6
theorem q8_1:EvQ (CS Y10) 8 a8_1 r8_1:=evQ_fast 100000 (by kernel_rfl)
def gv7:GotA (.sl 2 ([i8 1,i8 1]++rp 7 [i8 0]++[bo false,i8 0,i8 0,i8 0,i8 0,i8 5,i8 0,i8 0,i8 2,i8 0,i8 2,i8 0,i8 0,i8 0,bo false,i8 0,i8 0,i8 0,i8 0])):=by
 refine⟨?m,?h⟩
 case h=>conv=>lhs;cbv
def v7:A:=gv7.m
def a8_2:List A:=[v0,v4]
def r8_2:A:=v7
theorem q8_2:EvQ (CS Y10) 8 a8_2 r8_2:=evQ_fast 100000 (by kernel_rfl)
def mt8:List (List A×A):=[(a8_0,r8_0),(a8_1,r8_1),(a8_2,r8_2)]
theorem mt8_ok:∀ p∈mt8,EvQ (CS Y10) 8 p.1 p.2:=by
 unfold mt8
 simp only[List.forall_mem_cons,List.not_mem_nil,false_implies,implies_true,and_true]
 exact⟨q8_0,q8_1,q8_2⟩
def Y8:FuncId→List A→Option A:=orX 8 mt8 Y10
theorem Y8_ok:QOk Cy.T Tryz.prog Y8:=orX_ok Y10_ok mt8_ok Y10_ok
end Go.Proofs.YtpdphobnchajbaaGreatDoor.Ev
