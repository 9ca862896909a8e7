/- Closed calls, step by step: what is done. Printed by genM.py. -/
import Derived.Test.YtcgigdeehcmdkaaGreatDoorK20
set_option linter.all false
namespace Go.Proofs.YtcgigdeehcmdkaaGreatDoor.Ev
open Go Go.RowKit
set_option maxRecDepth 1000000
def aJn:List A:=[v1,v2,(.agg ([i8 1]++rp 8 [i8 0]++[bo false,i8 0,i8 0,i8 0,i8 0]))]
def aJ2:A:=(.tup [v3,(.sl 0 []),i64 0])
theorem aS7:EvQ (CS Y11) 14 aJn aJ2:=aW 100000 (by kernel_rfl)
def aKd:List A:=[v1,v3,(.agg ([i8 3]++rp 8 [i8 0]++[bo false,i8 0,i8 0,i8 0,i8 0]))]
def aJO:A:=(.tup [(.agg ([(.sl 0 []),(.sl 0 [])]++rp 6 [i8 0,i8 0,i8 0,(.v (.int .u64 0)),bo false,i8 0,i8 0,i8 0,i8 0,i8 0,i8 0]++[(.sl 0 [])])),(.sl 0 []),i64 270])
theorem aWq:EvQ (CS Y11) 14 aKd aJO:=aW 100000 (by kernel_rfl)
def aMB:List (List A×A):=[(aJn,aJ2),(aKd,aJO)]
theorem aHd:∀p∈aMB,EvQ (CS Y11) 14 p.1 p.2:=by unfold aMB;simp only[List.forall_mem_cons,List.not_mem_nil,false_implies,implies_true,and_true];exact⟨aS7,aWq⟩
def Y14:FuncId->List A->Option A:=orX 14 aMB Y11
theorem aAV:QOk Cy.T Tryz.prog Y14:=mQ YZ aHd YZ
def aJ0:List A:=[v0,v2]
def aKc:A:=(i8 0)
theorem aUv:EvQ (CS Y14) 12 aJ0 aKc:=aW 100000 (by kernel_rfl)
def aJy:List A:=[v1,v2]
def aJp:A:=(i8 0)
theorem aWy:EvQ (CS Y14) 12 aJy aJp:=aW 100000 (by kernel_rfl)
def aJe:List A:=[v1,v3]
def aI7:A:=(i8 0)
theorem aTF:EvQ (CS Y14) 12 aJe aI7:=aW 100000 (by kernel_rfl)
def aMu:List (List A×A):=[(aJ0,aKc),(aJy,aJp),(aJe,aI7)]
theorem aFa:∀p∈aMu,EvQ (CS Y14) 12 p.1 p.2:=by unfold aMu;simp only[List.forall_mem_cons,List.not_mem_nil,false_implies,implies_true,and_true];exact⟨aUv,aWy,aTF⟩
def Y12:FuncId->List A->Option A:=orX 12 aMu Y14
theorem ZE:QOk Cy.T Tryz.prog Y12:=mQ aAV aFa aAV
