/- Closed calls, step by step: the invariants. Printed by genM.py. -/
import Derived.Test.YtcgigdeehcmdkaaGreatDoorL15
set_option linter.all false
namespace Go.Proofs.YtcgigdeehcmdkaaGreatDoor.Ev
open Go Go.RowKit
set_option maxRecDepth 1000000
def aLK:List A:=[v0,v2]
def aME:A:=(i8 0)
theorem aVe:EvQ (CS Y14) 12 aLK aME:=aV 100000 (by kernel_rfl)
def aMK:List A:=[v1,v2]
def aLX:A:=(i8 0)
theorem aVN:EvQ (CS Y14) 12 aMK aLX:=aV 100000 (by kernel_rfl)
def aLG:List A:=[v1,v3]
def aMG:A:=(i8 0)
theorem aYH:EvQ (CS Y14) 12 aLG aMG:=aV 100000 (by kernel_rfl)
def aRo:List (List A×A):=[(aLK,aME),(aMK,aLX),(aLG,aMG)]
theorem aEM:∀p∈aRo,EvQ (CS Y14) 12 p.1 p.2:=by unfold aRo;simp only[List.forall_mem_cons,List.not_mem_nil,false_implies,implies_true,and_true];exact⟨aVe,aVN,aYH⟩
def Y12:FuncId->List A->Option A:=orX 12 aRo Y14
theorem aC9:QOk Cy.T Tryz.prog Y12:=mW aDy aEM aDy
def aMd:List A:=[v0,v2]
def aMs:A:=(sA #[0,0,0,0,0,0,0,0,0,0,0,0,0,0,0,0,0,0,0,0,0,0,0,0,0,0,0,0,0,0,0,0,0,0,0,0,0,0,0,0,0,0,0,0,0,0,0,0,0,0,0,0,0,0,0,0,0,0,0,0,0,0,0,0,0,0,0,0,0,0,0,0,0,0,0,0,0,0,0,0,0,0,0,0,0,0,0,0,0,0,0,0,0,0,0,0,0,0,0,0,0,0,0,0,0,0,0,0,0,0,0,0,0,0,0,0,0,0,0,0,0,0,0,0,0,0,0,0,0,0,0,0,0,0,0,0,0,0,0,1,1,0,0,0,0,0,0,0,0,0,0,0,0,0,0,0,0,0,0,0,0,0,0,0,0,0,0,0,0,0,0,0,255,1,0,0,0,0,0,0,0,0,0,0,0,0,0,0,0,0,255,1,0,0,0,0,0,0,0,0,0,0,0,0,0,0,0,0,255,1,0,0,0,0,0,0,0,0,0,0,0,0,0,0,0,0,255,1,0,0,0,0,0,0,0,0,0,0,0,0,0,0,0,0,255,1,0,0,0,0,0,0,0,0,0,0,0,0,0,0,0,0,255,1,0,0,0,0,0,0,0,0,0,0,0,0,0,0,0,0])
theorem aZF:EvQ (CS Y12) 21 aMd aMs:=aV 100000 (by kernel_rfl)
def aLH:List A:=[v1,v2]
def aL4:A:=(sA #[0,0,0,0,0,0,0,0,0,0,0,0,0,0,0,0,0,0,0,0,0,0,0,0,0,0,0,0,0,0,0,0,0,0,0,0,0,0,0,0,0,0,0,0,0,0,0,0,0,0,0,0,0,0,0,0,0,0,0,0,0,0,0,0,0,0,0,0,0,0,0,0,0,0,0,0,0,0,0,0,0,0,0,0,0,0,0,0,0,0,0,0,0,0,0,0,0,0,0,0,0,0,0,0,0,0,0,0,0,0,0,0,0,0,0,0,0,0,0,0,0,0,0,0,0,0,0,0,0,0,0,0,0,0,0,0,0,0,0,1,1,0,0,0,0,0,0,0,0,0,0,0,0,0,0,0,0,0,0,0,0,0,0,0,0,0,0,0,0,0,0,0,255,1,0,0,0,0,0,0,0,0,0,0,0,0,0,0,0,0,255,1,0,0,0,0,0,0,0,0,0,0,0,0,0,0,0,0,255,1,0,0,0,0,0,0,0,0,0,0,0,0,0,0,0,0,255,1,0,0,0,0,0,0,0,0,0,0,0,0,0,0,0,0,255,1,0,0,0,0,0,0,0,0,0,0,0,0,0,0,0,0,255,1,0,0,0,0,0,0,0,0,0,0,0,0,0,0,0,0])
theorem aYk:EvQ (CS Y12) 21 aLH aL4:=aV 100000 (by kernel_rfl)
def aL3:List A:=[v1,v3]
def aMx:A:=(sA #[0,0,0,0,0,0,0,0,0,0,1,0,0,0,0,0,0,0,0,0,0,0,0,0,0,0,0,0,0,0,0,0,0,0,0,0,0,0,0,0,0,0,0,0,0,0,0,0,0,0,0,0,0,0,0,0,0,0,0,0,0,0,0,0,0,0,0,0,0,0,0,0,0,0,0,0,0,0,0,0,0,0,0,0,0,0,0,0,0,0,0,0,0,0,0,0,0,0,0,0,0,0,0,0,0,0,0,0,0,0,0,0,0,0,0,0,0,0,0,0,0,0,0,0,0,0,0,0,0,0,0,0,0,0,0,0,0,0,0,1,1,0,0,0,0,0,0,0,0,0,0,0,0,0,0,0,0,0,0,0,0,0,0,0,0,0,0,1,0,0,0,0,255,1,0,0,0,0,0,0,0,0,0,0,0,0,0,0,0,0,255,1,0,0,0,0,0,0,0,0,0,0,0,0,0,0,0,0,255,1,0,0,0,0,0,0,0,0,0,0,0,0,0,0,0,0,255,1,0,0,0,0,0,0,0,0,0,0,0,0,0,0,0,0,255,1,0,0,0,0,0,0,0,0,0,0,0,0,0,0,0,0,255,1,0,0,0,0,0,0,0,0,0,0,0,0,0,0,0,0])
theorem aX0:EvQ (CS Y12) 21 aL3 aMx:=aV 100000 (by kernel_rfl)
def aOj:List (List A×A):=[(aMd,aMs),(aLH,aL4),(aL3,aMx)]
theorem aE1:∀p∈aOj,EvQ (CS Y12) 21 p.1 p.2:=by unfold aOj;simp only[List.forall_mem_cons,List.not_mem_nil,false_implies,implies_true,and_true];exact⟨aZF,aYk,aX0⟩
def Y21:FuncId->List A->Option A:=orX 21 aOj Y12
theorem aDU:QOk Cy.T Tryz.prog Y21:=mW aC9 aE1 aC9
def aMO:List A:=[v0,(i64 9)]
def aMJ:A:=(.tup [bo true,i64 0])
theorem aWI:EvQ (CS Y21) 22 aMO aMJ:=aV 100000 (by kernel_rfl)
def aTD:List (List A×A):=[(aMO,aMJ)]
theorem aEO:∀p∈aTD,EvQ (CS Y21) 22 p.1 p.2:=by unfold aTD;simp only[List.forall_mem_cons,List.not_mem_nil,false_implies,implies_true,and_true];exact aWI
def Y22:FuncId->List A->Option A:=orX 22 aTD Y21
theorem aAV:QOk Cy.T Tryz.prog Y22:=mW aDU aEO aDU
