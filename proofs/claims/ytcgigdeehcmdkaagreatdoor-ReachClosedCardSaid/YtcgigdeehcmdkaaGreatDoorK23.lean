/- Closed calls, step by step: ends. Printed by genM.py. -/
import Derived.Test.YtcgigdeehcmdkaaGreatDoorK22
set_option linter.all false
namespace Go.Proofs.YtcgigdeehcmdkaaGreatDoor.Ev
open Go Go.RowKit
set_option maxRecDepth 1000000
def aJI:List A:=[v0,(i64 9)]
def aJq:A:=(.tup [bo true,i64 0])
theorem aUD:EvQ (CS Y21) 22 aJI aJq:=aW 100000 (by kernel_rfl)
def aLr:List (List A×A):=[(aJI,aJq)]
theorem aCp:∀p∈aLr,EvQ (CS Y21) 22 p.1 p.2:=by unfold aLr;simp only[List.forall_mem_cons,List.not_mem_nil,false_implies,implies_true,and_true];exact aUD
def Y22:FuncId->List A->Option A:=orX 22 aLr Y21
theorem ZM:QOk Cy.T Tryz.prog Y22:=mQ ZC aCp ZC
def aWB:List A:=[v0,(i64 9),(bo false)]
def aUQ:A:=(.tup [(.agg [i64 1,i64 0,i64 1,i64 0,i8 0,i8 0,i64 0,(.v (.slice none 0 0))]),i64 0])
theorem aXa:EvQ (CS Y22) 9 aWB aUQ:=aW 100000 (by kernel_rfl)
def aWx:List A:=[v1,(i64 9),(bo false)]
def aUO:A:=(.tup [(.agg [i64 2,i64 2,i64 0,i64 1,i8 1,i8 0,i64 270,(.sl 2 ([i8 1]++rp 8 [i8 0]++[bo false,i8 0,i8 0,i8 0,i8 0,i8 3]++rp 8 [i8 0]++[bo false,i8 0,i8 0,i8 0,i8 0]))]),i64 0])
theorem aXD:EvQ (CS Y22) 9 aWx aUO:=aW 100000 (by kernel_rfl)
def mt9:List (List A×A):=[(aWB,aUQ),(aWx,aUO)]
theorem aQn:∀p∈mt9,EvQ (CS Y22) 9 p.1 p.2:=by unfold mt9;simp only[List.forall_mem_cons,List.not_mem_nil,false_implies,implies_true,and_true];exact⟨aXa,aXD⟩
def Y9:FuncId->List A->Option A:=orX 9 mt9 Y22
theorem aSK:QOk Cy.T Tryz.prog Y9:=mQ ZM aQn ZM
