/- Closed calls, step by step: the first state. Printed by genM.py. -/
import Derived.Test.YtpdphobnchajbaaGreatDoorK12
set_option linter.all false
namespace Go.Proofs.YtpdphobnchajbaaGreatDoor.Ev
open Go Go.RowKit
set_option maxRecDepth 1000000
def gv2:BN (.agg ([(.sl 2 (rp 2 (rp 9 [i8 0]++[(.sl 0 []),bo false,bo false]))),(.sl 2 (rp 16 [i8 0,i8 0,(.v (.int .i8 0)),bo false,i8 0,i8 0,i8 0,i8 0]++[i8 1,i64 1]++rp 3 [i8 0,i8 0,i8 0,i8 0,i8 0,i8 0,i64 0]++rp 11 [i8 0]++rp 15 [(.v (.int .i8 0)),bo false,i8 0,i8 0,i8 0,i8 0,i8 0,i8 0]++[(.v (.int .i8 0)),bo false,i8 0,i8 0,i8 0,i8 0,i8 1,i64 1]++rp 3 [i8 0,i8 0,i8 0,i8 0,i8 0,i8 0,i64 0]++rp 9 [i8 0]))]++rp 6 [i8 0,i8 255,i8 1,(.v (.int .u64 0)),bo false,i8 0,i8 0,i8 0,i8 0,i8 0,i8 0]++[(.sl 0 [])])):=by refine⟨?m,?h⟩;case h=>conv=>lhs;cbv
def v2:A:=gv2.m
def aKv:List A:=[v1]
def aLv:A:=(.tup [v2,i64 0])
theorem aVZ:EvQ (CS Y9) 17 aKv aLv:=aS 100000 (by kernel_rfl)
def aP1:List (List A×A):=[(aKv,aLv)]
theorem aFH:∀p∈aP1,EvQ (CS Y9) 17 p.1 p.2:=by unfold aP1;simp only[List.forall_mem_cons,List.not_mem_nil,false_implies,implies_true,and_true];exact aVZ
def Y17:FuncId->List A->Option A:=orX 17 aP1 Y9
theorem aBR:QOk Cy.T Tryz.prog Y17:=sP aK3 aFH aK3
def aLm:List A:=[v1,v2]
def aKG:A:=(bo true)
theorem aUN:EvQ (CS Y17) 10 aLm aKG:=aS 100000 (by kernel_rfl)
def gv3:BN (.sl 2 (rp 9 [i8 0]++[(.sl 0 []),bo true,bo false]++rp 9 [i8 0]++[(.sl 0 []),bo false,bo false])):=by refine⟨?m,?h⟩;case h=>conv=>lhs;cbv
def v3:A:=gv3.m
def gv4:BN (.agg ([v3,(.sl 2 (rp 16 [i8 0,i8 0,(.v (.int .i8 0)),bo false,i8 0,i8 0,i8 0,i8 0]++[i8 1,i64 1]++rp 3 [i8 0,i8 0,i8 0,i8 0,i8 0,i8 0,i64 0]++[i8 0,i8 0,i8 0,i8 0,i8 0,i8 2,i8 0,i8 1]++rp 16 [i8 0,i8 0,i8 0,(.v (.int .i8 0)),bo false,i8 0,i8 0,i8 0]++[i8 0,i8 1,i64 1]++rp 3 [i8 0,i8 0,i8 0,i8 0,i8 0,i8 0,i64 0]++rp 9 [i8 0]))]++rp 6 [i8 0,i8 255,i8 1,(.v (.int .u64 0)),bo false,i8 0,i8 0,i8 0,i8 0,i8 0,i8 0]++[(.sl 0 [])])):=by refine⟨?m,?h⟩;case h=>conv=>lhs;cbv
def v4:A:=gv4.m
def aLc:List A:=[v1,v4]
def aKM:A:=(bo true)
theorem aT2:EvQ (CS Y17) 10 aLc aKM:=aS 100000 (by kernel_rfl)
def gv5:BN (.sl 2 ([i8 0,i8 6]++rp 15 [(.v (.int .i8 0)),bo false,i8 0,i8 0,i8 0,i8 0,i8 0,i8 0]++[(.v (.int .i8 0)),bo false,i8 0,i8 0,i8 0,i8 0,i8 1,i64 1]++rp 3 [i8 0,i8 0,i8 0,i8 0,i8 0,i8 0,i64 0]++[i8 0,i8 0,i8 0,i8 0,i8 0,i8 2,i8 0,i8 1]++rp 16 [i8 0,i8 0,i8 0,(.v (.int .i8 0)),bo false,i8 0,i8 0,i8 0]++[i8 0,i8 1,i64 1]++rp 3 [i8 0,i8 0,i8 0,i8 0,i8 0,i8 0,i64 0]++rp 9 [i8 0])):=by refine⟨?m,?h⟩;case h=>conv=>lhs;cbv
def v5:A:=gv5.m
def gv6:BN (.agg ([v3,v5]++rp 6 [i8 0,i8 255,i8 1,(.v (.int .u64 0)),bo false,i8 0,i8 0,i8 0,i8 0,i8 0,i8 0]++[(.sl 1 [i8 2,i8 0,i8 2,i8 0,i8 0,i8 0,bo false,i8 0,i8 0,i8 0,i8 0])])):=by refine⟨?m,?h⟩;case h=>conv=>lhs;cbv
def v6:A:=gv6.m
def aKR:List A:=[v1,v6]
def aKT:A:=(bo true)
theorem aVt:EvQ (CS Y17) 10 aKR aKT:=aS 100000 (by kernel_rfl)
def aQA:List (List A×A):=[(aLm,aKG),(aLc,aKM),(aKR,aKT)]
theorem aET:∀p∈aQA,EvQ (CS Y17) 10 p.1 p.2:=by unfold aQA;simp only[List.forall_mem_cons,List.not_mem_nil,false_implies,implies_true,and_true];exact⟨aUN,aT2,aVt⟩
def Y10:FuncId->List A->Option A:=orX 10 aQA Y17
theorem aCW:QOk Cy.T Tryz.prog Y10:=sP aBR aET aBR
def aS1:List A:=[v1,v2]
def aTi:A:=(.sl 1 ([i8 1]++rp 8 [i8 0]++[bo false,i8 0,i8 0,i8 0,i8 0]))
theorem aZc:EvQ (CS Y10) 8 aS1 aTi:=aS 100000 (by kernel_rfl)
def aTn:List A:=[v1,v4]
def aXd:A:=(.sl 1 ([i8 3]++rp 8 [i8 0]++[bo false,i8 0,i8 0,i8 0,i8 0]))
theorem aYU:EvQ (CS Y10) 8 aTn aXd:=aS 100000 (by kernel_rfl)
def aUR:List A:=[v1,v6]
def aS9:A:=(.sl 1 [i8 5,i8 0,i8 0,i8 2,i8 0,i8 2,i8 0,i8 0,i8 0,bo false,i8 0,i8 0,i8 0,i8 0])
theorem aYv:EvQ (CS Y10) 8 aUR aS9:=aS 100000 (by kernel_rfl)
def mt8:List (List A×A):=[(aS1,aTi),(aTn,aXd),(aUR,aS9)]
theorem aMD:∀p∈mt8,EvQ (CS Y10) 8 p.1 p.2:=by unfold mt8;simp only[List.forall_mem_cons,List.not_mem_nil,false_implies,implies_true,and_true];exact⟨aZc,aYU,aYv⟩
def Y8:FuncId->List A->Option A:=orX 8 mt8 Y10
theorem aKQ:QOk Cy.T Tryz.prog Y8:=sP aCW aMD aCW
def aKY:List A:=[v1,v2,(.agg ([i8 1]++rp 8 [i8 0]++[bo false,i8 0,i8 0,i8 0,i8 0]))]
def aLz:A:=(.tup [v4,(.sl 0 []),i64 0])
theorem aSD:EvQ (CS Y8) 11 aKY aLz:=aS 100000 (by kernel_rfl)
def gv7:BN (.agg ([i8 3]++rp 8 [i8 0]++[bo false,i8 0,i8 0,i8 0,i8 0])):=by refine⟨?m,?h⟩;case h=>conv=>lhs;cbv
def v7:A:=gv7.m
def aLg:List A:=[v1,v4,v7]
def aKI:A:=(.tup [v6,(.sl 0 []),i64 0])
theorem aSO:EvQ (CS Y8) 11 aLg aKI:=aS 100000 (by kernel_rfl)
def gv8:BN (.agg [i8 5,i8 0,i8 0,i8 2,i8 0,i8 2,i8 0,i8 0,i8 0,bo false,i8 0,i8 0,i8 0,i8 0]):=by refine⟨?m,?h⟩;case h=>conv=>lhs;cbv
def v8:A:=gv8.m
def aLk:List A:=[v1,v6,v8]
def aLo:A:=(.tup [(.agg ([v3,v5,i8 2,i8 0,i8 1,(.v (.int .u64 0)),bo false,i8 1]++rp 5 [i8 0,i8 0,i8 0,i8 0,i8 0,i8 0,i8 255,i8 1,(.v (.int .u64 0)),bo false,i8 0]++[i8 0,i8 0,i8 0,i8 0,i8 0,(.sl 1 [i8 10,i8 2,i8 0,i8 0,i8 0,i8 0,bo false,i8 0,i8 0,i8 0,i8 0])])),(.sl 0 []),i64 0])
theorem aWI:EvQ (CS Y8) 11 aLk aLo:=aS 100000 (by kernel_rfl)
def gv9:BN (.agg ([(.sl 0 []),(.sl 0 [])]++rp 6 [i8 0,i8 0,i8 0,(.v (.int .u64 0)),bo false,i8 0,i8 0,i8 0,i8 0,i8 0,i8 0]++[(.sl 0 [])])):=by refine⟨?m,?h⟩;case h=>conv=>lhs;cbv
def v9:A:=gv9.m
def aK6:List A:=[v1,v4,v8]
def aKy:A:=(.tup [v9,(.sl 0 []),i64 6])
theorem aV0:EvQ (CS Y8) 11 aK6 aKy:=aS 100000 (by kernel_rfl)
def aLt:List A:=[v1,v2,v7]
def aKB:A:=(.tup [v9,(.sl 0 []),i64 272])
theorem aVF:EvQ (CS Y8) 11 aLt aKB:=aS 100000 (by kernel_rfl)
def aRF:List (List A×A):=[(aKY,aLz),(aLg,aKI),(aLk,aLo),(aK6,aKy),(aLt,aKB)]
theorem aHc:∀p∈aRF,EvQ (CS Y8) 11 p.1 p.2:=by unfold aRF;simp only[List.forall_mem_cons,List.not_mem_nil,false_implies,implies_true,and_true];exact⟨aSD,aSO,aWI,aV0,aVF⟩
def Y11:FuncId->List A->Option A:=orX 11 aRF Y8
theorem aNE:QOk Cy.T Tryz.prog Y11:=sP aKQ aHc aKQ
