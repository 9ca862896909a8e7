/- Closed calls, step by step: the table. Printed by genM.py. -/
import Derived.Test.YthoaemjdfccalaaGreatDoorJ08
set_option linter.all false
namespace Go.Proofs.YthoaemjdfccalaaGreatDoor.Ev
open Go Go.RowKit
set_option maxRecDepth 1000000
def aJB:List A:=[(.agg ([sA #[109,115,105],i8 1,i8 5,(.v (.int .u16 2)),i8 1,i8 6,(.v (.int .u16 4))]++rp 3 [i8 3,i8 0,(.v (.int .u16 0))]++[i8 1,i8 0,(.v (.int .u16 64))]++rp 8 [i8 3,i8 0,(.v (.int .u16 0))]++[i8 1,i8 1,(.v (.int .u16 256)),i8 1,i8 7,(.v (.int .u16 4)),i8 1,i8 0,(.v (.int .u16 512)),i8 3,i8 0,(.v (.int .u16 0)),i8 3,i8 0,(.v (.int .u16 0)),i8 1,i8 0,(.v (.int .u16 576))]++rp 36 [i8 3,i8 0,(.v (.int .u16 0))]++[i8 1,i8 4,(.v (.int .u16 256)),i8 1,i8 4,(.v (.int .u16 256)),i8 1,i8 10,(.v (.int .u16 8)),i8 1,i8 1,(.v (.int .u16 48)),i8 1,i8 0,(.v (.int .u16 528))]++rp 9 [i8 3,i8 0,(.v (.int .u16 0))]++rp 3 [i8 2,i8 0,(.v (.int .u16 0))]++[i8 3,i8 0,(.v (.int .u16 0)),i8 3,i8 0,(.v (.int .u16 0)),i8 1,i8 5,(.v (.int .u16 64)),i8 3,i8 0,(.v (.int .u16 0)),i8 1,i8 1,(.v (.int .u16 385))]++rp 6 [i8 3,i8 0,(.v (.int .u16 0))]++rp 3 [i8 2,i8 0,(.v (.int .u16 0))]++[i8 3,i8 0,(.v (.int .u16 0)),i8 3,i8 0,(.v (.int .u16 0)),i8 1,i8 6,(.v (.int .u16 64)),i8 3,i8 0,(.v (.int .u16 0)),i8 1,i8 4,(.v (.int .u16 385)),i8 3,i8 0,(.v (.int .u16 0)),i8 1,i8 9,(.v (.int .u16 1)),i8 3,i8 0,(.v (.int .u16 0)),i8 3,i8 0,(.v (.int .u16 0)),i8 1,i8 6,(.v (.int .u16 0)),i8 3]++rp 3 [i8 0,(.v (.int .u16 0)),i8 2]++[i8 0,(.v (.int .u16 0)),i8 3,i8 0,(.v (.int .u16 0)),i8 3,i8 0,(.v (.int .u16 0)),i8 1,i8 6,(.v (.int .u16 64)),i8 3,i8 0,(.v (.int .u16 0)),i8 1,i8 4,(.v (.int .u16 385)),i8 3,i8 0,(.v (.int .u16 0)),i8 1,i8 9,(.v (.int .u16 1)),i8 3,i8 0,(.v (.int .u16 0)),i8 3,i8 0,(.v (.int .u16 0)),i8 1,i8 7]++rp 15 [(.v (.int .u16 0)),i8 3,i8 0]++rp 3 [(.v (.int .u16 0)),i8 2,i8 0]++rp 9 [(.v (.int .u16 0)),i8 3,i8 0]++[(.v (.int .u16 0)),i8 1,i8 9,(.v (.int .u16 0)),i8 1,i8 4,(.v (.int .u16 384))]++rp 3 [i8 2,i8 0,(.v (.int .u16 0))]++[i8 1,i8 11,(.v (.int .u16 48)),i8 1,i8 11,(.v (.int .u16 16)),i8 1,i8 11,(.v (.int .u16 64)),i8 1,i8 0,(.v (.int .u16 512))]++rp 7 [i8 3,i8 0,(.v (.int .u16 0))]++rp 3 [i8 2,i8 0,(.v (.int .u16 0))]++[i8 3,i8 0,(.v (.int .u16 0)),i8 3,i8 0,(.v (.int .u16 0)),i8 1,i8 11,(.v (.int .u16 64)),i8 1,i8 0,(.v (.int .u16 512))]++rp 7 [i8 3,i8 0,(.v (.int .u16 0))]++[i8 1,i8 1,(.v (.int .u16 8706)),i8 1,i8 2,(.v (.int .u16 10242)),i8 3,i8 0,(.v (.int .u16 0)),i8 3,i8 0,(.v (.int .u16 0)),i8 1,i8 0,(.v (.int .u16 128)),i8 1,i8 1,(.v (.int .u16 8706)),i8 1,i8 2,(.v (.int .u16 10499)),i8 3,i8 0,(.v (.int .u16 0)),i8 3,i8 0,(.v (.int .u16 0)),i8 1,i8 1,(.v (.int .u16 128)),i8 1,i8 1,(.v (.int .u16 26120)),i8 1,i8 2,(.v (.int .u16 10256)),i8 3,i8 0,(.v (.int .u16 0)),i8 1,i8 0,(.v (.int .u16 4288)),i8 1,i8 2,(.v (.int .u16 128))]++rp 5 [i8 3,i8 0,(.v (.int .u16 0))]))]
def aJR:A:=(bo true)
theorem aT4:EvQ (CS AZ) 61 aJB aJR:=aW 100000 (by kernel_rfl)
def aNL:List (List A×A):=[(aJB,aJR)]
theorem aD4:∀p∈aNL,EvQ (CS AZ) 61 p.1 p.2:=by unfold aNL;simp only[List.forall_mem_cons,List.not_mem_nil,false_implies,implies_true,and_true];exact aT4
def Y35:FuncId->List A->Option A:=orX 61 aNL AZ
theorem aB8:QOk Cy.T Tryz.prog Y35:=xL aJ0 aD4 aJ0
def gv0:I7 (.agg ([sA #[116],(.sl 1 [sA #[120]]),(.sl 1 [i8 0]),(.sl 2 [(.sl 1 [i8 2,i8 0,i8 0,bo false,i8 1,bo false,i8 0,i8 0,i8 0,i8 0]),(.sl 1 [i8 1,i8 0,i8 0,bo false,i8 0,bo false,i8 0,i8 0,i8 0,i8 0])]),i8 1,i8 0,i8 0,i8 0,i8 0,(.v (.slice none 0 0)),i64 2,i64 1,i64 1,i64 1,i64 1,i8 1,i8 1,i8 1,i64 0,bo false,sA #[109,115,105],i8 1,i8 5,(.v (.int .u16 2)),i8 1,i8 6,(.v (.int .u16 4))]++rp 3 [i8 3,i8 0,(.v (.int .u16 0))]++[i8 1,i8 0,(.v (.int .u16 64))]++rp 8 [i8 3,i8 0,(.v (.int .u16 0))]++[i8 1,i8 1,(.v (.int .u16 256)),i8 1,i8 7,(.v (.int .u16 4)),i8 1,i8 0,(.v (.int .u16 512)),i8 3,i8 0,(.v (.int .u16 0)),i8 3,i8 0,(.v (.int .u16 0)),i8 1,i8 0,(.v (.int .u16 576))]++rp 36 [i8 3,i8 0,(.v (.int .u16 0))]++[i8 1,i8 4,(.v (.int .u16 256)),i8 1,i8 4,(.v (.int .u16 256)),i8 1,i8 10,(.v (.int .u16 8)),i8 1,i8 1,(.v (.int .u16 48)),i8 1,i8 0,(.v (.int .u16 528))]++rp 9 [i8 3,i8 0,(.v (.int .u16 0))]++rp 3 [i8 2,i8 0,(.v (.int .u16 0))]++[i8 3,i8 0,(.v (.int .u16 0)),i8 3,i8 0,(.v (.int .u16 0)),i8 1,i8 5,(.v (.int .u16 64)),i8 3,i8 0,(.v (.int .u16 0)),i8 1,i8 1,(.v (.int .u16 385))]++rp 6 [i8 3,i8 0,(.v (.int .u16 0))]++rp 3 [i8 2,i8 0,(.v (.int .u16 0))]++[i8 3,i8 0,(.v (.int .u16 0)),i8 3,i8 0,(.v (.int .u16 0)),i8 1,i8 6,(.v (.int .u16 64)),i8 3,i8 0,(.v (.int .u16 0)),i8 1,i8 4,(.v (.int .u16 385)),i8 3,i8 0,(.v (.int .u16 0)),i8 1,i8 9,(.v (.int .u16 1)),i8 3,i8 0,(.v (.int .u16 0)),i8 3,i8 0,(.v (.int .u16 0)),i8 1,i8 6,(.v (.int .u16 0)),i8 3]++rp 3 [i8 0,(.v (.int .u16 0)),i8 2]++[i8 0,(.v (.int .u16 0)),i8 3,i8 0,(.v (.int .u16 0)),i8 3,i8 0,(.v (.int .u16 0)),i8 1,i8 6,(.v (.int .u16 64)),i8 3,i8 0,(.v (.int .u16 0)),i8 1,i8 4,(.v (.int .u16 385)),i8 3,i8 0,(.v (.int .u16 0)),i8 1,i8 9,(.v (.int .u16 1)),i8 3,i8 0,(.v (.int .u16 0)),i8 3,i8 0,(.v (.int .u16 0)),i8 1,i8 7]++rp 15 [(.v (.int .u16 0)),i8 3,i8 0]++rp 3 [(.v (.int .u16 0)),i8 2,i8 0]++rp 9 [(.v (.int .u16 0)),i8 3,i8 0]++[(.v (.int .u16 0)),i8 1,i8 9,(.v (.int .u16 0)),i8 1,i8 4,(.v (.int .u16 384))]++rp 3 [i8 2,i8 0,(.v (.int .u16 0))]++[i8 1,i8 11,(.v (.int .u16 48)),i8 1,i8 11,(.v (.int .u16 16)),i8 1,i8 11,(.v (.int .u16 64)),i8 1,i8 0,(.v (.int .u16 512))]++rp 7 [i8 3,i8 0,(.v (.int .u16 0))]++rp 3 [i8 2,i8 0,(.v (.int .u16 0))]++[i8 3,i8 0,(.v (.int .u16 0)),i8 3,i8 0,(.v (.int .u16 0)),i8 1,i8 11,(.v (.int .u16 64)),i8 1,i8 0,(.v (.int .u16 512))]++rp 7 [i8 3,i8 0,(.v (.int .u16 0))]++[i8 1,i8 1,(.v (.int .u16 8706)),i8 1,i8 2,(.v (.int .u16 10242)),i8 3,i8 0,(.v (.int .u16 0)),i8 3,i8 0,(.v (.int .u16 0)),i8 1,i8 0,(.v (.int .u16 128)),i8 1,i8 1,(.v (.int .u16 8706)),i8 1,i8 2,(.v (.int .u16 10499)),i8 3,i8 0,(.v (.int .u16 0)),i8 3,i8 0,(.v (.int .u16 0)),i8 1,i8 1,(.v (.int .u16 128)),i8 1,i8 1,(.v (.int .u16 26120)),i8 1,i8 2,(.v (.int .u16 10256)),i8 3,i8 0,(.v (.int .u16 0)),i8 1,i8 0,(.v (.int .u16 4288)),i8 1,i8 2,(.v (.int .u16 128))]++rp 5 [i8 3,i8 0,(.v (.int .u16 0))])):=by refine⟨?m,?h⟩;case h=>conv=>lhs;cbv
def v0:A:=gv0.m
def aSf:List A:=[v0]
def aSk:A:=(bo true)
theorem aXF:EvQ (CS Y35) 29 aSf aSk:=aW 100000 (by kernel_rfl)
def mt9:List (List A×A):=[(aSf,aSk)]
theorem aMe:∀p∈mt9,EvQ (CS Y35) 29 p.1 p.2:=by unfold mt9;simp only[List.forall_mem_cons,List.not_mem_nil,false_implies,implies_true,and_true];exact aXF
def Y9:FuncId->List A->Option A:=orX 29 mt9 Y35
theorem aJM:QOk Cy.T Tryz.prog Y9:=xL aB8 aMe aB8
def gv1:I7 (.agg ([(.sl 2 (rp 2 (rp 9 [i8 0]++[(.sl 0 []),bo false,bo false]))),(.sl 2 (rp 16 [i8 0,i8 0,(.v (.int .i8 0)),bo false,i8 0,i8 0,i8 0,i8 0]++[i8 1,i64 1]++rp 3 [i8 0,i8 0,i8 0,i8 0,i8 0,i8 0,i64 0]++rp 11 [i8 0]++rp 15 [(.v (.int .i8 0)),bo false,i8 0,i8 0,i8 0,i8 0,i8 0,i8 0]++[(.v (.int .i8 0)),bo false,i8 0,i8 0,i8 0,i8 0,i8 1,i64 1]++rp 3 [i8 0,i8 0,i8 0,i8 0,i8 0,i8 0,i64 0]++rp 9 [i8 0]))]++rp 6 [i8 0,i8 255,i8 1,(.v (.int .u64 0)),bo false,i8 0,i8 0,i8 0,i8 0,i8 0,i8 0]++[(.sl 0 [])])):=by refine⟨?m,?h⟩;case h=>conv=>lhs;cbv
def v1:A:=gv1.m
def aJG:List A:=[v0]
def aJp:A:=(.tup [v1,i64 0])
theorem aSX:EvQ (CS Y9) 10 aJG aJp:=aW 100000 (by kernel_rfl)
def aPz:List (List A×A):=[(aJG,aJp)]
theorem aFu:∀p∈aPz,EvQ (CS Y9) 10 p.1 p.2:=by unfold aPz;simp only[List.forall_mem_cons,List.not_mem_nil,false_implies,implies_true,and_true];exact aSX
def Y17:FuncId->List A->Option A:=orX 10 aPz Y9
theorem aCI:QOk Cy.T Tryz.prog Y17:=xL aJM aFu aJM
def aJy:List A:=[v0,v1]
def aJs:A:=(bo true)
theorem aTo:EvQ (CS Y17) 14 aJy aJs:=aW 100000 (by kernel_rfl)
def gv2:I7 (.sl 2 (rp 9 [i8 0]++[(.sl 0 []),bo true,bo false]++rp 9 [i8 0]++[(.sl 0 []),bo false,bo false])):=by refine⟨?m,?h⟩;case h=>conv=>lhs;cbv
def v2:A:=gv2.m
def gv3:I7 (.agg ([v2,(.sl 2 (rp 16 [i8 0,i8 0,(.v (.int .i8 0)),bo false,i8 0,i8 0,i8 0,i8 0]++[i8 1,i64 1]++rp 3 [i8 0,i8 0,i8 0,i8 0,i8 0,i8 0,i64 0]++[i8 0,i8 0,i8 0,i8 0,i8 0,i8 2,i8 0,i8 1]++rp 16 [i8 0,i8 0,i8 0,(.v (.int .i8 0)),bo false,i8 0,i8 0,i8 0]++[i8 0,i8 1,i64 1]++rp 3 [i8 0,i8 0,i8 0,i8 0,i8 0,i8 0,i64 0]++rp 9 [i8 0]))]++rp 6 [i8 0,i8 255,i8 1,(.v (.int .u64 0)),bo false,i8 0,i8 0,i8 0,i8 0,i8 0,i8 0]++[(.sl 0 [])])):=by refine⟨?m,?h⟩;case h=>conv=>lhs;cbv
def v3:A:=gv3.m
def aJQ:List A:=[v0,v3]
def aJH:A:=(bo true)
theorem aVW:EvQ (CS Y17) 14 aJQ aJH:=aW 100000 (by kernel_rfl)
def gv4:I7 (.agg ([v2,(.sl 2 ([i8 0,i8 6]++rp 15 [(.v (.int .i8 0)),bo false,i8 0,i8 0,i8 0,i8 0,i8 0,i8 0]++[(.v (.int .i8 0)),bo false,i8 0,i8 0,i8 0,i8 0,i8 1,i64 1]++rp 3 [i8 0,i8 0,i8 0,i8 0,i8 0,i8 0,i64 0]++[i8 0,i8 0,i8 0,i8 0,i8 0,i8 2,i8 0,i8 1]++rp 16 [i8 0,i8 0,i8 0,(.v (.int .i8 0)),bo false,i8 0,i8 0,i8 0]++[i8 0,i8 1,i64 1]++rp 3 [i8 0,i8 0,i8 0,i8 0,i8 0,i8 0,i64 0]++rp 9 [i8 0]))]++rp 6 [i8 0,i8 255,i8 1,(.v (.int .u64 0)),bo false,i8 0,i8 0,i8 0,i8 0,i8 0,i8 0]++[(.sl 1 [i8 2,i8 0,i8 2,i8 0,i8 0,i8 0,bo false,i8 0,i8 0,i8 0,i8 0])])):=by refine⟨?m,?h⟩;case h=>conv=>lhs;cbv
def v4:A:=gv4.m
def aJ7:List A:=[v0,v4]
def aJv:A:=(bo true)
theorem aR1:EvQ (CS Y17) 14 aJ7 aJv:=aW 100000 (by kernel_rfl)
def aK2:List (List A×A):=[(aJy,aJs),(aJQ,aJH),(aJ7,aJv)]
theorem aFs:∀p∈aK2,EvQ (CS Y17) 14 p.1 p.2:=by unfold aK2;simp only[List.forall_mem_cons,List.not_mem_nil,false_implies,implies_true,and_true];exact⟨aTo,aVW,aR1⟩
def Y10:FuncId->List A->Option A:=orX 14 aK2 Y17
theorem YD:QOk Cy.T Tryz.prog Y10:=xL aCI aFs aCI
def gv5:I7 (.sl 2 ([i8 1]++rp 8 [i8 0]++[bo false,i8 0,i8 0,i8 0,i8 0,i8 1,i8 1]++rp 7 [i8 0]++[bo false,i8 0,i8 0,i8 0,i8 0])):=by refine⟨?m,?h⟩;case h=>conv=>lhs;cbv
def v5:A:=gv5.m
def aVJ:List A:=[v0,v1]
def aSI:A:=v5
theorem aW8:EvQ (CS Y10) 11 aVJ aSI:=aW 100000 (by kernel_rfl)
def gv6:I7 (.sl 2 ([i8 1,i8 1]++rp 7 [i8 0]++[bo false,i8 0,i8 0,i8 0,i8 0,i8 3]++rp 8 [i8 0]++[bo false,i8 0,i8 0,i8 0,i8 0])):=by refine⟨?m,?h⟩;case h=>conv=>lhs;cbv
def v6:A:=gv6.m
def aSU:List A:=[v0,v3]
def aVD:A:=v6
theorem aW9:EvQ (CS Y10) 11 aSU aVD:=aW 100000 (by kernel_rfl)
def gv7:I7 (.sl 2 ([i8 1,i8 1]++rp 7 [i8 0]++[bo false,i8 0,i8 0,i8 0,i8 0,i8 5,i8 0,i8 0,i8 2,i8 0,i8 2,i8 0,i8 0,i8 0,bo false,i8 0,i8 0,i8 0,i8 0])):=by refine⟨?m,?h⟩;case h=>conv=>lhs;cbv
def v7:A:=gv7.m
def aR0:List A:=[v0,v4]
def aTh:A:=v7
theorem aXw:EvQ (CS Y10) 11 aR0 aTh:=aW 100000 (by kernel_rfl)
def mt8:List (List A×A):=[(aVJ,aSI),(aSU,aVD),(aR0,aTh)]
theorem aKm:∀p∈mt8,EvQ (CS Y10) 11 p.1 p.2:=by unfold mt8;simp only[List.forall_mem_cons,List.not_mem_nil,false_implies,implies_true,and_true];exact⟨aW8,aW9,aXw⟩
def Y8:FuncId->List A->Option A:=orX 11 mt8 Y10
theorem aJ2:QOk Cy.T Tryz.prog Y8:=xL YD aKm YD
def aJu:List A:=[v0,v1,(.agg ([i8 1]++rp 8 [i8 0]++[bo false,i8 0,i8 0,i8 0,i8 0]))]
def aJS:A:=(.tup [v3,(.sl 0 []),i64 0])
theorem aVP:EvQ (CS Y8) 13 aJu aJS:=aW 100000 (by kernel_rfl)
def aJI:List A:=[v0,v3,(.agg ([i8 3]++rp 8 [i8 0]++[bo false,i8 0,i8 0,i8 0,i8 0]))]
def aKc:A:=(.tup [v4,(.sl 0 []),i64 0])
theorem aUR:EvQ (CS Y8) 13 aJI aKc:=aW 100000 (by kernel_rfl)
def aQ3:List (List A×A):=[(aJu,aJS),(aJI,aKc)]
theorem aJd:∀p∈aQ3,EvQ (CS Y8) 13 p.1 p.2:=by unfold aQ3;simp only[List.forall_mem_cons,List.not_mem_nil,false_implies,implies_true,and_true];exact⟨aVP,aUR⟩
def Y11:FuncId->List A->Option A:=orX 13 aQ3 Y8
theorem aM5:QOk Cy.T Tryz.prog Y11:=xL aJ2 aJd aJ2
