/- Closed calls, step by step: a valid world. Printed by genM.py. -/
import Derived.Test.YtcgigdeehcmdkaaGreatDoorK19
set_option linter.all false
namespace Go.Proofs.YtcgigdeehcmdkaaGreatDoor.Ev
open Go Go.RowKit
set_option maxRecDepth 1000000
def gv0:aFd (.agg ([sA #[116],(.sl 1 [sA #[120]]),(.sl 1 [i8 0]),(.sl 1 [(.v (.slice none 0 0))]),i8 1,i8 0,i8 0,i8 0,i8 0,(.v (.slice none 0 0)),i64 1,i64 1,i64 1,i64 1,i64 1,i8 1,i8 1,i8 1,i64 0,bo false,sA #[109,115,105],i8 1,i8 5,(.v (.int .u16 2)),i8 1,i8 6,(.v (.int .u16 4))]++rp 3 [i8 3,i8 0,(.v (.int .u16 0))]++[i8 1,i8 0,(.v (.int .u16 64))]++rp 8 [i8 3,i8 0,(.v (.int .u16 0))]++[i8 1,i8 1,(.v (.int .u16 256)),i8 1,i8 7,(.v (.int .u16 4)),i8 1,i8 0,(.v (.int .u16 512)),i8 3,i8 0,(.v (.int .u16 0)),i8 3,i8 0,(.v (.int .u16 0)),i8 1,i8 0,(.v (.int .u16 576))]++rp 36 [i8 3,i8 0,(.v (.int .u16 0))]++[i8 1,i8 4,(.v (.int .u16 256)),i8 1,i8 4,(.v (.int .u16 256)),i8 1,i8 10,(.v (.int .u16 8)),i8 1,i8 1,(.v (.int .u16 48)),i8 1,i8 0,(.v (.int .u16 528))]++rp 9 [i8 3,i8 0,(.v (.int .u16 0))]++rp 3 [i8 2,i8 0,(.v (.int .u16 0))]++[i8 3,i8 0,(.v (.int .u16 0)),i8 3,i8 0,(.v (.int .u16 0)),i8 1,i8 5,(.v (.int .u16 64)),i8 3,i8 0,(.v (.int .u16 0)),i8 1,i8 1,(.v (.int .u16 385))]++rp 6 [i8 3,i8 0,(.v (.int .u16 0))]++rp 3 [i8 2,i8 0,(.v (.int .u16 0))]++[i8 3,i8 0,(.v (.int .u16 0)),i8 3,i8 0,(.v (.int .u16 0)),i8 1,i8 6,(.v (.int .u16 64)),i8 3,i8 0,(.v (.int .u16 0)),i8 1,i8 4,(.v (.int .u16 385)),i8 3,i8 0,(.v (.int .u16 0)),i8 1,i8 9,(.v (.int .u16 1)),i8 3,i8 0,(.v (.int .u16 0)),i8 3,i8 0,(.v (.int .u16 0)),i8 1,i8 6,(.v (.int .u16 0)),i8 3]++rp 3 [i8 0,(.v (.int .u16 0)),i8 2]++[i8 0,(.v (.int .u16 0)),i8 3,i8 0,(.v (.int .u16 0)),i8 3,i8 0,(.v (.int .u16 0)),i8 1,i8 6,(.v (.int .u16 64)),i8 3,i8 0,(.v (.int .u16 0)),i8 1,i8 4,(.v (.int .u16 385)),i8 3,i8 0,(.v (.int .u16 0)),i8 1,i8 9,(.v (.int .u16 1)),i8 3,i8 0,(.v (.int .u16 0)),i8 3,i8 0,(.v (.int .u16 0)),i8 1,i8 7]++rp 15 [(.v (.int .u16 0)),i8 3,i8 0]++rp 3 [(.v (.int .u16 0)),i8 2,i8 0]++rp 9 [(.v (.int .u16 0)),i8 3,i8 0]++[(.v (.int .u16 0)),i8 1,i8 9,(.v (.int .u16 0)),i8 1,i8 4,(.v (.int .u16 384))]++rp 3 [i8 2,i8 0,(.v (.int .u16 0))]++[i8 1,i8 11,(.v (.int .u16 48)),i8 1,i8 11,(.v (.int .u16 16)),i8 1,i8 11,(.v (.int .u16 64)),i8 1,i8 0,(.v (.int .u16 512))]++rp 7 [i8 3,i8 0,(.v (.int .u16 0))]++rp 3 [i8 2,i8 0,(.v (.int .u16 0))]++[i8 3,i8 0,(.v (.int .u16 0)),i8 3,i8 0,(.v (.int .u16 0)),i8 1,i8 11,(.v (.int .u16 64)),i8 1,i8 0,(.v (.int .u16 512))]++rp 7 [i8 3,i8 0,(.v (.int .u16 0))]++[i8 1,i8 1,(.v (.int .u16 8706)),i8 1,i8 2,(.v (.int .u16 10242)),i8 3,i8 0,(.v (.int .u16 0)),i8 3,i8 0,(.v (.int .u16 0)),i8 1,i8 0,(.v (.int .u16 128)),i8 1,i8 1,(.v (.int .u16 8706)),i8 1,i8 2,(.v (.int .u16 10499)),i8 3,i8 0,(.v (.int .u16 0)),i8 3,i8 0,(.v (.int .u16 0)),i8 1,i8 1,(.v (.int .u16 128)),i8 1,i8 1,(.v (.int .u16 26120)),i8 1,i8 2,(.v (.int .u16 10256)),i8 3,i8 0,(.v (.int .u16 0)),i8 1,i8 0,(.v (.int .u16 4288)),i8 1,i8 2,(.v (.int .u16 128))]++rp 5 [i8 3,i8 0,(.v (.int .u16 0))])):=by refine⟨?m,?h⟩;case h=>conv=>lhs;cbv
def v0:A:=gv0.m
def aJl:List A:=[v0]
def aJ4:A:=(bo true)
theorem aTW:EvQ (CS Y74) 34 aJl aJ4:=aW 100000 (by kernel_rfl)
def gv1:aFd (.agg ([sA #[116],(.sl 1 [sA #[120]]),(.sl 1 [i8 0]),(.sl 1 [(.sl 1 [i8 1,i8 0,i8 0,bo false,i8 0,bo false,i8 0,i8 0,i8 0,i8 0])]),i8 1,i8 0,i8 0,i8 0,i8 0,(.v (.slice none 0 0)),i64 1,i64 1,i64 1,i64 1,i64 1,i8 1,i8 1,i8 1,i64 0,bo false,sA #[101,109,112,116,121]]++rp 188 [i8 0,i8 0,(.v (.int .u16 0))])):=by refine⟨?m,?h⟩;case h=>conv=>lhs;cbv
def v1:A:=gv1.m
def aKf:List A:=[v1]
def aJ8:A:=(bo true)
theorem aTn:EvQ (CS Y74) 34 aKf aJ8:=aW 100000 (by kernel_rfl)
def aSp:List (List A×A):=[(aJl,aJ4),(aKf,aJ8)]
theorem aHu:∀p∈aSp,EvQ (CS Y74) 34 p.1 p.2:=by unfold aSp;simp only[List.forall_mem_cons,List.not_mem_nil,false_implies,implies_true,and_true];exact⟨aTW,aTn⟩
def Y34:FuncId->List A->Option A:=orX 34 aSp Y74
theorem WR:QOk Cy.T Tryz.prog Y34:=mQ Z4 aHu Z4
def gv2:aFd (.agg ([(.sl 1 (rp 9 [i8 0]++[(.sl 0 []),bo false,bo false])),(.sl 1 (rp 16 [i8 0,i8 0,(.v (.int .i8 0)),bo false,i8 0,i8 0,i8 0,i8 0]++[i8 1,i64 1]++rp 3 [i8 0,i8 0,i8 0,i8 0,i8 0,i8 0,i64 0]++rp 9 [i8 0]))]++rp 6 [i8 0,i8 255,i8 1,(.v (.int .u64 0)),bo false,i8 0,i8 0,i8 0,i8 0,i8 0,i8 0]++[(.sl 0 [])])):=by refine⟨?m,?h⟩;case h=>conv=>lhs;cbv
def v2:A:=gv2.m
def aJh:List A:=[v0]
def aJR:A:=(.tup [v2,i64 0])
theorem aV0:EvQ (CS Y34) 10 aJh aJR:=aW 100000 (by kernel_rfl)
def aJG:List A:=[v1]
def aKe:A:=(.tup [v2,i64 0])
theorem aVr:EvQ (CS Y34) 10 aJG aKe:=aW 100000 (by kernel_rfl)
def aQA:List (List A×A):=[(aJh,aJR),(aJG,aKe)]
theorem aHG:∀p∈aQA,EvQ (CS Y34) 10 p.1 p.2:=by unfold aQA;simp only[List.forall_mem_cons,List.not_mem_nil,false_implies,implies_true,and_true];exact⟨aV0,aVr⟩
def Y10:FuncId->List A->Option A:=orX 10 aQA Y34
theorem aB6:QOk Cy.T Tryz.prog Y10:=mQ WR aHG WR
def aJ6:List A:=[v0,v2]
def aJD:A:=(bo true)
theorem aU1:EvQ (CS Y10) 50 aJ6 aJD:=aW 100000 (by kernel_rfl)
def aJB:List A:=[v1,v2]
def aJa:A:=(bo true)
theorem aS0:EvQ (CS Y10) 50 aJB aJa:=aW 100000 (by kernel_rfl)
def gv3:aFd (.agg ([(.sl 1 (rp 9 [i8 0]++[(.sl 0 []),bo true,bo false])),(.sl 1 (rp 16 [i8 0,i8 0,(.v (.int .i8 0)),bo false,i8 0,i8 0,i8 0,i8 0]++[i8 1,i64 1]++rp 3 [i8 0,i8 0,i8 0,i8 0,i8 0,i8 0,i64 0]++[i8 0,i8 0,i8 0,i8 0,i8 0,i8 1,i8 0,i8 0,i8 0]))]++rp 6 [i8 0,i8 255,i8 1,(.v (.int .u64 0)),bo false,i8 0,i8 0,i8 0,i8 0,i8 0,i8 0]++[(.sl 0 [])])):=by refine⟨?m,?h⟩;case h=>conv=>lhs;cbv
def v3:A:=gv3.m
def aKj:List A:=[v1,v3]
def aJS:A:=(bo true)
theorem aUz:EvQ (CS Y10) 50 aKj aJS:=aW 100000 (by kernel_rfl)
def aQr:List (List A×A):=[(aJ6,aJD),(aJB,aJa),(aKj,aJS)]
theorem aFl:∀p∈aQr,EvQ (CS Y10) 50 p.1 p.2:=by unfold aQr;simp only[List.forall_mem_cons,List.not_mem_nil,false_implies,implies_true,and_true];exact⟨aU1,aS0,aUz⟩
def Y50:FuncId->List A->Option A:=orX 50 aQr Y10
theorem WP:QOk Cy.T Tryz.prog Y50:=mQ aB6 aFl aB6
def aJ3:List A:=[v0,v2]
def aJK:A:=(.sl 0 [])
theorem aVa:EvQ (CS Y50) 11 aJ3 aJK:=aW 100000 (by kernel_rfl)
def aJX:List A:=[v1,v2]
def aJU:A:=(.sl 1 ([i8 1]++rp 8 [i8 0]++[bo false,i8 0,i8 0,i8 0,i8 0]))
theorem aVM:EvQ (CS Y50) 11 aJX aJU:=aW 100000 (by kernel_rfl)
def aKr:List A:=[v1,v3]
def aJP:A:=(.sl 1 ([i8 3]++rp 8 [i8 0]++[bo false,i8 0,i8 0,i8 0,i8 0]))
theorem aV1:EvQ (CS Y50) 11 aKr aJP:=aW 100000 (by kernel_rfl)
def aO1:List (List A×A):=[(aJ3,aJK),(aJX,aJU),(aKr,aJP)]
theorem aCw:∀p∈aO1,EvQ (CS Y50) 11 p.1 p.2:=by unfold aO1;simp only[List.forall_mem_cons,List.not_mem_nil,false_implies,implies_true,and_true];exact⟨aVa,aVM,aV1⟩
def Y11:FuncId->List A->Option A:=orX 11 aO1 Y50
theorem YZ:QOk Cy.T Tryz.prog Y11:=mQ WP aCw WP
