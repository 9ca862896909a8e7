/- Closed calls, step by step: a valid world. Printed by genM.py. -/
import Derived.Test.YtcgigdeehcmdkaaGreatDoorL14
set_option linter.all false
namespace Go.Proofs.YtcgigdeehcmdkaaGreatDoor.Ev
open Go Go.RowKit
set_option maxRecDepth 1000000
def gv0:aHp (.agg ([sA #[116],(.sl 1 [sA #[120]]),(.sl 1 [i8 0]),(.sl 1 [(.v (.slice none 0 0))]),i8 1,i8 0,i8 0,i8 0,i8 0,(.v (.slice none 0 0)),i64 1,i64 1,i64 1,i64 1,i64 1,i8 1,i8 1,i8 1,i64 0,bo false,sA #[109,115,105],i8 1,i8 5,(.v (.int .u16 2)),i8 1,i8 6,(.v (.int .u16 4))]++rp 3 [i8 3,i8 0,(.v (.int .u16 0))]++[i8 1,i8 0,(.v (.int .u16 64))]++rp 8 [i8 3,i8 0,(.v (.int .u16 0))]++[i8 1,i8 1,(.v (.int .u16 256)),i8 1,i8 7,(.v (.int .u16 4)),i8 1,i8 0,(.v (.int .u16 512)),i8 3,i8 0,(.v (.int .u16 0)),i8 3,i8 0,(.v (.int .u16 0)),i8 1,i8 0,(.v (.int .u16 576))]++rp 36 [i8 3,i8 0,(.v (.int .u16 0))]++[i8 1,i8 4,(.v (.int .u16 256)),i8 1,i8 4,(.v (.int .u16 256)),i8 1,i8 10,(.v (.int .u16 8)),i8 1,i8 1,(.v (.int .u16 48)),i8 1,i8 0,(.v (.int .u16 528))]++rp 9 [i8 3,i8 0,(.v (.int .u16 0))]++rp 3 [i8 2,i8 0,(.v (.int .u16 0))]++[i8 3,i8 0,(.v (.int .u16 0)),i8 3,i8 0,(.v (.int .u16 0)),i8 1,i8 5,(.v (.int .u16 64)),i8 3,i8 0,(.v (.int .u16 0)),i8 1,i8 1,(.v (.int .u16 385))]++rp 6 [i8 3,i8 0,(.v (.int .u16 0))]++rp 3 [i8 2,i8 0,(.v (.int .u16 0))]++[i8 3,i8 0,(.v (.int .u16 0)),i8 3,i8 0,(.v (.int .u16 0)),i8 1,i8 6,(.v (.int .u16 64)),i8 3,i8 0,(.v (.int .u16 0)),i8 1,i8 4,(.v (.int .u16 385)),i8 3,i8 0,(.v (.int .u16 0)),i8 1,i8 9,(.v (.int .u16 1)),i8 3,i8 0,(.v (.int .u16 0)),i8 3,i8 0,(.v (.int .u16 0)),i8 1,i8 6,(.v (.int .u16 0)),i8 3]++rp 3 [i8 0,(.v (.int .u16 0)),i8 2]++[i8 0,(.v (.int .u16 0)),i8 3,i8 0,(.v (.int .u16 0)),i8 3,i8 0,(.v (.int .u16 0)),i8 1,i8 6,(.v (.int .u16 64)),i8 3,i8 0,(.v (.int .u16 0)),i8 1,i8 4,(.v (.int .u16 385)),i8 3,i8 0,(.v (.int .u16 0)),i8 1,i8 9,(.v (.int .u16 1)),i8 3,i8 0,(.v (.int .u16 0)),i8 3,i8 0,(.v (.int .u16 0)),i8 1,i8 7]++rp 15 [(.v (.int .u16 0)),i8 3,i8 0]++rp 3 [(.v (.int .u16 0)),i8 2,i8 0]++rp 9 [(.v (.int .u16 0)),i8 3,i8 0]++[(.v (.int .u16 0)),i8 1,i8 9,(.v (.int .u16 0)),i8 1,i8 4,(.v (.int .u16 384))]++rp 3 [i8 2,i8 0,(.v (.int .u16 0))]++[i8 1,i8 11,(.v (.int .u16 48)),i8 1,i8 11,(.v (.int .u16 16)),i8 1,i8 11,(.v (.int .u16 64)),i8 1,i8 0,(.v (.int .u16 512))]++rp 7 [i8 3,i8 0,(.v (.int .u16 0))]++rp 3 [i8 2,i8 0,(.v (.int .u16 0))]++[i8 3,i8 0,(.v (.int .u16 0)),i8 3,i8 0,(.v (.int .u16 0)),i8 1,i8 11,(.v (.int .u16 64)),i8 1,i8 0,(.v (.int .u16 512))]++rp 7 [i8 3,i8 0,(.v (.int .u16 0))]++[i8 1,i8 1,(.v (.int .u16 8706)),i8 1,i8 2,(.v (.int .u16 10242)),i8 3,i8 0,(.v (.int .u16 0)),i8 3,i8 0,(.v (.int .u16 0)),i8 1,i8 0,(.v (.int .u16 128)),i8 1,i8 1,(.v (.int .u16 8706)),i8 1,i8 2,(.v (.int .u16 10499)),i8 3,i8 0,(.v (.int .u16 0)),i8 3,i8 0,(.v (.int .u16 0)),i8 1,i8 1,(.v (.int .u16 128)),i8 1,i8 1,(.v (.int .u16 26120)),i8 1,i8 2,(.v (.int .u16 10256)),i8 3,i8 0,(.v (.int .u16 0)),i8 1,i8 0,(.v (.int .u16 4288)),i8 1,i8 2,(.v (.int .u16 128))]++rp 5 [i8 3,i8 0,(.v (.int .u16 0))])):=by refine⟨?m,?h⟩;case h=>conv=>lhs;cbv
def v0:A:=gv0.m
def aMi:List A:=[v0]
def aMB:A:=(bo true)
theorem aWS:EvQ (CS Y74) 34 aMi aMB:=aV 100000 (by kernel_rfl)
def gv1:aHp (.agg ([sA #[116],(.sl 1 [sA #[120]]),(.sl 1 [i8 0]),(.sl 1 [(.sl 1 [i8 1,i8 0,i8 0,bo false,i8 0,bo false,i8 0,i8 0,i8 0,i8 0])]),i8 1,i8 0,i8 0,i8 0,i8 0,(.v (.slice none 0 0)),i64 1,i64 1,i64 1,i64 1,i64 1,i8 1,i8 1,i8 1,i64 0,bo false,sA #[101,109,112,116,121]]++rp 188 [i8 0,i8 0,(.v (.int .u16 0))])):=by refine⟨?m,?h⟩;case h=>conv=>lhs;cbv
def v1:A:=gv1.m
def aMD:List A:=[v1]
def aMM:A:=(bo true)
theorem aWO:EvQ (CS Y74) 34 aMD aMM:=aV 100000 (by kernel_rfl)
def aNM:List (List A×A):=[(aMi,aMB),(aMD,aMM)]
theorem aFO:∀p∈aNM,EvQ (CS Y74) 34 p.1 p.2:=by unfold aNM;simp only[List.forall_mem_cons,List.not_mem_nil,false_implies,implies_true,and_true];exact⟨aWS,aWO⟩
def Y34:FuncId->List A->Option A:=orX 34 aNM Y74
theorem aAd:QOk Cy.T Tryz.prog Y34:=mW aEk aFO aEk
def gv2:aHp (.agg ([(.sl 1 (rp 9 [i8 0]++[(.sl 0 []),bo false,bo false])),(.sl 1 (rp 16 [i8 0,i8 0,(.v (.int .i8 0)),bo false,i8 0,i8 0,i8 0,i8 0]++[i8 1,i64 1]++rp 3 [i8 0,i8 0,i8 0,i8 0,i8 0,i8 0,i64 0]++rp 9 [i8 0]))]++rp 6 [i8 0,i8 255,i8 1,(.v (.int .u64 0)),bo false,i8 0,i8 0,i8 0,i8 0,i8 0,i8 0]++[(.sl 0 [])])):=by refine⟨?m,?h⟩;case h=>conv=>lhs;cbv
def v2:A:=gv2.m
def aMH:List A:=[v0]
def aLI:A:=(.tup [v2,i64 0])
theorem aWP:EvQ (CS Y34) 10 aMH aLI:=aV 100000 (by kernel_rfl)
def aL9:List A:=[v1]
def aLC:A:=(.tup [v2,i64 0])
theorem aWy:EvQ (CS Y34) 10 aL9 aLC:=aV 100000 (by kernel_rfl)
def aNu:List (List A×A):=[(aMH,aLI),(aL9,aLC)]
theorem aGj:∀p∈aNu,EvQ (CS Y34) 10 p.1 p.2:=by unfold aNu;simp only[List.forall_mem_cons,List.not_mem_nil,false_implies,implies_true,and_true];exact⟨aWP,aWy⟩
def Y10:FuncId->List A->Option A:=orX 10 aNu Y34
theorem aBu:QOk Cy.T Tryz.prog Y10:=mW aAd aGj aAd
def aL6:List A:=[v0,v2]
def aLO:A:=(bo true)
theorem aZD:EvQ (CS Y10) 50 aL6 aLO:=aV 100000 (by kernel_rfl)
def aMC:List A:=[v1,v2]
def aMQ:A:=(bo true)
theorem aYo:EvQ (CS Y10) 50 aMC aMQ:=aV 100000 (by kernel_rfl)
def gv3:aHp (.agg ([(.sl 1 (rp 9 [i8 0]++[(.sl 0 []),bo true,bo false])),(.sl 1 (rp 16 [i8 0,i8 0,(.v (.int .i8 0)),bo false,i8 0,i8 0,i8 0,i8 0]++[i8 1,i64 1]++rp 3 [i8 0,i8 0,i8 0,i8 0,i8 0,i8 0,i64 0]++[i8 0,i8 0,i8 0,i8 0,i8 0,i8 1,i8 0,i8 0,i8 0]))]++rp 6 [i8 0,i8 255,i8 1,(.v (.int .u64 0)),bo false,i8 0,i8 0,i8 0,i8 0,i8 0,i8 0]++[(.sl 0 [])])):=by refine⟨?m,?h⟩;case h=>conv=>lhs;cbv
def v3:A:=gv3.m
def aLU:List A:=[v1,v3]
def aMg:A:=(bo true)
theorem aX1:EvQ (CS Y10) 50 aLU aMg:=aV 100000 (by kernel_rfl)
def aR4:List (List A×A):=[(aL6,aLO),(aMC,aMQ),(aLU,aMg)]
theorem aK0:∀p∈aR4,EvQ (CS Y10) 50 p.1 p.2:=by unfold aR4;simp only[List.forall_mem_cons,List.not_mem_nil,false_implies,implies_true,and_true];exact⟨aZD,aYo,aX1⟩
def Y50:FuncId->List A->Option A:=orX 50 aR4 Y10
theorem aDH:QOk Cy.T Tryz.prog Y50:=mW aBu aK0 aBu
def aMN:List A:=[v0,v2]
def aLN:A:=(.sl 0 [])
theorem aU0:EvQ (CS Y50) 11 aMN aLN:=aV 100000 (by kernel_rfl)
def aLD:List A:=[v1,v2]
def aLW:A:=(.sl 1 ([i8 1]++rp 8 [i8 0]++[bo false,i8 0,i8 0,i8 0,i8 0]))
theorem aV2:EvQ (CS Y50) 11 aLD aLW:=aV 100000 (by kernel_rfl)
def aMI:List A:=[v1,v3]
def aMq:A:=(.sl 1 ([i8 3]++rp 8 [i8 0]++[bo false,i8 0,i8 0,i8 0,i8 0]))
theorem aXC:EvQ (CS Y50) 11 aMI aMq:=aV 100000 (by kernel_rfl)
def aT5:List (List A×A):=[(aMN,aLN),(aLD,aLW),(aMI,aMq)]
theorem aGy:∀p∈aT5,EvQ (CS Y50) 11 p.1 p.2:=by unfold aT5;simp only[List.forall_mem_cons,List.not_mem_nil,false_implies,implies_true,and_true];exact⟨aU0,aV2,aXC⟩
def Y11:FuncId->List A->Option A:=orX 11 aT5 Y50
theorem aD8:QOk Cy.T Tryz.prog Y11:=mW aDH aGy aDH
def aLE:List A:=[v1,v2,(.agg ([i8 1]++rp 8 [i8 0]++[bo false,i8 0,i8 0,i8 0,i8 0]))]
def aLR:A:=(.tup [v3,(.sl 0 []),i64 0])
theorem aVZ:EvQ (CS Y11) 14 aLE aLR:=aV 100000 (by kernel_rfl)
def aMz:List A:=[v1,v3,(.agg ([i8 3]++rp 8 [i8 0]++[bo false,i8 0,i8 0,i8 0,i8 0]))]
def aL7:A:=(.tup [(.agg ([(.sl 0 []),(.sl 0 [])]++rp 6 [i8 0,i8 0,i8 0,(.v (.int .u64 0)),bo false,i8 0,i8 0,i8 0,i8 0,i8 0,i8 0]++[(.sl 0 [])])),(.sl 0 []),i64 270])
theorem aVB:EvQ (CS Y11) 14 aMz aL7:=aV 100000 (by kernel_rfl)
def aP8:List (List A×A):=[(aLE,aLR),(aMz,aL7)]
theorem aHi:∀p∈aP8,EvQ (CS Y11) 14 p.1 p.2:=by unfold aP8;simp only[List.forall_mem_cons,List.not_mem_nil,false_implies,implies_true,and_true];exact⟨aVZ,aVB⟩
def Y14:FuncId->List A->Option A:=orX 14 aP8 Y11
theorem aDy:QOk Cy.T Tryz.prog Y14:=mW aD8 aHi aD8
