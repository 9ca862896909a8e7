/- Closed calls, step by step: states that fit. Printed by genM.py. -/
import Derived.Test.YtfkegfjggibdhaaGreatDoorN10
set_option linter.all false
namespace Go.Proofs.YtfkegfjggibdhaaGreatDoor.Ev
open Go Go.RowKit
set_option maxRecDepth 1000000
def aIa:List A:=[v0,v1]
def aIo:A:=(bo true)
theorem aVL:EvQ (CS Y17) 14 aIa aIo:=aT 100000 (by kernel_rfl)
def gv2:IZ (.sl 2 (rp 9 [i8 0]++[(.sl 0 []),bo true,bo false]++rp 9 [i8 0]++[(.sl 0 []),bo false,bo false])):=by refine⟨?m,?h⟩;case h=>conv=>lhs;cbv
def v2:A:=gv2.m
def gv3:IZ (.agg ([v2,(.sl 2 (rp 16 [i8 0,i8 0,(.v (.int .i8 0)),bo false,i8 0,i8 0,i8 0,i8 0]++[i8 1,i64 1]++rp 3 [i8 0,i8 0,i8 0,i8 0,i8 0,i8 0,i64 0]++[i8 0,i8 0,i8 0,i8 0,i8 0,i8 2,i8 0,i8 1]++rp 16 [i8 0,i8 0,i8 0,(.v (.int .i8 0)),bo false,i8 0,i8 0,i8 0]++[i8 0,i8 1,i64 1]++rp 3 [i8 0,i8 0,i8 0,i8 0,i8 0,i8 0,i64 0]++rp 9 [i8 0]))]++rp 6 [i8 0,i8 255,i8 1,(.v (.int .u64 0)),bo false,i8 0,i8 0,i8 0,i8 0,i8 0,i8 0]++[(.sl 0 [])])):=by refine⟨?m,?h⟩;case h=>conv=>lhs;cbv
def v3:A:=gv3.m
def aIf:List A:=[v0,v3]
def aIp:A:=(bo true)
theorem aTR:EvQ (CS Y17) 14 aIf aIp:=aT 100000 (by kernel_rfl)
def gv4:IZ (.agg ([v2,(.sl 2 ([i8 0,i8 6]++rp 15 [(.v (.int .i8 0)),bo false,i8 0,i8 0,i8 0,i8 0,i8 0,i8 0]++[(.v (.int .i8 0)),bo false,i8 0,i8 0,i8 0,i8 0,i8 1,i64 1]++rp 3 [i8 0,i8 0,i8 0,i8 0,i8 0,i8 0,i64 0]++[i8 0,i8 0,i8 0,i8 0,i8 0,i8 2,i8 0,i8 1]++rp 16 [i8 0,i8 0,i8 0,(.v (.int .i8 0)),bo false,i8 0,i8 0,i8 0]++[i8 0,i8 1,i64 1]++rp 3 [i8 0,i8 0,i8 0,i8 0,i8 0,i8 0,i64 0]++rp 9 [i8 0]))]++rp 6 [i8 0,i8 255,i8 1,(.v (.int .u64 0)),bo false,i8 0,i8 0,i8 0,i8 0,i8 0,i8 0]++[(.sl 1 [i8 2,i8 0,i8 2,i8 0,i8 0,i8 0,bo false,i8 0,i8 0,i8 0,i8 0])])):=by refine⟨?m,?h⟩;case h=>conv=>lhs;cbv
def v4:A:=gv4.m
def aH0:List A:=[v0,v4]
def aHR:A:=(bo true)
theorem aVq:EvQ (CS Y17) 14 aH0 aHR:=aT 100000 (by kernel_rfl)
def aQq:List (List A×A):=[(aIa,aIo),(aIf,aIp),(aH0,aHR)]
theorem aFr:∀p∈aQq,EvQ (CS Y17) 14 p.1 p.2:=by unfold aQq;simp only[jh,jn,kn,lm,iu];exact⟨aVL,aTR,aVq⟩
def Y10:FuncId->List A->Option A:=orX 14 aQq Y17
theorem aDD:QOk Cy.T Tryz.prog Y10:=wW aDh aFr aDh
def gv5:IZ (.sl 2 ([i8 1]++rp 8 [i8 0]++[bo false,i8 0,i8 0,i8 0,i8 0,i8 1,i8 1]++rp 7 [i8 0]++[bo false,i8 0,i8 0,i8 0,i8 0])):=by refine⟨?m,?h⟩;case h=>conv=>lhs;cbv
def v5:A:=gv5.m
def aTF:List A:=[v0,v1]
def aUQ:A:=v5
theorem aZJ:EvQ (CS Y10) 11 aTF aUQ:=aT 100000 (by kernel_rfl)
def gv6:IZ (.sl 2 ([i8 1,i8 1]++rp 7 [i8 0]++[bo false,i8 0,i8 0,i8 0,i8 0,i8 3]++rp 8 [i8 0]++[bo false,i8 0,i8 0,i8 0,i8 0])):=by refine⟨?m,?h⟩;case h=>conv=>lhs;cbv
def v6:A:=gv6.m
def aWm:List A:=[v0,v3]
def aWE:A:=v6
theorem aZf:EvQ (CS Y10) 11 aWm aWE:=aT 100000 (by kernel_rfl)
def gv7:IZ (.sl 2 ([i8 1,i8 1]++rp 7 [i8 0]++[bo false,i8 0,i8 0,i8 0,i8 0,i8 5,i8 0,i8 0,i8 2,i8 0,i8 2,i8 0,i8 0,i8 0,bo false,i8 0,i8 0,i8 0,i8 0])):=by refine⟨?m,?h⟩;case h=>conv=>lhs;cbv
def v7:A:=gv7.m
def aXR:List A:=[v0,v4]
def aXP:A:=v7
theorem aYO:EvQ (CS Y10) 11 aXR aXP:=aT 100000 (by kernel_rfl)
def mt8:List (List A×A):=[(aTF,aUQ),(aWm,aWE),(aXR,aXP)]
theorem aP9:∀p∈mt8,EvQ (CS Y10) 11 p.1 p.2:=by unfold mt8;simp only[jh,jn,kn,lm,iu];exact⟨aZJ,aZf,aYO⟩
def Y8:FuncId->List A->Option A:=orX 11 mt8 Y10
theorem aIk:QOk Cy.T Tryz.prog Y8:=wW aDD aP9 aDD
def aIg:List A:=[v0,v1,(.agg ([i8 1]++rp 8 [i8 0]++[bo false,i8 0,i8 0,i8 0,i8 0]))]
def aIb:A:=(.tup [v3,(.sl 0 []),i64 0])
theorem aUl:EvQ (CS Y8) 13 aIg aIb:=aT 100000 (by kernel_rfl)
def aH9:List A:=[v0,v3,(.agg ([i8 3]++rp 8 [i8 0]++[bo false,i8 0,i8 0,i8 0,i8 0]))]
def aIq:A:=(.tup [v4,(.sl 0 []),i64 0])
theorem aT9:EvQ (CS Y8) 13 aH9 aIq:=aT 100000 (by kernel_rfl)
def aOM:List (List A×A):=[(aIg,aIb),(aH9,aIq)]
theorem aFG:∀p∈aOM,EvQ (CS Y8) 13 p.1 p.2:=by unfold aOM;simp only[jh,jn,kn,lm,iu];exact⟨aUl,aT9⟩
def Y11:FuncId->List A->Option A:=orX 13 aOM Y8
theorem aQw:QOk Cy.T Tryz.prog Y11:=wW aIk aFG aIk
theorem XQ:EvQ (CS Y11) 8 [] (bo true):=aT 100000 (by kernel_rfl)
