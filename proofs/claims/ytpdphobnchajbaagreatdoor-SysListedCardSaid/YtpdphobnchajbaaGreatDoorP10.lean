/- Closed calls, step by step: a valid world. Printed by genM.py. -/
import Derived.Test.YtpdphobnchajbaaGreatDoorP09
set_option linter.unusedSimpArgs false
set_option linter.unusedVariables false
namespace Go.Proofs.YtpdphobnchajbaaGreatDoor.Ev
open Go Go.RowKit
set_option maxRecDepth 1000000
def gv0:GotA (.agg ([sA #[116],(.sl 1 [sA #[120]]),(.sl 1 [i8 0]),(.sl 2 [(.sl 1 [i8 2,i8 0,i8 0,bo false,i8 1,bo false,i8 0,i8 0,i8 0,i8 0]),(.sl 1 [i8 1,i8 0,i8 0,bo false,i8 0,bo false,i8 0,i8 0,i8 0,i8 0])]),i8 1,i8 0,i8 0,i8 0,i8 0,(.v (.slice none 0 0)),i64 2,i64 1,i64 1,i64 1,i64 1,i8 1,i8 1,i8 1,i64 0,bo false,sA #[109,115,105],i8 1,i8 5,(.v (.int .u16 2)),i8 1,i8 6,(.v (.int .u16 4))]++rp 3 [i8 3,i8 0,(.v (.int .u16 0))]++[i8 1,i8 0,(.v (.int .u16 64))]++rp 8 [i8 3,i8 0,(.v (.int .u16 0))]++[i8 1,i8 1,(.v (.int .u16 256)),i8 1,i8 7,(.v (.int .u16 4)),i8 1,i8 0,(.v (.int .u16 512)),i8 3,i8 0,(.v (.int .u16 0)),i8 3,i8 0,(.v (.int .u16 0)),i8 1,i8 0,(.v (.int .u16 576))]++rp 36 [i8 3,i8 0,(.v (.int .u16 0))]++[i8 1,i8 4,(.v (.int .u16 256)),i8 1,i8 4,(.v (.int .u16 256)),i8 1,i8 10,(.v (.int .u16 8)),i8 1,i8 1,(.v (.int .u16 48)),i8 1,i8 0,(.v (.int .u16 528))]++rp 9 [i8 3,i8 0,(.v (.int .u16 0))]++rp 3 [i8 2,i8 0,(.v (.int .u16 0))]++[i8 3,i8 0,(.v (.int .u16 0)),i8 3,i8 0,(.v (.int .u16 0)),i8 1,i8 5,(.v (.int .u16 64)),i8 3,i8 0,(.v (.int .u16 0)),i8 1,i8 1,(.v (.int .u16 385))]++rp 6 [i8 3,i8 0,(.v (.int .u16 0))]++rp 3 [i8 2,i8 0,(.v (.int .u16 0))]++[i8 3,i8 0,(.v (.int .u16 0)),i8 3,i8 0,(.v (.int .u16 0)),i8 1,i8 6,(.v (.int .u16 64)),i8 3,i8 0,(.v (.int .u16 0)),i8 1,i8 4,(.v (.int .u16 385)),i8 3,i8 0,(.v (.int .u16 0)),i8 1,i8 9,(.v (.int .u16 1)),i8 3,i8 0,(.v (.int .u16 0)),i8 3,i8 0,(.v (.int .u16 0)),i8 1,i8 6,(.v (.int .u16 0)),i8 3]++rp 3 [i8 0,(.v (.int .u16 0)),i8 2]++[i8 0,(.v (.int .u16 0)),i8 3,i8 0,(.v (.int .u16 0)),i8 3,i8 0,(.v (.int .u16 0)),i8 1,i8 6,(.v (.int .u16 64)),i8 3,i8 0,(.v (.int .u16 0)),i8 1,i8 4,(.v (.int .u16 385)),i8 3,i8 0,(.v (.int .u16 0)),i8 1,i8 9,(.v (.int .u16 1)),i8 3,i8 0,(.v (.int .u16 0)),i8 3,i8 0,(.v (.int .u16 0)),i8 1,i8 7]++rp 15 [(.v (.int .u16 0)),i8 3,i8 0]++rp 3 [(.v (.int .u16 0)),i8 2,i8 0]++rp 9 [(.v (.int .u16 0)),i8 3,i8 0]++[(.v (.int .u16 0)),i8 1,i8 9,(.v (.int .u16 0)),i8 1,i8 4,(.v (.int .u16 384))]++rp 3 [i8 2,i8 0,(.v (.int .u16 0))]++[i8 1,i8 11,(.v (.int .u16 48)),i8 1,i8 11,(.v (.int .u16 16)),i8 1,i8 11,(.v (.int .u16 64)),i8 1,i8 0,(.v (.int .u16 512))]++rp 7 [i8 3,i8 0,(.v (.int .u16 0))]++rp 3 [i8 2,i8 0,(.v (.int .u16 0))]++[i8 3,i8 0,(.v (.int .u16 0)),i8 3,i8 0,(.v (.int .u16 0)),i8 1,i8 11,(.v (.int .u16 64)),i8 1,i8 0,(.v (.int .u16 512))]++rp 7 [i8 3,i8 0,(.v (.int .u16 0))]++[i8 1,i8 1,(.v (.int .u16 8706)),i8 1,i8 2,(.v (.int .u16 10242)),i8 3,i8 0,(.v (.int .u16 0)),i8 3,i8 0,(.v (.int .u16 0)),i8 1,i8 0,(.v (.int .u16 128)),i8 1,i8 1,(.v (.int .u16 8706)),i8 1,i8 2,(.v (.int .u16 10499)),i8 3,i8 0,(.v (.int .u16 0)),i8 3,i8 0,(.v (.int .u16 0)),i8 1,i8 1,(.v (.int .u16 128)),i8 1,i8 1,(.v (.int .u16 26120)),i8 1,i8 2,(.v (.int .u16 10256)),i8 3,i8 0,(.v (.int .u16 0)),i8 1,i8 0,(.v (.int .u16 4288)),i8 1,i8 2,(.v (.int .u16 128))]++rp 5 [i8 3,i8 0,(.v (.int .u16 0))])):=by
 refine⟨?m,?h⟩
 case h=>conv=>lhs;cbv
def v0:A:=gv0.m
def a9_0:List A:=[v0]
def r9_0:A:=(bo true)
theorem q9_0:EvQ (CS Y35) 9 a9_0 r9_0:=evQ_fast 100000 (by kernel_rfl)
def mt9:List (List A×A):=[(a9_0,r9_0)]
theorem mt9_ok:∀ p∈mt9,EvQ (CS Y35) 9 p.1 p.2:=by
 unfold mt9
 simp only[List.forall_mem_cons,List.not_mem_nil,false_implies,implies_true,and_true]
 exact q9_0
def Y9:FuncId→List A→Option A:=orX 9 mt9 Y35
theorem Y9_ok:QOk Cy.T Tryz.prog Y9:=orX_ok Y35_ok mt9_ok Y35_ok
def gv1:GotA (.agg ([(.sl 2 (rp 2 (rp 9 [i8 0]++[(.sl 0 []),bo false,bo false]))),(.sl 2 (rp 16 [i8 0,i8 0,(.v (.int .i8 0)),bo false,i8 0,i8 0,i8 0,i8 0]++[i8 1,i64 1]++rp 3 [i8 0,i8 0,i8 0,i8 0,i8 0,i8 0,i64 0]++rp 11 [i8 0]++rp 15 [(.v (.int .i8 0)),bo false,i8 0,i8 0,i8 0,i8 0,i8 0,i8 0]++[(.v (.int .i8 0)),bo false,i8 0,i8 0,i8 0,i8 0,i8 1,i64 1]++rp 3 [i8 0,i8 0,i8 0,i8 0,i8 0,i8 0,i64 0]++rp 9 [i8 0]))]++rp 6 [i8 0,i8 255,i8 1,(.v (.int .u64 0)),bo false,i8 0,i8 0,i8 0,i8 0,i8 0,i8 0]++[(.sl 0 [])])):=by
 refine⟨?m,?h⟩
 case h=>conv=>lhs;cbv
def v1:A:=gv1.m
def a17_0:List A:=[v0]
def r17_0:A:=(.tup [v1,i64 0])
theorem q17_0:EvQ (CS Y9) 17 a17_0 r17_0:=evQ_fast 100000 (by kernel_rfl)
def mt17:List (List A×A):=[(a17_0,r17_0)]
theorem mt17_ok:∀ p∈mt17,EvQ (CS Y9) 17 p.1 p.2:=by
 unfold mt17
 simp only[List.forall_mem_cons,List.not_mem_nil,false_implies,implies_true,and_true]
 exact q17_0
def Y17:FuncId→List A→Option A:=orX 17 mt17 Y9
theorem Y17_ok:QOk Cy.T Tryz.prog Y17:=orX_ok Y9_ok mt17_ok Y9_ok
def a10_0:List A:=[v0,v1]
def r10_0:A:=(bo true)
theorem q10_0:EvQ (CS Y17) 10 a10_0 r10_0:=evQ_fast 100000 (by kernel_rfl)
def gv2:GotA (.sl 2 (rp 9 [i8 0]++[(.sl 0 []),bo true,bo false]++rp 9 [i8 0]++[(.sl 0 []),bo false,bo false])):=by
 refine⟨?m,?h⟩
 case h=>conv=>lhs;cbv
def v2:A:=gv2.m
def gv3:GotA (.agg ([v2,(.sl 2 (rp 16 [i8 0,i8 0,(.v (.int .i8 0)),bo false,i8 0,i8 0,i8 0,i8 0]++[i8 1,i64 1]++rp 3 [i8 0,i8 0,i8 0,i8 0,i8 0,i8 0,i64 0]++[i8 0,i8 0,i8 0,i8 0,i8 0,i8 2,i8 0,i8 1]++rp 16 [i8 0,i8 0,i8 0,(.v (.int .i8 0)),bo false,i8 0,i8 0,i8 0]++[i8 0,i8 1,i64 1]++rp 3 [i8 0,i8 0,i8 0,i8 0,i8 0,i8 0,i64 0]++rp 9 [i8 0]))]++rp 6 [i8 0,i8 255,i8 1,(.v (.int .u64 0)),bo false,i8 0,i8 0,i8 0,i8 0,i8 0,i8 0]++[(.sl 0 [])])):=by
 refine⟨?m,?h⟩
 case h=>conv=>lhs;cbv
def v3:A:=gv3.m
def a10_1:List A:=[v0,v3]
def r10_1:A:=(bo true)
theorem q10_1:EvQ (CS Y17) 10 a10_1 r10_1:=evQ_fast 100000 (by kernel_rfl)
def gv4:GotA (.agg ([v2,(.sl 2 ([i8 0,i8 6]++rp 15 [(.v (.int .i8 0)),bo false,i8 0,i8 0,i8 0,i8 0,i8 0,i8 0]++[(.v (.int .i8 0)),bo false,i8 0,i8 0,i8 0,i8 0,i8 1,i64 1]++rp 3 [i8 0,i8 0,i8 0,i8 0,i8 0,i8 0,i64 0]++[i8 0,i8 0,i8 0,i8 0,i8 0,i8 2,i8 0,i8 1]++rp 16 [i8 0,i8 0,i8 0,(.v (.int .i8 0)),bo false,i8 0,i8 0,i8 0]++[i8 0,i8 1,i64 1]++rp 3 [i8 0,i8 0,i8 0,i8 0,i8 0,i8 0,i64 0]++rp 9 [i8 0]))]++rp 6 [i8 0,i8 255,i8 1,(.v (.int .u64 0)),bo false,i8 0,i8 0,i8 0,i8 0,i8 0,i8 0]++[(.sl 1 [i8 2,i8 0,i8 2,i8 0,i8 0,i8 0,bo false,i8 0,i8 0,i8 0,i8 0])])):=by
 refine⟨?m,?h⟩
 case h=>conv=>lhs;cbv
def v4:A:=gv4.m
def a10_2:List A:=[v0,v4]
def r10_2:A:=(bo true)
theorem q10_2:EvQ (CS Y17) 10 a10_2 r10_2:=evQ_fast 100000 (by kernel_rfl)
def mt10:List (List A×A):=[(a10_0,r10_0),(a10_1,r10_1),(a10_2,r10_2)]
theorem mt10_ok:∀ p∈mt10,EvQ (CS Y17) 10 p.1 p.2:=by
 unfold mt10
 simp only[List.forall_mem_cons,List.not_mem_nil,false_implies,implies_true,and_true]
 exact⟨q10_0,q10_1,q10_2⟩
def Y10:FuncId→List A→Option A:=orX 10 mt10 Y17
theorem Y10_ok:QOk Cy.T Tryz.prog Y10:=orX_ok Y17_ok mt10_ok Y17_ok
end Go.Proofs.YtpdphobnchajbaaGreatDoor.Ev
