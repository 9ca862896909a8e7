/- awake of layer 34: Play and Replay in their caller's blocks. -/
import Derived.Test.YtpdphobnchajbaaGreatDoorQ06
import Derived.Test.YtpdphobnchajbaaGreatDoorQ03
set_option linter.unusedSimpArgs false
set_option linter.unusedVariables false
namespace Go.Proofs.YtpdphobnchajbaaGreatDoor.Ev
open Go Go.RowKit
set_option maxRecDepth 100000
def aBJ(f:FuncId):Option (List A→aG→Option (A×aG)):=bif Nat.beq f 77 then some (M5 Cy)else ML f
theorem aCn:∀ f g zs H x H',aBJ f=some g→g zs H=some (x,H')→q8 Cy.T Tryz.prog f zs H x H':=by
 intro f g zs H x H' hg h
 unfold aBJ at hg
 cases h1:Nat.beq f 77 with
 |true =>
  obtain rfl:=Nat.eq_of_beq_eq_true h1
  rw[h1,cond_true]at hg
  obtain rfl:=Option.some.inj hg
  exact aDV rM h
 |false =>
  rw[h1,cond_false]at hg
  exact rM.extO f g zs H x H' hg h
def aDo(f:FuncId):Option MFn:=bif Nat.beq f 16||Nat.beq f 23 then(Cy.B f).map fun m=>{ m with mode:=.pass }else Cy.B f
theorem aC0:∀ f m,aDo f=some m→aQ Tryz.prog f m:=by
 intro f m h
 unfold aDo at h
 cases hb:Nat.beq f 16||Nat.beq f 23 with
 |true =>
  rw[hb,cond_true]at h
  cases h1:Cy.B f with
  |none=>rw[h1]at h;cases h
  |some m0 =>
   rw[h1]at h
   obtain rfl:=Option.some.inj h
   exact rM.fns f m0 h1
 |false =>
  rw[hb,cond_false]at h
  exact rM.fns f m h
abbrev i8(n:Int):A:=.v (.int .u8 n)
abbrev i64(n:Int):A:=.v (.int .i64 n)
abbrev bo(b:Bool):A:=.v (.bool b)
abbrev sA(l:Array UInt8):A:=.v (.string ⟨l⟩)
def rp(n:Nat)(l:List A):List A:=(List.replicate n l).flatten
structure A8(a:A) where
 m:A
 h:a=m
def CS(X:FuncId→List A→Option A):Ctx:=⟨Cy.T,aDo,X,aBJ⟩
theorem aOu{X:FuncId→List A→Option A}(h:QOk Cy.T Tryz.prog X):kG Tryz.prog (CS X):=⟨rM.mixed,rM.types,rM.loops,aC0,h,aCn⟩
theorem aN4:QOk Cy.T Tryz.prog z7:=rM.ext
def SR:List (List A×A)→List A→Option A
 |[],_=>none
 |p::l,zs=>bif eqL p.1 zs then some p.2 else SR l zs
theorem B0:∀{l:List (List A×A)} {zs:List A} {r:A},SR l zs=some r→(zs,r)∈l
 |[],_,_,h=>by cases h
 |p::l,zs,r,h=>by
  unfold SR at h
  cases hb:eqL p.1 zs with
  |true =>
   simp only[hb,cond_true,Option.some.injEq]at h
   rw[← h,← mT _ _ hb]
   exact .head _
  |false =>
   simp only[hb,cond_false]at h
   exact .tail _ (B0 h)
def orX(f0:Nat)(t:List (List A×A))(X:FuncId→List A→Option A)(f:FuncId)(zs:List A):Option A:=bif Nat.beq f f0 then SR t zs else X f zs
theorem sI{X0 X:FuncId→List A→Option A}{f0:Nat}{t:List (List A×A)}(h0:QOk Cy.T Tryz.prog X0)(ht:∀ p∈t,EvQ (CS X0) f0 p.1 p.2)(hX:QOk Cy.T Tryz.prog X):QOk Cy.T Tryz.prog (orX f0 t X):=by
 intro f zs r h
 unfold orX at h
 cases hb:Nat.beq f f0 with
 |false =>
  simp only[hb,cond_false]at h
  exact hX f zs r h
 |true =>
  obtain rfl:=Nat.eq_of_beq_eq_true hb
  simp only[hb,cond_true]at h
  obtain⟨N,hN⟩:=ht _ (B0 h)
  exact(jB (aOu h0) N).1 f zs r hN
set_option maxRecDepth 1000000
def gv0:A8 (.agg ([sA #[109,115,105],i8 1,i8 5,(.v (.int .u16 2)),i8 1,i8 6,(.v (.int .u16 4))]++rp 3 [i8 3,i8 0,(.v (.int .u16 0))]++[i8 1,i8 0,(.v (.int .u16 64))]++rp 8 [i8 3,i8 0,(.v (.int .u16 0))]++[i8 1,i8 1,(.v (.int .u16 256)),i8 1,i8 7,(.v (.int .u16 4)),i8 1,i8 0,(.v (.int .u16 512)),i8 3,i8 0,(.v (.int .u16 0)),i8 3,i8 0,(.v (.int .u16 0)),i8 1,i8 0,(.v (.int .u16 576))]++rp 36 [i8 3,i8 0,(.v (.int .u16 0))]++[i8 1,i8 4,(.v (.int .u16 256)),i8 1,i8 4,(.v (.int .u16 256)),i8 1,i8 10,(.v (.int .u16 8)),i8 1,i8 1,(.v (.int .u16 48)),i8 1,i8 0,(.v (.int .u16 528))]++rp 9 [i8 3,i8 0,(.v (.int .u16 0))]++rp 3 [i8 2,i8 0,(.v (.int .u16 0))]++[i8 3,i8 0,(.v (.int .u16 0)),i8 3,i8 0,(.v (.int .u16 0)),i8 1,i8 5,(.v (.int .u16 64)),i8 3,i8 0,(.v (.int .u16 0)),i8 1,i8 1,(.v (.int .u16 385))]++rp 6 [i8 3,i8 0,(.v (.int .u16 0))]++rp 3 [i8 2,i8 0,(.v (.int .u16 0))]++[i8 3,i8 0,(.v (.int .u16 0)),i8 3,i8 0,(.v (.int .u16 0)),i8 1,i8 6,(.v (.int .u16 64)),i8 3,i8 0,(.v (.int .u16 0)),i8 1,i8 4,(.v (.int .u16 385)),i8 3,i8 0,(.v (.int .u16 0)),i8 1,i8 9,(.v (.int .u16 1)),i8 3,i8 0,(.v (.int .u16 0)),i8 3,i8 0,(.v (.int .u16 0)),i8 1,i8 6,(.v (.int .u16 0)),i8 3]++rp 3 [i8 0,(.v (.int .u16 0)),i8 2]++[i8 0,(.v (.int .u16 0)),i8 3,i8 0,(.v (.int .u16 0)),i8 3,i8 0,(.v (.int .u16 0)),i8 1,i8 6,(.v (.int .u16 64)),i8 3,i8 0,(.v (.int .u16 0)),i8 1,i8 4,(.v (.int .u16 385)),i8 3,i8 0,(.v (.int .u16 0)),i8 1,i8 9,(.v (.int .u16 1)),i8 3,i8 0,(.v (.int .u16 0)),i8 3,i8 0,(.v (.int .u16 0)),i8 1,i8 7]++rp 15 [(.v (.int .u16 0)),i8 3,i8 0]++rp 3 [(.v (.int .u16 0)),i8 2,i8 0]++rp 9 [(.v (.int .u16 0)),i8 3,i8 0]++[(.v (.int .u16 0)),i8 1,i8 9,(.v (.int .u16 0)),i8 1,i8 4,(.v (.int .u16 384))]++rp 3 [i8 2,i8 0,(.v (.int .u16 0))]++[i8 1,i8 11,(.v (.int .u16 48)),i8 1,i8 11,(.v (.int .u16 16)),i8 1,i8 11,(.v (.int .u16 64)),i8 1,i8 0,(.v (.int .u16 512))]++rp 7 [i8 3,i8 0,(.v (.int .u16 0))]++rp 3 [i8 2,i8 0,(.v (.int .u16 0))]++[i8 3,i8 0,(.v (.int .u16 0)),i8 3,i8 0,(.v (.int .u16 0)),i8 1,i8 11,(.v (.int .u16 64)),i8 1,i8 0,(.v (.int .u16 512))]++rp 7 [i8 3,i8 0,(.v (.int .u16 0))]++[i8 1,i8 1,(.v (.int .u16 8706)),i8 1,i8 2,(.v (.int .u16 10242)),i8 3,i8 0,(.v (.int .u16 0)),i8 3,i8 0,(.v (.int .u16 0)),i8 1,i8 0,(.v (.int .u16 128)),i8 1,i8 1,(.v (.int .u16 8706)),i8 1,i8 2,(.v (.int .u16 10499)),i8 3,i8 0,(.v (.int .u16 0)),i8 3,i8 0,(.v (.int .u16 0)),i8 1,i8 1,(.v (.int .u16 128)),i8 1,i8 1,(.v (.int .u16 26120)),i8 1,i8 2,(.v (.int .u16 10256)),i8 3,i8 0,(.v (.int .u16 0)),i8 1,i8 0,(.v (.int .u16 4288)),i8 1,i8 2,(.v (.int .u16 128))]++rp 5 [i8 3,i8 0,(.v (.int .u16 0))])):=by
 refine⟨?m,?h⟩
 case h=>conv=>lhs;cbv
def v0:A:=gv0.m
def aOe:List A:=[(i8 1)]
def aNX:A:=(.tup [v0,i64 0])
theorem a88:EvQ (CS z7) 56 aOe aNX:=bI 100000 (by kernel_rfl)
def aTj:List (List A×A):=[(aOe,aNX)]
theorem aMd:∀ p∈aTj,EvQ (CS z7) 56 p.1 p.2:=by
 unfold aTj
 simp only[List.forall_mem_cons,List.not_mem_nil,false_implies,implies_true,and_true]
 exact a88
def Y56:FuncId→List A→Option A:=orX 56 aTj z7
theorem aB4:QOk Cy.T Tryz.prog Y56:=sI aN4 aMd aN4
def aN0:List A:=[v0]
def aNZ:A:=(bo true)
theorem a5N:EvQ (CS Y56) 35 aN0 aNZ:=bI 100000 (by kernel_rfl)
def aQI:List (List A×A):=[(aN0,aNZ)]
theorem aG0:∀ p∈aQI,EvQ (CS Y56) 35 p.1 p.2:=by
 unfold aQI
 simp only[List.forall_mem_cons,List.not_mem_nil,false_implies,implies_true,and_true]
 exact a5N
def Y35:FuncId→List A→Option A:=orX 35 aQI Y56
theorem aBi:QOk Cy.T Tryz.prog Y35:=sI aB4 aG0 aB4
def gv1:A8 (.agg ([sA #[116],(.sl 1 [sA #[120]]),(.sl 1 [i8 0]),(.sl 1 [(.sl 1 [i8 2,i8 0,i8 0,bo false,i8 1,bo false,i8 0,i8 0,i8 0,i8 0])]),i8 1,i8 0,i8 0,i8 0,i8 0,(.v (.slice none 0 0)),i64 2,i64 1,i64 1,i64 1,i64 1,i8 1,i8 1,i8 1,i64 0,bo false,sA #[109,115,105],i8 1,i8 5,(.v (.int .u16 2)),i8 1,i8 6,(.v (.int .u16 4))]++rp 3 [i8 3,i8 0,(.v (.int .u16 0))]++[i8 1,i8 0,(.v (.int .u16 64))]++rp 8 [i8 3,i8 0,(.v (.int .u16 0))]++[i8 1,i8 1,(.v (.int .u16 256)),i8 1,i8 7,(.v (.int .u16 4)),i8 1,i8 0,(.v (.int .u16 512)),i8 3,i8 0,(.v (.int .u16 0)),i8 3,i8 0,(.v (.int .u16 0)),i8 1,i8 0,(.v (.int .u16 576))]++rp 36 [i8 3,i8 0,(.v (.int .u16 0))]++[i8 1,i8 4,(.v (.int .u16 256)),i8 1,i8 4,(.v (.int .u16 256)),i8 1,i8 10,(.v (.int .u16 8)),i8 1,i8 1,(.v (.int .u16 48)),i8 1,i8 0,(.v (.int .u16 528))]++rp 9 [i8 3,i8 0,(.v (.int .u16 0))]++rp 3 [i8 2,i8 0,(.v (.int .u16 0))]++[i8 3,i8 0,(.v (.int .u16 0)),i8 3,i8 0,(.v (.int .u16 0)),i8 1,i8 5,(.v (.int .u16 64)),i8 3,i8 0,(.v (.int .u16 0)),i8 1,i8 1,(.v (.int .u16 385))]++rp 6 [i8 3,i8 0,(.v (.int .u16 0))]++rp 3 [i8 2,i8 0,(.v (.int .u16 0))]++[i8 3,i8 0,(.v (.int .u16 0)),i8 3,i8 0,(.v (.int .u16 0)),i8 1,i8 6,(.v (.int .u16 64)),i8 3,i8 0,(.v (.int .u16 0)),i8 1,i8 4,(.v (.int .u16 385)),i8 3,i8 0,(.v (.int .u16 0)),i8 1,i8 9,(.v (.int .u16 1)),i8 3,i8 0,(.v (.int .u16 0)),i8 3,i8 0,(.v (.int .u16 0)),i8 1,i8 6,(.v (.int .u16 0)),i8 3]++rp 3 [i8 0,(.v (.int .u16 0)),i8 2]++[i8 0,(.v (.int .u16 0)),i8 3,i8 0,(.v (.int .u16 0)),i8 3,i8 0,(.v (.int .u16 0)),i8 1,i8 6,(.v (.int .u16 64)),i8 3,i8 0,(.v (.int .u16 0)),i8 1,i8 4,(.v (.int .u16 385)),i8 3,i8 0,(.v (.int .u16 0)),i8 1,i8 9,(.v (.int .u16 1)),i8 3,i8 0,(.v (.int .u16 0)),i8 3,i8 0,(.v (.int .u16 0)),i8 1,i8 7]++rp 15 [(.v (.int .u16 0)),i8 3,i8 0]++rp 3 [(.v (.int .u16 0)),i8 2,i8 0]++rp 9 [(.v (.int .u16 0)),i8 3,i8 0]++[(.v (.int .u16 0)),i8 1,i8 9,(.v (.int .u16 0)),i8 1,i8 4,(.v (.int .u16 384))]++rp 3 [i8 2,i8 0,(.v (.int .u16 0))]++[i8 1,i8 11,(.v (.int .u16 48)),i8 1,i8 11,(.v (.int .u16 16)),i8 1,i8 11,(.v (.int .u16 64)),i8 1,i8 0,(.v (.int .u16 512))]++rp 7 [i8 3,i8 0,(.v (.int .u16 0))]++rp 3 [i8 2,i8 0,(.v (.int .u16 0))]++[i8 3,i8 0,(.v (.int .u16 0)),i8 3,i8 0,(.v (.int .u16 0)),i8 1,i8 11,(.v (.int .u16 64)),i8 1,i8 0,(.v (.int .u16 512))]++rp 7 [i8 3,i8 0,(.v (.int .u16 0))]++[i8 1,i8 1,(.v (.int .u16 8706)),i8 1,i8 2,(.v (.int .u16 10242)),i8 3,i8 0,(.v (.int .u16 0)),i8 3,i8 0,(.v (.int .u16 0)),i8 1,i8 0,(.v (.int .u16 128)),i8 1,i8 1,(.v (.int .u16 8706)),i8 1,i8 2,(.v (.int .u16 10499)),i8 3,i8 0,(.v (.int .u16 0)),i8 3,i8 0,(.v (.int .u16 0)),i8 1,i8 1,(.v (.int .u16 128)),i8 1,i8 1,(.v (.int .u16 26120)),i8 1,i8 2,(.v (.int .u16 10256)),i8 3,i8 0,(.v (.int .u16 0)),i8 1,i8 0,(.v (.int .u16 4288)),i8 1,i8 2,(.v (.int .u16 128))]++rp 5 [i8 3,i8 0,(.v (.int .u16 0))])):=by
 refine⟨?m,?h⟩
 case h=>conv=>lhs;cbv
def v1:A:=gv1.m
def a63:List A:=[v1]
def a6F:A:=(bo true)
theorem bCs:EvQ (CS Y35) 9 a63 a6F:=bI 100000 (by kernel_rfl)
def mt9:List (List A×A):=[(a63,a6F)]
theorem aXx:∀ p∈mt9,EvQ (CS Y35) 9 p.1 p.2:=by
 unfold mt9
 simp only[List.forall_mem_cons,List.not_mem_nil,false_implies,implies_true,and_true]
 exact bCs
def Y9:FuncId→List A→Option A:=orX 9 mt9 Y35
theorem aNT:QOk Cy.T Tryz.prog Y9:=sI aBi aXx aBi
def gv2:A8 (.agg ([(.sl 2 (rp 2 (rp 9 [i8 0]++[(.sl 0 []),bo false,bo false]))),(.sl 2 (rp 16 [i8 0,i8 0,(.v (.int .i8 0)),bo false,i8 0,i8 0,i8 0,i8 0]++[i8 1,i64 1]++rp 3 [i8 0,i8 0,i8 0,i8 0,i8 0,i8 0,i64 0]++rp 11 [i8 0]++rp 15 [(.v (.int .i8 0)),bo false,i8 0,i8 0,i8 0,i8 0,i8 0,i8 0]++[(.v (.int .i8 0)),bo false,i8 0,i8 0,i8 0,i8 0,i8 1,i64 1]++rp 3 [i8 0,i8 0,i8 0,i8 0,i8 0,i8 0,i64 0]++rp 9 [i8 0]))]++rp 6 [i8 0,i8 255,i8 1,(.v (.int .u64 0)),bo false,i8 0,i8 0,i8 0,i8 0,i8 0,i8 0]++[(.sl 0 [])])):=by
 refine⟨?m,?h⟩
 case h=>conv=>lhs;cbv
def v2:A:=gv2.m
def aOk:List A:=[v1]
def aOf:A:=(.tup [v2,i64 0])
theorem a9c:EvQ (CS Y9) 17 aOk aOf:=bI 100000 (by kernel_rfl)
def aT1:List (List A×A):=[(aOk,aOf)]
theorem aLR:∀ p∈aT1,EvQ (CS Y9) 17 p.1 p.2:=by
 unfold aT1
 simp only[List.forall_mem_cons,List.not_mem_nil,false_implies,implies_true,and_true]
 exact a9c
def Y17:FuncId→List A→Option A:=orX 17 aT1 Y9
theorem aC2:QOk Cy.T Tryz.prog Y17:=sI aNT aLR aNT
def aOM:List A:=[v1,v2]
def aOp:A:=(bo true)
theorem a3W:EvQ (CS Y17) 10 aOM aOp:=bI 100000 (by kernel_rfl)
def gv3:A8 (.sl 2 (rp 9 [i8 0]++[(.sl 0 []),bo true,bo false]++rp 9 [i8 0]++[(.sl 0 []),bo false,bo false])):=by
 refine⟨?m,?h⟩
 case h=>conv=>lhs;cbv
def v3:A:=gv3.m
def gv4:A8 (.agg ([v3,(.sl 2 (rp 16 [i8 0,i8 0,(.v (.int .i8 0)),bo false,i8 0,i8 0,i8 0,i8 0]++[i8 1,i64 1]++rp 3 [i8 0,i8 0,i8 0,i8 0,i8 0,i8 0,i64 0]++[i8 0,i8 0,i8 0,i8 0,i8 0,i8 2,i8 0,i8 1]++rp 16 [i8 0,i8 0,i8 0,(.v (.int .i8 0)),bo false,i8 0,i8 0,i8 0]++[i8 0,i8 1,i64 1]++rp 3 [i8 0,i8 0,i8 0,i8 0,i8 0,i8 0,i64 0]++rp 9 [i8 0]))]++rp 6 [i8 0,i8 255,i8 1,(.v (.int .u64 0)),bo false,i8 0,i8 0,i8 0,i8 0,i8 0,i8 0]++[(.sl 0 [])])):=by
 refine⟨?m,?h⟩
 case h=>conv=>lhs;cbv
def v4:A:=gv4.m
def aON:List A:=[v1,v4]
def aOj:A:=(bo true)
theorem a9n:EvQ (CS Y17) 10 aON aOj:=bI 100000 (by kernel_rfl)
def gv5:A8 (.sl 2 ([i8 0,i8 6]++rp 15 [(.v (.int .i8 0)),bo false,i8 0,i8 0,i8 0,i8 0,i8 0,i8 0]++[(.v (.int .i8 0)),bo false,i8 0,i8 0,i8 0,i8 0,i8 1,i64 1]++rp 3 [i8 0,i8 0,i8 0,i8 0,i8 0,i8 0,i64 0]++[i8 0,i8 0,i8 0,i8 0,i8 0,i8 2,i8 0,i8 1]++rp 16 [i8 0,i8 0,i8 0,(.v (.int .i8 0)),bo false,i8 0,i8 0,i8 0]++[i8 0,i8 1,i64 1]++rp 3 [i8 0,i8 0,i8 0,i8 0,i8 0,i8 0,i64 0]++rp 9 [i8 0])):=by
 refine⟨?m,?h⟩
 case h=>conv=>lhs;cbv
def v5:A:=gv5.m
def gv6:A8 (.agg ([v3,v5]++rp 6 [i8 0,i8 255,i8 1,(.v (.int .u64 0)),bo false,i8 0,i8 0,i8 0,i8 0,i8 0,i8 0]++[(.sl 1 [i8 2,i8 0,i8 2,i8 0,i8 0,i8 0,bo false,i8 0,i8 0,i8 0,i8 0])])):=by
 refine⟨?m,?h⟩
 case h=>conv=>lhs;cbv
def v6:A:=gv6.m
def aOK:List A:=[v1,v6]
def aOb:A:=(bo true)
theorem bAA:EvQ (CS Y17) 10 aOK aOb:=bI 100000 (by kernel_rfl)
def aX1:List (List A×A):=[(aOM,aOp),(aON,aOj),(aOK,aOb)]
theorem aLD:∀ p∈aX1,EvQ (CS Y17) 10 p.1 p.2:=by
 unfold aX1
 simp only[List.forall_mem_cons,List.not_mem_nil,false_implies,implies_true,and_true]
 exact⟨a3W,a9n,bAA⟩
def Y10:FuncId→List A→Option A:=orX 10 aX1 Y17
theorem aDx:QOk Cy.T Tryz.prog Y10:=sI aC2 aLD aC2
def bBn:List A:=[v1,v2]
def a6P:A:=(.sl 1 ([i8 1]++rp 8 [i8 0]++[bo false,i8 0,i8 0,i8 0,i8 0]))
theorem bCg:EvQ (CS Y10) 8 bBn a6P:=bI 100000 (by kernel_rfl)
def a9z:List A:=[v1,v4]
def a91:A:=(.sl 1 ([i8 3]++rp 8 [i8 0]++[bo false,i8 0,i8 0,i8 0,i8 0]))
theorem bCM:EvQ (CS Y10) 8 a9z a91:=bI 100000 (by kernel_rfl)
def a6C:List A:=[v1,v6]
def bBC:A:=(.sl 1 [i8 5,i8 0,i8 0,i8 2,i8 0,i8 2,i8 0,i8 0,i8 0,bo false,i8 0,i8 0,i8 0,i8 0])
theorem bCu:EvQ (CS Y10) 8 a6C bBC:=bI 100000 (by kernel_rfl)
def mt8:List (List A×A):=[(bBn,a6P),(a9z,a91),(a6C,bBC)]
theorem aRj:∀ p∈mt8,EvQ (CS Y10) 8 p.1 p.2:=by
 unfold mt8
 simp only[List.forall_mem_cons,List.not_mem_nil,false_implies,implies_true,and_true]
 exact⟨bCg,bCM,bCu⟩
def Y8:FuncId→List A→Option A:=orX 8 mt8 Y10
theorem aOl:QOk Cy.T Tryz.prog Y8:=sI aDx aRj aDx
def aOJ:List A:=[v1,v2,(.agg ([i8 1]++rp 8 [i8 0]++[bo false,i8 0,i8 0,i8 0,i8 0]))]
def aOd:A:=(.tup [v4,(.sl 0 []),i64 0])
theorem a8l:EvQ (CS Y8) 11 aOJ aOd:=bI 100000 (by kernel_rfl)
def gv7:A8 (.agg ([i8 3]++rp 8 [i8 0]++[bo false,i8 0,i8 0,i8 0,i8 0])):=by
 refine⟨?m,?h⟩
 case h=>conv=>lhs;cbv
def v7:A:=gv7.m
def aOD:List A:=[v1,v4,v7]
def aOg:A:=(.tup [v6,(.sl 0 []),i64 0])
theorem a6w:EvQ (CS Y8) 11 aOD aOg:=bI 100000 (by kernel_rfl)
def gv8:A8 (.agg [i8 5,i8 0,i8 0,i8 2,i8 0,i8 2,i8 0,i8 0,i8 0,bo false,i8 0,i8 0,i8 0,i8 0]):=by
 refine⟨?m,?h⟩
 case h=>conv=>lhs;cbv
def v8:A:=gv8.m
def aN1:List A:=[v1,v6,v8]
def aOA:A:=(.tup [(.agg ([v3,v5,i8 2,i8 0,i8 1,(.v (.int .u64 0)),bo false,i8 1]++rp 5 [i8 0,i8 0,i8 0,i8 0,i8 0,i8 0,i8 255,i8 1,(.v (.int .u64 0)),bo false,i8 0]++[i8 0,i8 0,i8 0,i8 0,i8 0,(.sl 1 [i8 10,i8 2,i8 0,i8 0,i8 0,i8 0,bo false,i8 0,i8 0,i8 0,i8 0])])),(.sl 0 []),i64 0])
theorem a7a:EvQ (CS Y8) 11 aN1 aOA:=bI 100000 (by kernel_rfl)
def gv9:A8 (.agg ([(.sl 0 []),(.sl 0 [])]++rp 6 [i8 0,i8 0,i8 0,(.v (.int .u64 0)),bo false,i8 0,i8 0,i8 0,i8 0,i8 0,i8 0]++[(.sl 0 [])])):=by
 refine⟨?m,?h⟩
 case h=>conv=>lhs;cbv
def v9:A:=gv9.m
def aNU:List A:=[v1,v4,v8]
def aOh:A:=(.tup [v9,(.sl 0 []),i64 6])
theorem a5r:EvQ (CS Y8) 11 aNU aOh:=bI 100000 (by kernel_rfl)
def aOH:List A:=[v1,v2,v7]
def aOc:A:=(.tup [v9,(.sl 0 []),i64 272])
theorem bBq:EvQ (CS Y8) 11 aOH aOc:=bI 100000 (by kernel_rfl)
def aPN:List (List A×A):=[(aOJ,aOd),(aOD,aOg),(aN1,aOA),(aNU,aOh),(aOH,aOc)]
theorem aMq:∀ p∈aPN,EvQ (CS Y8) 11 p.1 p.2:=by
 unfold aPN
 simp only[List.forall_mem_cons,List.not_mem_nil,false_implies,implies_true,and_true]
 exact⟨a8l,a6w,a7a,a5r,bBq⟩
def Y11:FuncId→List A→Option A:=orX 11 aPN Y8
theorem aVb:QOk Cy.T Tryz.prog Y11:=sI aOl aMq aOl
theorem OI:EvQ (CS Y11) 14 [] (bo true):=bI 100000 (by kernel_rfl)
end Go.Proofs.YtpdphobnchajbaaGreatDoor.Ev
