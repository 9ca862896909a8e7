/- awake of layer 33. -/
import Derived.Test.YtcgigdeehcmdkaaGreatDoorK15
set_option linter.all false
namespace Go.Proofs.YtcgigdeehcmdkaaGreatDoor.Ev
open Go Go.RowKit
set_option maxRecDepth 100000
noncomputable def ZJ(zs:List A)(H:aE):Option (A×aE):=match(nY Cy 1000).2 (.fn 25) zs H with|some (x,H')=>yF x H' H'.length|none=>none
theorem aAS{zs:List A}{H H':aE}{x:A}(h:ZJ zs H=some (x,H')):pH Cy.T Tryz.prog 25 zs H x H':=by unfold ZJ at h;rw[uC]at h;cases h1:aV.callO Cy 1000 (.fn 25) zs H with|none=>simp[h1]at h|some r=>obtain⟨x1,H1⟩:=r;simp only[h1]at h;obtain⟨m,h2,rfl⟩:=vG h;exact aAk (qE.enters (show Cy.B 25=some g25.fn from rfl)) ((iU qE 1000).2.fn _ _ _ _ _ h1) h2
noncomputable def ZV(f:FuncId):Option (List A->aE->Option (A×aE)):=bif Nat.beq f 25 then some ZJ else PB f
theorem aAv:∀f g zs H x H',ZV f=some g->g zs H=some (x,H')->pH Cy.T Tryz.prog f zs H x H':=by intro f g zs H x H' hg h;unfold ZV at hg;cases h1:Nat.beq f 25 with|true=>obtain rfl:=Nat.eq_of_beq_eq_true h1;rw[h1,cond_true]at hg;obtain rfl:=Option.some.inj hg;exact aAS h|false=>rw[h1,cond_false]at hg;exact qE.extO f g zs H x H' hg h
abbrev i8(n:Int):A:=.v (.int .u8 n)
abbrev i64(n:Int):A:=.v (.int .i64 n)
abbrev bo(b:Bool):A:=.v (.bool b)
abbrev sA(l:Array UInt8):A:=.v (.string ⟨l⟩)
def rp(n:Nat)(l:List A):List A:=(List.replicate n l).flatten
structure aFd(a:A) where
 m:A
 h:a=m
noncomputable def CS(X:FuncId->List A->Option A):Ctx:=⟨Cy.T,Cy.B,X,ZV⟩
theorem aJF{X:FuncId->List A->Option A}(h:QOk Cy.T Tryz.prog X):kN Tryz.prog (CS X):=⟨qE.mixed,qE.types,qE.loops,qE.fns,h,aAv⟩
theorem aJA:QOk Cy.T Tryz.prog vD:=qE.ext
def MR:List (List A×A)->List A->Option A|[],_=>none|p::l,zs=>bif eqL p.1 zs then some p.2 else MR l zs
theorem zT:∀{l:List (List A×A)}{zs:List A}{r:A},MR l zs=some r->(zs,r)∈l|[],_,_,h=>by cases h|p::l,zs,r,h=>by unfold MR at h;cases hb:eqL p.1 zs with|true=>simp only[hb,cond_true,Option.some.injEq]at h;rw[<-h,<-mM _ _ hb];exact .head _|false=>simp only[hb,cond_false]at h;exact .tail _ (zT h)
def orX(f0:Nat)(t:List (List A×A))(X:FuncId->List A->Option A)(f:FuncId)(zs:List A):Option A:=bif Nat.beq f f0 then MR t zs else X f zs
theorem mQ{X0 X:FuncId->List A->Option A}{f0:Nat}{t:List (List A×A)}(h0:QOk Cy.T Tryz.prog X0)(ht:∀p∈t,EvQ (CS X0) f0 p.1 p.2)(hX:QOk Cy.T Tryz.prog X):QOk Cy.T Tryz.prog (orX f0 t X):=by intro f zs r h;unfold orX at h;cases hb:Nat.beq f f0 with|false=>simp only[hb,cond_false]at h;exact hX f zs r h|true=>obtain rfl:=Nat.eq_of_beq_eq_true hb;simp only[hb,cond_true]at h;obtain⟨N,hN⟩:=ht _ (zT h);exact(iU (aJF h0) N).1 f zs r hN
