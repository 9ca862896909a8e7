/- Live rows are sealed: a call's answer is frozen, and all blocks are given up. -/
import Derived.Test.YtpdphobnchajbaaGreatDoorP06
import Derived.Test.YtpdphobnchajbaaGreatDoorP03
set_option linter.unusedSimpArgs false
set_option linter.unusedVariables false
namespace Go.Proofs.YtpdphobnchajbaaGreatDoor.Ev
open Go Go.RowKit
set_option maxRecDepth 100000
theorem seal_ok{T:Tb}{P:Program}{f:FuncId}{zs:List A}{H H':Heap}{x y:A}(hen:Enters P f)(h:FnOut T P f zs H x H')(hy:freeze H' 20 x=some y):FnOut T P f zs H y (H'.map fun _=>none):=by
 rcases h with⟨zs',hl,-,-,hat⟩|⟨-,hcall⟩
 ·refine .inr ⟨hen,fun c ys hH ok hr=>?_⟩
  subst hH
  obtain⟨v,h1,-⟩:=hat [] (fun g=>c.own g∧¬ img c.ρ c.H g) c.w ys (lend_ok ok (fun g hg=>hg) zs zs' ys hl hr)
  rw[hen]at h1
  simp at h1
 ·refine .inr ⟨hen,fun c ys hH ok hr=>(hcall c ys hH ok hr).mono ?_⟩
  rintro e w' ⟨v,c',rfl,rfl,hH',hto,ok',hR⟩
  have hno:∀ g,¬ img c'.ρ (c'.H.map fun _=>(none:Option Blk)) g:=by
   rintro g ⟨b,k,hb,-⟩
   rw[List.getElem?_map]at hb
   cases h:c'.H[b]?<;>rw[h]at hb<;>simp at hb
  subst hH'
  have hlend:lendL c'.H [x]=some [y]:=by
   unfold lendL lendL
   rw[hy]
  have hRL:RL c'.ρ c'.own c'.w [x] [v]:=RL.cons hR (by rw[RL])
  have hy':=lend_ok ok' (own:=fun g=>c'.own g∧¬ img c'.ρ c'.H g) (fun g hg=>hg) [x] [y] [v] hlend hRL
  have hRy:R [] (fun g=>c'.own g∧¬ img c'.ρ c'.H g) c'.w y v:=by
   rw[RL]at hy'
   obtain⟨v',ys',e,h1,-⟩:=hy'
   simp only[List.cons.injEq]at e
   obtain⟨rfl,-⟩:=e
   exact h1
  refine⟨v,⟨c'.ρ,fun g=>c'.own g∧¬ img c'.ρ c'.H g,c'.H.map fun _=>none,c'.w⟩,rfl,rfl,rfl,?_,?_,hRy.open_⟩
  ·refine⟨hto.pre,hto.size,hto.os,hto.tape,hto.output,fun g _ hi=>(hno g hi).elim,hto.same,hto.shape,hto.maps,hto.kinds,fun g hg=>⟨fun h=>(hto.own g hg).1 h.1,fun h=>?_⟩⟩
   rcases(hto.own g hg).2 h with h1|h1
   ·by_cases hi:img c'.ρ c'.H g
    ·exact .inr (hto.img g hg hi)
    ·exact .inl ⟨h1,hi⟩
   ·exact .inr h1
  ·refine⟨by rw[List.length_map];exact ok'.len,fun g hg=>ok'.lt g hg.1,fun g hi=>(hno g hi).elim,fun b e cs wh g hb hg=>?_,fun b b' k k' g hb hb'=>?_,ok'.glob.less fun g h=>h.1⟩
   ·exact(hno g ⟨b,_,hb,hg⟩).elim
   ·intro h1 h2
    exact(hno g ⟨b,_,hb,h1⟩).elim
noncomputable def sealO(zs:List A)(H:Heap):Option (A×Heap):=match(callsF Cy 1000).2 (.fn 24) zs H with
 |some (x,H')=>(match freeze H' 20 x with
  |some y=>some (y,H'.map fun _=>none)
  |none=>none)
 |none=>none
theorem sealO_ok{zs:List A}{H H':Heap}{x:A}(h:sealO zs H=some (x,H')):FnOut Cy.T Tryz.prog 24 zs H x H':=by
 unfold sealO at h
 rw[callsF_eq]at h
 cases h1:callQ.callO Cy 1000 (.fn 24) zs H with
 |none=>simp[h1]at h
 |some r =>
  obtain⟨x1,H1⟩:=r
  simp only[h1]at h
  cases h2:freeze H1 20 x1 with
  |none=>simp[h2]at h
  |some y =>
   simp only[h2,Option.some.injEq,Prod.mk.injEq]at h
   obtain⟨rfl,rfl⟩:=h
   exact seal_ok (CyOk.enters (show Cy.B 24=some fn24 from rfl)) ((call_sound CyOk 1000).2.fn _ _ _ _ _ h1) h2
noncomputable def xOutS(f:FuncId):Option (List A→Heap→Option (A×Heap)):=bif Nat.beq f 24 then some sealO else xOut0 f
theorem xOutS_ok:∀ f g zs H x H',xOutS f=some g→g zs H=some (x,H')→FnOut Cy.T Tryz.prog f zs H x H':=by
 intro f g zs H x H' hg h
 unfold xOutS at hg
 cases h1:Nat.beq f 24 with
 |true =>
  obtain rfl:=Nat.eq_of_beq_eq_true h1
  rw[h1,cond_true]at hg
  obtain rfl:=Option.some.inj hg
  exact sealO_ok h
 |false =>
  rw[h1,cond_false]at hg
  exact CyOk.extO f g zs H x H' hg h
abbrev i8(n:Int):A:=.v (.int .u8 n)
abbrev i64(n:Int):A:=.v (.int .i64 n)
abbrev bo(b:Bool):A:=.v (.bool b)
abbrev sA(l:Array UInt8):A:=.v (.string ⟨l⟩)
def rp(n:Nat)(l:List A):List A:=(List.replicate n l).flatten
structure GotA(a:A) where
 m:A
 h:a=m
noncomputable def CS(X:FuncId→List A→Option A):Ctx:=⟨Cy.T,Cy.B,X,xOutS⟩
theorem CS_ok{X:FuncId→List A→Option A}(h:QOk Cy.T Tryz.prog X):CtxOk Tryz.prog (CS X):=⟨CyOk.mixed,CyOk.types,CyOk.loops,CyOk.fns,h,xOutS_ok⟩
theorem X0_ok:QOk Cy.T Tryz.prog xLibC:=CyOk.ext
def look1:List (List A×A)→List A→Option A
 |[],_=>none
 |p::l,zs=>bif eqL p.1 zs then some p.2 else look1 l zs
theorem look1_mem:∀{l:List (List A×A)} {zs:List A} {r:A},look1 l zs=some r→(zs,r)∈l
 |[],_,_,h=>by cases h
 |p::l,zs,r,h=>by
  unfold look1 at h
  cases hb:eqL p.1 zs with
  |true =>
   simp only[hb,cond_true,Option.some.injEq]at h
   rw[← h,← eqL_eq _ _ hb]
   exact .head _
  |false =>
   simp only[hb,cond_false]at h
   exact .tail _ (look1_mem h)
def orX(f0:Nat)(t:List (List A×A))(X:FuncId→List A→Option A)(f:FuncId)(zs:List A):Option A:=bif Nat.beq f f0 then look1 t zs else X f zs
theorem orX_ok{X0 X:FuncId→List A→Option A}{f0:Nat}{t:List (List A×A)}(h0:QOk Cy.T Tryz.prog X0)(ht:∀ p∈t,EvQ (CS X0) f0 p.1 p.2)(hX:QOk Cy.T Tryz.prog X):QOk Cy.T Tryz.prog (orX f0 t X):=by
 intro f zs r h
 unfold orX at h
 cases hb:Nat.beq f f0 with
 |false =>
  simp only[hb,cond_false]at h
  exact hX f zs r h
 |true =>
  obtain rfl:=Nat.eq_of_beq_eq_true hb
  simp only[hb,cond_true]at h
  obtain⟨N,hN⟩:=ht _ (look1_mem h)
  exact(call_sound (CS_ok h0) N).1 f zs r hN
end Go.Proofs.YtpdphobnchajbaaGreatDoor.Ev
