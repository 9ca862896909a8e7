/- Live rows are sealed: a call's answer is frozen, and all blocks are given up. -/
import Derived.Test.YtfkegfjggibdhaaGreatDoorV08
set_option linter.all false
namespace Go.Proofs.YtfkegfjggibdhaaGreatDoor.Ev
open Go Go.RowKit
set_option maxRecDepth 100000
theorem aFH{T:Tb}{P:Program}{f:FuncId}{zs:List A}{H H':aF}{x y:A}(hen:wM P f)(h:oO T P f zs H x H')(hy:freeze H' 20 x=some y):oO T P f zs H y (H'.map fun _=>none):=by rcases h with⟨zs',hl,-,-,hat⟩|⟨-,hcall⟩;{refine .inr ⟨hen,fun c ys hH ok hr=>?_⟩;subst hH;obtain⟨v,h1,-⟩:=hat [] (fun g=>c.own g/\¬img c.ρ c.H g) c.w ys (pX ok (fun g hg=>hg) zs zs' ys hl hr);rw[hen]at h1;simp at h1};{refine .inr ⟨hen,fun c ys hH ok hr=>(hcall c ys hH ok hr).mono ?_⟩;rintro e w' ⟨v,c',rfl,rfl,hH',hto,ok',hR⟩;(have hno:∀g,¬img c'.ρ (c'.H.map fun _=>(none:Option Blk)) g:=by rintro g ⟨b,k,hb,-⟩;rw[dc]at hb;cases h:c'.H[b]?<;>rw[h]at hb<;>simp at hb);subst hH';(have hlend:dS c'.H [x]=some [y]:=by unfold dS dS;rw[hy]);have hRL:RL c'.ρ c'.own c'.w [x] [v]:=RL.cons hR (by rw[RL]);have hy':=pX ok' (own:=fun g=>c'.own g/\¬img c'.ρ c'.H g) (fun g hg=>hg) [x] [y] [v] hlend hRL;(have hRy:R [] (fun g=>c'.own g/\¬img c'.ρ c'.H g) c'.w y v:=by rw[RL]at hy';obtain⟨v',ys',e,h1,-⟩:=hy';simp only[du]at e;obtain⟨rfl,-⟩:=e;exact h1);refine⟨v,⟨c'.ρ,fun g=>c'.own g/\¬img c'.ρ c'.H g,c'.H.map fun _=>none,c'.w⟩,rfl,rfl,rfl,?_,?_,hRy.open_⟩;{refine⟨hto.pre,hto.size,hto.os,hto.tape,hto.output,fun g _ hi=>(hno g hi).elim,hto.same,hto.shape,hto.maps,hto.kinds,fun g hg=>⟨fun h=>(hto.own g hg).1 h.1,fun h=>?_⟩⟩;rcases(hto.own g hg).2 h with h1|h1;{by_cases hi:img c'.ρ c'.H g;{exact .inr (hto.img g hg hi)};{exact .inl ⟨h1,hi⟩}};{exact .inr h1}};{refine⟨by rw[ef];exact ok'.len,fun g hg=>ok'.lt g hg.1,fun g hi=>(hno g hi).elim,fun b e cs wh g hb hg=>?_,fun b b' k k' g hb hb'=>?_,ok'.glob.less fun g h=>h.1⟩;{exact(hno g ⟨b,_,hb,hg⟩).elim};{intro h1 h2;exact(hno g ⟨b,_,hb,h1⟩).elim}}}
noncomputable def WN(zs:List A)(H:aF):Option (A×aF):=match(nH Cy 1000).2 (.fn 24) zs H with|some (x,H')=>(match freeze H' 20 x with|some y=>some (y,H'.map fun _=>none)|none=>none)|none=>none
theorem aCb{zs:List A}{H H':aF}{x:A}(h:WN zs H=some (x,H')):oO Cy.T Tryz.prog 24 zs H x H':=by unfold WN at h;rw[wS]at h;cases h1:aS.callO Cy 1000 (.fn 24) zs H with|none=>simp[h1]at h|some r=>obtain⟨x1,H1⟩:=r;simp only[h1]at h;cases h2:freeze H1 20 x1 with|none=>simp[h2]at h|some y=>simp only[h2,ab,av]at h;obtain⟨rfl,rfl⟩:=h;exact aFH (tN.enters (show Cy.B 24=some g24.fn from rfl)) ((dO tN 1000).2.fn _ _ _ _ _ h1) h2
noncomputable def aAv(f:FuncId):Option (List A->aF->Option (A×aF)):=bif Nat.beq f 24 then some WN else Q7 f
theorem aA0:∀f g zs H x H',aAv f=some g->g zs H=some (x,H')->oO Cy.T Tryz.prog f zs H x H':=by intro f g zs H x H' hg h;unfold aAv at hg;cases h1:Nat.beq f 24 with|true=>obtain rfl:=ax h1;rw[h1,cc]at hg;obtain rfl:=ae hg;exact aCb h|false=>rw[h1,cf]at hg;exact tN.extO f g zs H x H' hg h
abbrev i8(n:Int):A:=.v (.int .u8 n)
abbrev i64(n:Int):A:=.v (.int .i64 n)
abbrev bo(b:Bool):A:=.v (.bool b)
abbrev sA(l:Array UInt8):A:=.v (.string ⟨l⟩)
def rp(n:Nat)(l:List A):List A:=(List.replicate n l).flatten
structure KH(a:A) where
 m:A
 h:a=m
noncomputable def CS(X:FuncId->List A->Option A):Ctx:=⟨Cy.T,Cy.B,X,aAv⟩
theorem aIq{X:FuncId->List A->Option A}(h:QOk Cy.T Tryz.prog X):jI Tryz.prog (CS X):=⟨tN.mixed,tN.types,tN.loops,tN.fns,h,aA0⟩
theorem aIl:QOk Cy.T Tryz.prog BM:=tN.ext
def QH:List (List A×A)->List A->Option A|[],_=>none|p::l,zs=>bif eqL p.1 zs then some p.2 else QH l zs
theorem D0:∀{l:List (List A×A)}{zs:List A}{r:A},QH l zs=some r->(zs,r)∈l|[],_,_,h=>by cases h|p::l,zs,r,h=>by unfold QH at h;cases hb:eqL p.1 zs with|true=>simp only[hb,cc,ab]at h;rw[<-h,<-mD _ _ hb];exact .head _|false=>simp only[hb,cf]at h;exact .tail _ (D0 h)
def orX(f0:Nat)(t:List (List A×A))(X:FuncId->List A->Option A)(f:FuncId)(zs:List A):Option A:=bif Nat.beq f f0 then QH t zs else X f zs
theorem xC{X0 X:FuncId->List A->Option A}{f0:Nat}{t:List (List A×A)}(h0:QOk Cy.T Tryz.prog X0)(ht:∀p∈t,EvQ (CS X0) f0 p.1 p.2)(hX:QOk Cy.T Tryz.prog X):QOk Cy.T Tryz.prog (orX f0 t X):=by intro f zs r h;unfold orX at h;cases hb:Nat.beq f f0 with|false=>simp only[hb,cf]at h;exact hX f zs r h|true=>obtain rfl:=ax hb;simp only[hb,cc]at h;obtain⟨N,hN⟩:=ht _ (D0 h);exact(dO (aIq h0) N).1 f zs r hN
set_option maxRecDepth 1000000
def aH4:List A:=[(.agg ([sA #[109,115,105],i8 1,i8 5,(.v (.int .u16 2)),i8 1,i8 6,(.v (.int .u16 4))]++rp 3 [i8 3,i8 0,(.v (.int .u16 0))]++[i8 1,i8 0,(.v (.int .u16 64))]++rp 8 [i8 3,i8 0,(.v (.int .u16 0))]++[i8 1,i8 1,(.v (.int .u16 256)),i8 1,i8 7,(.v (.int .u16 4)),i8 1,i8 0,(.v (.int .u16 512)),i8 3,i8 0,(.v (.int .u16 0)),i8 3,i8 0,(.v (.int .u16 0)),i8 1,i8 0,(.v (.int .u16 576))]++rp 36 [i8 3,i8 0,(.v (.int .u16 0))]++[i8 1,i8 4,(.v (.int .u16 256)),i8 1,i8 4,(.v (.int .u16 256)),i8 1,i8 10,(.v (.int .u16 8)),i8 1,i8 1,(.v (.int .u16 48)),i8 1,i8 0,(.v (.int .u16 528))]++rp 9 [i8 3,i8 0,(.v (.int .u16 0))]++rp 3 [i8 2,i8 0,(.v (.int .u16 0))]++[i8 3,i8 0,(.v (.int .u16 0)),i8 3,i8 0,(.v (.int .u16 0)),i8 1,i8 5,(.v (.int .u16 64)),i8 3,i8 0,(.v (.int .u16 0)),i8 1,i8 1,(.v (.int .u16 385))]++rp 6 [i8 3,i8 0,(.v (.int .u16 0))]++rp 3 [i8 2,i8 0,(.v (.int .u16 0))]++[i8 3,i8 0,(.v (.int .u16 0)),i8 3,i8 0,(.v (.int .u16 0)),i8 1,i8 6,(.v (.int .u16 64)),i8 3,i8 0,(.v (.int .u16 0)),i8 1,i8 4,(.v (.int .u16 385)),i8 3,i8 0,(.v (.int .u16 0)),i8 1,i8 9,(.v (.int .u16 1)),i8 3,i8 0,(.v (.int .u16 0)),i8 3,i8 0,(.v (.int .u16 0)),i8 1,i8 6,(.v (.int .u16 0)),i8 3]++rp 3 [i8 0,(.v (.int .u16 0)),i8 2]++[i8 0,(.v (.int .u16 0)),i8 3,i8 0,(.v (.int .u16 0)),i8 3,i8 0,(.v (.int .u16 0)),i8 1,i8 6,(.v (.int .u16 64)),i8 3,i8 0,(.v (.int .u16 0)),i8 1,i8 4,(.v (.int .u16 385)),i8 3,i8 0,(.v (.int .u16 0)),i8 1,i8 9,(.v (.int .u16 1)),i8 3,i8 0,(.v (.int .u16 0)),i8 3,i8 0,(.v (.int .u16 0)),i8 1,i8 7]++rp 15 [(.v (.int .u16 0)),i8 3,i8 0]++rp 3 [(.v (.int .u16 0)),i8 2,i8 0]++rp 9 [(.v (.int .u16 0)),i8 3,i8 0]++[(.v (.int .u16 0)),i8 1,i8 9,(.v (.int .u16 0)),i8 1,i8 4,(.v (.int .u16 384))]++rp 3 [i8 2,i8 0,(.v (.int .u16 0))]++[i8 1,i8 11,(.v (.int .u16 48)),i8 1,i8 11,(.v (.int .u16 16)),i8 1,i8 11,(.v (.int .u16 64)),i8 1,i8 0,(.v (.int .u16 512))]++rp 7 [i8 3,i8 0,(.v (.int .u16 0))]++rp 3 [i8 2,i8 0,(.v (.int .u16 0))]++[i8 3,i8 0,(.v (.int .u16 0)),i8 3,i8 0,(.v (.int .u16 0)),i8 1,i8 11,(.v (.int .u16 64)),i8 1,i8 0,(.v (.int .u16 512))]++rp 7 [i8 3,i8 0,(.v (.int .u16 0))]++[i8 1,i8 1,(.v (.int .u16 8706)),i8 1,i8 2,(.v (.int .u16 10242)),i8 3,i8 0,(.v (.int .u16 0)),i8 3,i8 0,(.v (.int .u16 0)),i8 1,i8 0,(.v (.int .u16 128)),i8 1,i8 1,(.v (.int .u16 8706)),i8 1,i8 2,(.v (.int .u16 10499)),i8 3,i8 0,(.v (.int .u16 0)),i8 3,i8 0,(.v (.int .u16 0)),i8 1,i8 1,(.v (.int .u16 128)),i8 1,i8 1,(.v (.int .u16 26120)),i8 1,i8 2,(.v (.int .u16 10256)),i8 3,i8 0,(.v (.int .u16 0)),i8 1,i8 0,(.v (.int .u16 4288)),i8 1,i8 2,(.v (.int .u16 128))]++rp 5 [i8 3,i8 0,(.v (.int .u16 0))]))]
def aIN:A:=(bo true)
theorem aXt:EvQ (CS BM) 61 aH4 aIN:=aU 100000 (by kernel_rfl)
def aME:List (List A×A):=[(aH4,aIN)]
theorem aF0:∀p∈aME,EvQ (CS BM) 61 p.1 p.2:=by unfold aME;simp only[jg,jn,ky,ly,im];exact aXt
def Y35:FuncId->List A->Option A:=orX 61 aME BM
theorem aCL:QOk Cy.T Tryz.prog Y35:=xC aIl aF0 aIl
def gv0:KH (.agg ([sA #[116],(.sl 1 [sA #[120]]),(.sl 1 [i8 0]),(.sl 2 [(.sl 1 [i8 2,i8 0,i8 0,bo false,i8 1,bo false,i8 0,i8 0,i8 0,i8 0]),(.sl 1 [i8 1,i8 0,i8 0,bo false,i8 0,bo false,i8 0,i8 0,i8 0,i8 0])]),i8 1,i8 0,i8 0,i8 0,i8 0,(.v (.slice none 0 0)),i64 2,i64 1,i64 1,i64 1,i64 1,i8 1,i8 1,i8 1,i64 0,bo false,sA #[109,115,105],i8 1,i8 5,(.v (.int .u16 2)),i8 1,i8 6,(.v (.int .u16 4))]++rp 3 [i8 3,i8 0,(.v (.int .u16 0))]++[i8 1,i8 0,(.v (.int .u16 64))]++rp 8 [i8 3,i8 0,(.v (.int .u16 0))]++[i8 1,i8 1,(.v (.int .u16 256)),i8 1,i8 7,(.v (.int .u16 4)),i8 1,i8 0,(.v (.int .u16 512)),i8 3,i8 0,(.v (.int .u16 0)),i8 3,i8 0,(.v (.int .u16 0)),i8 1,i8 0,(.v (.int .u16 576))]++rp 36 [i8 3,i8 0,(.v (.int .u16 0))]++[i8 1,i8 4,(.v (.int .u16 256)),i8 1,i8 4,(.v (.int .u16 256)),i8 1,i8 10,(.v (.int .u16 8)),i8 1,i8 1,(.v (.int .u16 48)),i8 1,i8 0,(.v (.int .u16 528))]++rp 9 [i8 3,i8 0,(.v (.int .u16 0))]++rp 3 [i8 2,i8 0,(.v (.int .u16 0))]++[i8 3,i8 0,(.v (.int .u16 0)),i8 3,i8 0,(.v (.int .u16 0)),i8 1,i8 5,(.v (.int .u16 64)),i8 3,i8 0,(.v (.int .u16 0)),i8 1,i8 1,(.v (.int .u16 385))]++rp 6 [i8 3,i8 0,(.v (.int .u16 0))]++rp 3 [i8 2,i8 0,(.v (.int .u16 0))]++[i8 3,i8 0,(.v (.int .u16 0)),i8 3,i8 0,(.v (.int .u16 0)),i8 1,i8 6,(.v (.int .u16 64)),i8 3,i8 0,(.v (.int .u16 0)),i8 1,i8 4,(.v (.int .u16 385)),i8 3,i8 0,(.v (.int .u16 0)),i8 1,i8 9,(.v (.int .u16 1)),i8 3,i8 0,(.v (.int .u16 0)),i8 3,i8 0,(.v (.int .u16 0)),i8 1,i8 6,(.v (.int .u16 0)),i8 3]++rp 3 [i8 0,(.v (.int .u16 0)),i8 2]++[i8 0,(.v (.int .u16 0)),i8 3,i8 0,(.v (.int .u16 0)),i8 3,i8 0,(.v (.int .u16 0)),i8 1,i8 6,(.v (.int .u16 64)),i8 3,i8 0,(.v (.int .u16 0)),i8 1,i8 4,(.v (.int .u16 385)),i8 3,i8 0,(.v (.int .u16 0)),i8 1,i8 9,(.v (.int .u16 1)),i8 3,i8 0,(.v (.int .u16 0)),i8 3,i8 0,(.v (.int .u16 0)),i8 1,i8 7]++rp 15 [(.v (.int .u16 0)),i8 3,i8 0]++rp 3 [(.v (.int .u16 0)),i8 2,i8 0]++rp 9 [(.v (.int .u16 0)),i8 3,i8 0]++[(.v (.int .u16 0)),i8 1,i8 9,(.v (.int .u16 0)),i8 1,i8 4,(.v (.int .u16 384))]++rp 3 [i8 2,i8 0,(.v (.int .u16 0))]++[i8 1,i8 11,(.v (.int .u16 48)),i8 1,i8 11,(.v (.int .u16 16)),i8 1,i8 11,(.v (.int .u16 64)),i8 1,i8 0,(.v (.int .u16 512))]++rp 7 [i8 3,i8 0,(.v (.int .u16 0))]++rp 3 [i8 2,i8 0,(.v (.int .u16 0))]++[i8 3,i8 0,(.v (.int .u16 0)),i8 3,i8 0,(.v (.int .u16 0)),i8 1,i8 11,(.v (.int .u16 64)),i8 1,i8 0,(.v (.int .u16 512))]++rp 7 [i8 3,i8 0,(.v (.int .u16 0))]++[i8 1,i8 1,(.v (.int .u16 8706)),i8 1,i8 2,(.v (.int .u16 10242)),i8 3,i8 0,(.v (.int .u16 0)),i8 3,i8 0,(.v (.int .u16 0)),i8 1,i8 0,(.v (.int .u16 128)),i8 1,i8 1,(.v (.int .u16 8706)),i8 1,i8 2,(.v (.int .u16 10499)),i8 3,i8 0,(.v (.int .u16 0)),i8 3,i8 0,(.v (.int .u16 0)),i8 1,i8 1,(.v (.int .u16 128)),i8 1,i8 1,(.v (.int .u16 26120)),i8 1,i8 2,(.v (.int .u16 10256)),i8 3,i8 0,(.v (.int .u16 0)),i8 1,i8 0,(.v (.int .u16 4288)),i8 1,i8 2,(.v (.int .u16 128))]++rp 5 [i8 3,i8 0,(.v (.int .u16 0))])):=by refine⟨?m,?h⟩;case h=>conv=>lhs;cbv
def v0:A:=gv0.m
def aTz:List A:=[v0]
def aVh:A:=(bo true)
theorem aZI:EvQ (CS Y35) 29 aTz aVh:=aU 100000 (by kernel_rfl)
def mt9:List (List A×A):=[(aTz,aVh)]
theorem aRz:∀p∈mt9,EvQ (CS Y35) 29 p.1 p.2:=by unfold mt9;simp only[jg,jn,ky,ly,im];exact aZI
def Y9:FuncId->List A->Option A:=orX 29 mt9 Y35
theorem aIL:QOk Cy.T Tryz.prog Y9:=xC aCL aRz aCL
def gv1:KH (.agg ([(.sl 2 (rp 2 (rp 9 [i8 0]++[(.sl 0 []),bo false,bo false]))),(.sl 2 (rp 16 [i8 0,i8 0,(.v (.int .i8 0)),bo false,i8 0,i8 0,i8 0,i8 0]++[i8 1,i64 1]++rp 3 [i8 0,i8 0,i8 0,i8 0,i8 0,i8 0,i64 0]++rp 11 [i8 0]++rp 15 [(.v (.int .i8 0)),bo false,i8 0,i8 0,i8 0,i8 0,i8 0,i8 0]++[(.v (.int .i8 0)),bo false,i8 0,i8 0,i8 0,i8 0,i8 1,i64 1]++rp 3 [i8 0,i8 0,i8 0,i8 0,i8 0,i8 0,i64 0]++rp 9 [i8 0]))]++rp 6 [i8 0,i8 255,i8 1,(.v (.int .u64 0)),bo false,i8 0,i8 0,i8 0,i8 0,i8 0,i8 0]++[(.sl 0 [])])):=by refine⟨?m,?h⟩;case h=>conv=>lhs;cbv
def v1:A:=gv1.m
def aH3:List A:=[v0]
def aIB:A:=(.tup [v1,i64 0])
theorem aTq:EvQ (CS Y9) 10 aH3 aIB:=aU 100000 (by kernel_rfl)
def aNL:List (List A×A):=[(aH3,aIB)]
theorem aHk:∀p∈aNL,EvQ (CS Y9) 10 p.1 p.2:=by unfold aNL;simp only[jg,jn,ky,ly,im];exact aTq
def Y17:FuncId->List A->Option A:=orX 10 aNL Y9
theorem aAA:QOk Cy.T Tryz.prog Y17:=xC aIL aHk aIL
def aIx:List A:=[v0,v1]
def aIz:A:=(bo true)
theorem aTE:EvQ (CS Y17) 14 aIx aIz:=aU 100000 (by kernel_rfl)
def gv2:KH (.sl 2 (rp 9 [i8 0]++[(.sl 0 []),bo true,bo false]++rp 9 [i8 0]++[(.sl 0 []),bo false,bo false])):=by refine⟨?m,?h⟩;case h=>conv=>lhs;cbv
def v2:A:=gv2.m
def gv3:KH (.agg ([v2,(.sl 2 (rp 16 [i8 0,i8 0,(.v (.int .i8 0)),bo false,i8 0,i8 0,i8 0,i8 0]++[i8 1,i64 1]++rp 3 [i8 0,i8 0,i8 0,i8 0,i8 0,i8 0,i64 0]++[i8 0,i8 0,i8 0,i8 0,i8 0,i8 2,i8 0,i8 1]++rp 16 [i8 0,i8 0,i8 0,(.v (.int .i8 0)),bo false,i8 0,i8 0,i8 0]++[i8 0,i8 1,i64 1]++rp 3 [i8 0,i8 0,i8 0,i8 0,i8 0,i8 0,i64 0]++rp 9 [i8 0]))]++rp 6 [i8 0,i8 255,i8 1,(.v (.int .u64 0)),bo false,i8 0,i8 0,i8 0,i8 0,i8 0,i8 0]++[(.sl 0 [])])):=by refine⟨?m,?h⟩;case h=>conv=>lhs;cbv
def v3:A:=gv3.m
def aH7:List A:=[v0,v3]
def aIa:A:=(bo true)
theorem aUZ:EvQ (CS Y17) 14 aH7 aIa:=aU 100000 (by kernel_rfl)
def gv4:KH (.agg ([v2,(.sl 2 ([i8 0,i8 6]++rp 15 [(.v (.int .i8 0)),bo false,i8 0,i8 0,i8 0,i8 0,i8 0,i8 0]++[(.v (.int .i8 0)),bo false,i8 0,i8 0,i8 0,i8 0,i8 1,i64 1]++rp 3 [i8 0,i8 0,i8 0,i8 0,i8 0,i8 0,i64 0]++[i8 0,i8 0,i8 0,i8 0,i8 0,i8 2,i8 0,i8 1]++rp 16 [i8 0,i8 0,i8 0,(.v (.int .i8 0)),bo false,i8 0,i8 0,i8 0]++[i8 0,i8 1,i64 1]++rp 3 [i8 0,i8 0,i8 0,i8 0,i8 0,i8 0,i64 0]++rp 9 [i8 0]))]++rp 6 [i8 0,i8 255,i8 1,(.v (.int .u64 0)),bo false,i8 0,i8 0,i8 0,i8 0,i8 0,i8 0]++[(.sl 1 [i8 2,i8 0,i8 2,i8 0,i8 0,i8 0,bo false,i8 0,i8 0,i8 0,i8 0])])):=by refine⟨?m,?h⟩;case h=>conv=>lhs;cbv
def v4:A:=gv4.m
def aIw:List A:=[v0,v4]
def aIy:A:=(bo true)
theorem aYp:EvQ (CS Y17) 14 aIw aIy:=aU 100000 (by kernel_rfl)
def aSg:List (List A×A):=[(aIx,aIz),(aH7,aIa),(aIw,aIy)]
theorem aGC:∀p∈aSg,EvQ (CS Y17) 14 p.1 p.2:=by unfold aSg;simp only[jg,jn,ky,ly,im];exact⟨aTE,aUZ,aYp⟩
def Y10:FuncId->List A->Option A:=orX 14 aSg Y17
theorem aBg:QOk Cy.T Tryz.prog Y10:=xC aAA aGC aAA
def gv5:KH (.sl 2 ([i8 1]++rp 8 [i8 0]++[bo false,i8 0,i8 0,i8 0,i8 0,i8 1,i8 1]++rp 7 [i8 0]++[bo false,i8 0,i8 0,i8 0,i8 0])):=by refine⟨?m,?h⟩;case h=>conv=>lhs;cbv
def v5:A:=gv5.m
def aWw:List A:=[v0,v1]
def aTv:A:=v5
theorem aYX:EvQ (CS Y10) 11 aWw aTv:=aU 100000 (by kernel_rfl)
def gv6:KH (.sl 2 ([i8 1,i8 1]++rp 7 [i8 0]++[bo false,i8 0,i8 0,i8 0,i8 0,i8 3]++rp 8 [i8 0]++[bo false,i8 0,i8 0,i8 0,i8 0])):=by refine⟨?m,?h⟩;case h=>conv=>lhs;cbv
def v6:A:=gv6.m
def aXV:List A:=[v0,v3]
def aW7:A:=v6
theorem aZv:EvQ (CS Y10) 11 aXV aW7:=aU 100000 (by kernel_rfl)
def gv7:KH (.sl 2 ([i8 1,i8 1]++rp 7 [i8 0]++[bo false,i8 0,i8 0,i8 0,i8 0,i8 5,i8 0,i8 0,i8 2,i8 0,i8 2,i8 0,i8 0,i8 0,bo false,i8 0,i8 0,i8 0,i8 0])):=by refine⟨?m,?h⟩;case h=>conv=>lhs;cbv
def v7:A:=gv7.m
def aWt:List A:=[v0,v4]
def aXc:A:=v7
theorem aZE:EvQ (CS Y10) 11 aWt aXc:=aU 100000 (by kernel_rfl)
def mt8:List (List A×A):=[(aWw,aTv),(aXV,aW7),(aWt,aXc)]
theorem aKE:∀p∈mt8,EvQ (CS Y10) 11 p.1 p.2:=by unfold mt8;simp only[jg,jn,ky,ly,im];exact⟨aYX,aZv,aZE⟩
def Y8:FuncId->List A->Option A:=orX 11 mt8 Y10
theorem aIK:QOk Cy.T Tryz.prog Y8:=xC aBg aKE aBg
def aIg:List A:=[v0,v1,(.agg ([i8 1]++rp 8 [i8 0]++[bo false,i8 0,i8 0,i8 0,i8 0]))]
def aIf:A:=(.tup [v3,(.sl 0 []),i64 0])
theorem aXd:EvQ (CS Y8) 13 aIg aIf:=aU 100000 (by kernel_rfl)
def aIb:List A:=[v0,v3,(.agg ([i8 3]++rp 8 [i8 0]++[bo false,i8 0,i8 0,i8 0,i8 0]))]
def aIY:A:=(.tup [v4,(.sl 0 []),i64 0])
theorem aTF:EvQ (CS Y8) 13 aIb aIY:=aU 100000 (by kernel_rfl)
def aQM:List (List A×A):=[(aIg,aIf),(aIb,aIY)]
theorem aGv:∀p∈aQM,EvQ (CS Y8) 13 p.1 p.2:=by unfold aQM;simp only[jg,jn,ky,ly,im];exact⟨aXd,aTF⟩
def Y11:FuncId->List A->Option A:=orX 13 aQM Y8
theorem aI0:QOk Cy.T Tryz.prog Y11:=xC aIK aGv aIK
theorem aBt:EvQ (CS Y11) 8 [] (bo true):=aU 100000 (by kernel_rfl)
