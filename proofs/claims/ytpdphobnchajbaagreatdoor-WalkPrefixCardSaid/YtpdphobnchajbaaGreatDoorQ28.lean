/- A law's arguments, opened: worlds, states, steps. -/
import Derived.Test.YtpdphobnchajbaaGreatDoorQ05
import Derived.Test.YtpdphobnchajbaaGreatDoorQ25
import Derived.Test.YtpdphobnchajbaaGreatDoorQ26
set_option linter.unusedSimpArgs false
set_option linter.unusedVariables false
namespace Go.Proofs.YtpdphobnchajbaaGreatDoor
open Go Go.RowKit Go.Proofs.YtpdphobnchajbaaGreatDoor.Ev
open Go.ChangeShapes Go.WideShapes Go.ChangeAt
set_option maxRecDepth 100000
set_option maxHeartbeats 4000000
theorem qI:∀{a b:List Sh} {l:List A},dQ (a++b) l→∃ x y,l=x++y∧dQ a x∧dQ b y
 |[],_,l,h=>⟨[],l,rfl,by rw[dQ],h⟩
 |s::a,b,l,h=>by
  obtain⟨v,l',rfl,h1,h2⟩:=bJ h
  obtain⟨x,y,rfl,h3,h4⟩:=qI h2
  exact⟨v::x,y,rfl,by rw[dQ];exact⟨v,x,rfl,h1,h3⟩,h4⟩
theorem CH{a:List Sh}:∀(k:Nat) {l:List A},dQ (List.replicate k a).flatten l→∃ ls:List (List A),ls.length=k∧l=ls.flatten∧∀ c∈ls,dQ a c
 |0,l,h=>⟨[],rfl,by simpa using fP (by simpa using h),by simp⟩
 |k+1,l,h=>by
  rw[List.replicate_succ,List.flatten_cons]at h
  obtain⟨x,y,rfl,h1,h2⟩:=qI h
  obtain⟨ls,h3,rfl,h4⟩:=CH k h2
  exact⟨x::ls,by simp[h3],rfl,fun c hc=>(List.mem_cons.1 hc).elim (fun e=>e▸h1) (h4 c)⟩
theorem aRI{a:A}(h:gA (.sc (.int .u16)) a):∃ x:Nat,a=.v (.int .u16 x)∧x<65536:=by
 obtain⟨x,h1,h2⟩:=OB h
 simp[Lit.wf,IntKind.min,IntKind.max,IntKind.signed,IntKind.bits]at h2
 refine⟨x.toNat,?_,by omega⟩
 rw[h1,show((x.toNat:Nat):Int)=x by omega]
theorem rJ{a:A}(h:gA (.sc (.int .u8)) a):∃ x:Int,a=.v (.int .u8 x)∧0≤x∧x<256:=by
 obtain⟨x,h1,h2⟩:=tI h
 exact⟨x,h1,by omega,by omega⟩
theorem aZk{c:List A}(h:dQ [.sc (.int .u8),.sc (.int .u8),.sc (.int .u8),.sc .bool,.sc (.int .u8),.sc .bool,.sc (.int .u8),.sc (.int .u8),.sc (.int .u8),.sc (.int .u8)] c):∃ x:Pl.Ins,x.Ok∧c=oR x:=by
 obtain⟨_,_,rfl,a0,h0⟩:=bJ h
 obtain⟨x0,rfl,b0⟩:=tI a0
 obtain⟨_,_,rfl,a1,h1⟩:=bJ h0
 obtain⟨x1,rfl,b1⟩:=tI a1
 obtain⟨_,_,rfl,a2,h2⟩:=bJ h1
 obtain⟨x2,rfl,b2⟩:=tI a2
 obtain⟨_,_,rfl,a3,h3⟩:=bJ h2
 obtain⟨x3,rfl⟩:=EA a3
 obtain⟨_,_,rfl,a4,h4⟩:=bJ h3
 obtain⟨x4,rfl,b4⟩:=tI a4
 obtain⟨_,_,rfl,a5,h5⟩:=bJ h4
 obtain⟨x5,rfl⟩:=EA a5
 obtain⟨_,_,rfl,a6,h6⟩:=bJ h5
 obtain⟨x6,rfl,b6⟩:=tI a6
 obtain⟨_,_,rfl,a7,h7⟩:=bJ h6
 obtain⟨x7,rfl,b7⟩:=tI a7
 obtain⟨_,_,rfl,a8,h8⟩:=bJ h7
 obtain⟨x8,rfl,b8⟩:=tI a8
 obtain⟨_,_,rfl,a9,h9⟩:=bJ h8
 obtain⟨x9,rfl,b9⟩:=tI a9
 obtain rfl:=fP h9
 exact⟨⟨x0,x1,x2,x3,x4,x5,x6,x7,x8,x9⟩,⟨b0,b1,b2,b4,b6,b7,b8,b9⟩,rfl⟩
theorem aN3{c:List A}(h:dQ [.sc (.int .u8),.sc (.int .u8),.sc (.int .u16)] c):∃ x:Ce,x.Ok∧c=cE x:=by
 obtain⟨_,_,rfl,a0,h0⟩:=bJ h
 obtain⟨x0,rfl,b0⟩:=rJ a0
 obtain⟨_,_,rfl,a1,h1⟩:=bJ h0
 obtain⟨x1,rfl,b1⟩:=rJ a1
 obtain⟨_,_,rfl,a2,h2⟩:=bJ h1
 obtain⟨x2,rfl,b2⟩:=aRI a2
 obtain rfl:=fP h2
 exact⟨⟨x0,x1,x2⟩,⟨b0,b1,b2⟩,rfl⟩
theorem rW{α:Type}(c:α→List A):∀ l:List α,(l.map c).flatten=cells c l
 |[]=>rfl
 |x::l=>by rw[List.map_cons,List.flatten_cons,rW c l];rfl
theorem yA{α:Type}{p:α→Prop}{c:α→List A}{e:List Sh}(hc:∀ l,dQ e l→∃ x,p x∧l=c x){a:A}(h:gA (.sl e) a):∃ xs:List α,(∀ x∈xs,p x)∧xs.length≤140737488351232∧a=.sl xs.length (cells c xs):=by
 obtain⟨l,rfl,hl,h⟩:=aNV h
 obtain⟨xs,h1,rfl⟩:=nE (p:=p) (f:=c) fun d hd=>hc d (h d hd)
 rw[List.length_map]at hl ⊢
 exact⟨xs,h1,by simpa only[reachBytes]using hl,by rw[rW]⟩
theorem aDR{α:Type}{p:α→Prop}{c:α→List A}{e:List Sh}(hc:∀ l,dQ e l→∃ x,p x∧l=c x){k:Nat}{l:List A}(h:dQ (List.replicate k e).flatten l):∃ xs:List α,(∀ x∈xs,p x)∧xs.length=k∧l=cells c xs:=by
 obtain⟨ls,h1,rfl,h2⟩:=CH k h
 obtain⟨xs,h3,rfl⟩:=nE (p:=p) (f:=c) fun d hd=>hc d (h2 d hd)
 rw[List.length_map]at h1
 exact⟨xs,h3,h1,rW c xs⟩
section
variable{H:Type}{enc:TypeId×Value→H}{w:World}{base:Nat}{spare:Nat→Bool}{held:Bool}
theorem ZY:pM Tryz.prog 12 42=some (.sc .str::((List.replicate 168 [.sc (.int .u8),.sc (.int .u8),.sc (.int .u16)]).flatten++(List.replicate 20 [.sc (.int .u8),.sc (.int .u8),.sc (.int .u16)]).flatten)):=by kernel_rfl
theorem aFc{l:List A}(h:dQ (.sc .str::((List.replicate 168 [.sc (.int .u8),.sc (.int .u8),.sc (.int .u16)]).flatten++(List.replicate 20 [.sc (.int .u8),.sc (.int .u8),.sc (.int .u16)]).flatten)) l):∃ t:Tl,t.Ok∧l=cT9 t:=by
 obtain⟨_,_,rfl,a0,h0⟩:=bJ h
 obtain⟨s,rfl,-⟩:=NU a0
 obtain⟨x,y,rfl,h1,h2⟩:=qI h0
 obtain⟨C,c1,c2,rfl⟩:=aDR (fun _ h=>aN3 h) h1
 obtain⟨T,t1,t2,rfl⟩:=aDR (fun _ h=>aN3 h) h2
 exact⟨⟨s,C,T⟩,⟨c2,t2,c1,t1⟩,rfl⟩
theorem JI:∀{l:List Cd},(∀ x∈l,nG x)→nR l
 |[],_=>by rw[nR];trivial
 |x::l,h=>by
  rw[nR]
  exact⟨h x (.head _),JI fun y hy=>h y (.tail _ hy)⟩
theorem UI:∀ l:List Cd,(l.map cCd).flatten=eP l
 |[]=>by rw[eP];rfl
 |x::l=>by rw[eP,List.map_cons,List.flatten_cons,UI l]
def X4(l:List A):Prop:=∃ n:Int,(0≤n∧n<256)∧l=[I8 n]
theorem pN{t:TypeId}(h:pM Tryz.prog 2 t=some [.sc (.int .u8)]){fuel:Nat}{cs:List Value}{x:DataW H×List MemPlace}(hx:DataW.trod enc Tryz.prog w base spare held fuel t cs=some x)(hl:jM Tryz.prog t x.1):fX w X4 cs :=
 jL 2 h (fun l h=>by
  obtain⟨_,_,rfl,a0,h0⟩:=bJ h
  obtain⟨n,rfl,hn⟩:=rJ a0
  obtain rfl:=fP h0
  exact⟨n,hn,rfl⟩) hx hl
theorem AD{fuel:Nat} (ih:∀ m,m<fuel→∀(cs:List Value) (x:DataW H×List MemPlace),DataW.trod enc Tryz.prog w base spare held m 25 cs=some x→jM Tryz.prog 25 x.1 →
  fX w (fun l=>∃ ks:List Cd,nR ks∧ks.length≤140737488351232∧l=[.sl ks.length (eP ks)]) cs) (n:Nat) (hn:n<fuel) (cs:List Value) (x:DataW H×List MemPlace) (hx:DataW.trod enc Tryz.prog w base spare held n 27 cs=some x) (hl:jM Tryz.prog 27 x.1) :
  fX w (fun l=>∃ c:Cd,nG c∧l=cCd c) cs:=by
 refine(mV (P:=Tryz.prog) (tys:=[5,5,5,5,25]) (Ps:=[X4,X4,X4,X4,fun l=>∃ ks:List Cd,nR ks∧ks.length≤140737488351232∧l=[.sl ks.length (eP ks)]]) (by kernel_rfl) rfl hx hl ?_).mono ?_
 ·intro m hm i ty p h1 h2 cs x hx hl
  rcases i with _|_|_|_|_|i<;>simp only[List.getElem?_cons_zero,List.getElem?_cons_succ,List.getElem?_nil,Option.some.injEq,reduceCtorEq]at h1 h2
  ·subst h1 h2
   exact pN (by kernel_rfl) hx hl
  ·subst h1 h2
   exact pN (by kernel_rfl) hx hl
  ·subst h1 h2
   exact pN (by kernel_rfl) hx hl
  ·subst h1 h2
   exact pN (by kernel_rfl) hx hl
  ·subst h1 h2
   exact ih m (by omega) cs x hx hl
 ·rintro l h
  obtain⟨_,_,rfl,⟨k,bk,rfl⟩,g1⟩:=eB h
  obtain⟨_,_,rfl,⟨t,bt,rfl⟩,g2⟩:=eB g1
  obtain⟨_,_,rfl,⟨n,bn,rfl⟩,g3⟩:=eB g2
  obtain⟨_,_,rfl,⟨v,bv,rfl⟩,g4⟩:=eB g3
  obtain⟨_,_,rfl,⟨ks,o1,o2,rfl⟩,g5⟩:=eB g4
  obtain rfl:=y4 g5
  exact⟨.mk k t n v ks,by rw[nG];exact⟨bk,bt,bn,bv,o2,o1⟩,by rw[cCd];rfl⟩
theorem PV:∀(fuel:Nat) (cs:List Value) (x:DataW H×List MemPlace),DataW.trod enc Tryz.prog w base spare held fuel 25 cs=some x→jM Tryz.prog 25 x.1 →
  fX w (fun l=>∃ ks:List Cd,nR ks∧ks.length≤140737488351232∧l=[.sl ks.length (eP ks)]) cs:=by
 intro fuel
 induction fuel using Nat.strongRecOn with
 |ind fuel ih =>
  intro cs x hx hl
  refine(EG (P:=Tryz.prog) (e:=27) (F:=fun l=>∃ c:Cd,nG c∧l=cCd c) (by kernel_rfl) (by kernel_rfl) (by kernel_rfl) hx hl ?_).mono ?_
  ·intro n hn cs x hx hl
   exact AD ih n hn cs x hx hl
  ·rintro _ ⟨ls,rfl,h1,h2⟩
   obtain⟨xs,h3,rfl⟩:=nE (p:=nG) (f:=cCd) h2
   refine⟨xs,JI h3,by simpa only[reachBytes,List.length_map]using h1,?_⟩
   rw[List.length_map,UI]
theorem aVI{c:List A}(h:dQ [.sc .str] c):∃ s:ByteArray,True∧c=[Sv s]:=by
 obtain⟨_,_,rfl,a0,h0⟩:=bJ h
 obtain⟨s,rfl,-⟩:=NU a0
 obtain rfl:=fP h0
 exact⟨s,trivial,rfl⟩
theorem aLz{c:List A}(h:dQ [.sc (.int .u8)] c):∃ n:Int,(0≤n∧n<256)∧c=[I8 n]:=by
 obtain⟨_,_,rfl,a0,h0⟩:=bJ h
 obtain⟨n,rfl,hn⟩:=rJ a0
 obtain rfl:=fP h0
 exact⟨n,hn,rfl⟩
theorem Y1(l:List Pl.Ins):cells oR l=u2 l:=by
 induction l with
 |nil=>rfl
 |cons x l ih=>rw[cells,ih];rfl
theorem u1{α:Type}(f:α→A)(l:List α):cells (fun x=>[f x]) l=l.map f:=by
 induction l with
 |nil=>rfl
 |cons x l ih=>rw[cells,ih];rfl
theorem YL{c:List A}(h:dQ [.sl [.sc (.int .u8),.sc (.int .u8),.sc (.int .u8),.sc .bool,.sc (.int .u8),.sc .bool,.sc (.int .u8),.sc (.int .u8),.sc (.int .u8),.sc (.int .u8)]] c):∃ l:List Pl.Ins,(l.length≤140737488351232∧∀ x∈l,x.Ok)∧c=[eY l]:=by
 obtain⟨_,_,rfl,a0,h0⟩:=bJ h
 obtain⟨l,h1,h2,rfl⟩:=yA (fun _ h=>aZk h) a0
 obtain rfl:=fP h0
 exact⟨l,⟨h2,h1⟩,by rw[Y1]⟩
theorem DQ{s:Sh}{F:List A→Prop}(hF:∀ a,gA s a→F [a])(l:List A)(h:dQ [s] l):F l:=by
 obtain⟨a,_,rfl,a0,h0⟩:=bJ h
 obtain rfl:=fP h0
 exact hF a a0
theorem QQ{fuel:Nat}{cs:List Value}{x:DataW H×List MemPlace}(hx:DataW.trod enc Tryz.prog w base spare held fuel 29 cs=some x)(hl:jM Tryz.prog 29 x.1) :
  fX w (fun l=>∃ p:Pg,p.Ok∧l=cPg p) cs:=by
 refine(mV (P:=Tryz.prog) (tys:=[9,22,23,24,5,27])
  (Ps:=[fun l=>∃ s,l=[Sv s],fun l=>∃ ss:List ByteArray,ss.length≤140737488351232∧l=[.sl ss.length (ss.map Sv)],fun l=>∃ ns:List Int,(∀ n∈ns,0≤n∧n<256)∧ns.length≤140737488351232∧l=[.sl ns.length (ns.map fun n=>I8 n)],fun l=>∃ ts:List (List Pl.Ins),(∀ t∈ts,t.length≤140737488351232∧∀ x∈t,x.Ok)∧ts.length≤140737488351232∧l=[.sl ts.length (ts.map fun t=>eY t)],X4,fun l=>∃ c:Cd,nG c∧l=cCd c])
  (by kernel_rfl) rfl hx hl ?_).mono ?_
 ·intro m hm i ty p h1 h2 cs x hx hl
  rcases i with _|_|_|_|_|_|i<;>simp only[List.getElem?_cons_zero,List.getElem?_cons_succ,List.getElem?_nil,Option.some.injEq,reduceCtorEq]at h1 h2
  ·subst h1 h2
   exact jL 2 (ks:=[.sc .str]) (by kernel_rfl) (DQ fun a h=>by obtain⟨s,rfl,-⟩:=NU h;exact⟨s,rfl⟩) hx hl
  ·subst h1 h2
   exact jL 3 (ks:=[.sl [.sc .str]]) (by kernel_rfl) (DQ fun a h=>by obtain⟨ss,-,h2,rfl⟩:=yA (fun _ h=>aVI h) h;exact⟨ss,h2,by rw[u1]⟩) hx hl
  ·subst h1 h2
   exact jL 3 (ks:=[.sl [.sc (.int .u8)]]) (by kernel_rfl) (DQ fun a h=>by obtain⟨ss,h1,h2,rfl⟩:=yA (fun _ h=>aLz h) h;exact⟨ss,h1,h2,by rw[u1]⟩) hx hl
  ·subst h1 h2
   exact jL 12 (ks:=[.sl [.sl [.sc (.int .u8),.sc (.int .u8),.sc (.int .u8),.sc .bool,.sc (.int .u8),.sc .bool,.sc (.int .u8),.sc (.int .u8),.sc (.int .u8),.sc (.int .u8)]]]) (by kernel_rfl) (DQ fun a h=>by obtain⟨ss,h1,h2,rfl⟩:=yA (fun _ h=>YL h) h;exact⟨ss,h1,h2,by rw[u1]⟩) hx hl
  ·subst h1 h2
   exact pN (by kernel_rfl) hx hl
  ·subst h1 h2
   exact AD (fuel:=m+1) (fun k _ cs x hx hl=>PV k cs x hx hl) m (by omega) cs x hx hl
 ·rintro l h
  obtain⟨_,_,rfl,⟨s,rfl⟩,g1⟩:=eB h
  obtain⟨_,_,rfl,⟨ss,o1,rfl⟩,g2⟩:=eB g1
  obtain⟨_,_,rfl,⟨ns,o2,o3,rfl⟩,g3⟩:=eB g2
  obtain⟨_,_,rfl,⟨ts,o4,o5,rfl⟩,g4⟩:=eB g3
  obtain⟨_,_,rfl,⟨q,o6,rfl⟩,g5⟩:=eB g4
  obtain⟨_,_,rfl,⟨c,o7,rfl⟩,g6⟩:=eB g5
  obtain rfl:=y4 g6
  exact⟨⟨s,ss,ns,ts,q,c⟩,⟨o1,o3,o2,o5,o4,o6,o7⟩,by simp[cPg,Pg.low]⟩
theorem GL{fuel:Nat}{cs:List Value}{x:DataW H×List MemPlace}(hx:DataW.trod enc Tryz.prog w base spare held fuel 44 cs=some x)(hl:jM Tryz.prog 44 x.1) :
  fX w (fun l=>∃ W:Wo,W.Ok∧l=cW W) cs:=by
 refine(mV (P:=Tryz.prog) (tys:=[29,31,33,42])
  (Ps:=[fun l=>∃ p:Pg,p.Ok∧l=cPg p,fun l=>∃ c h o s y:Int,l=[I64 c,I64 h,I64 o,I64 s,I64 y],fun l=>∃(n v r b:Int) (e:Bool),((0≤n∧n<256)∧(0≤v∧v<256)∧(0≤r∧r<256))∧l=[I8 n,I8 v,I8 r,I64 b,Bo e],fun l=>∃ t:Tl,t.Ok∧l=cT9 t])
  (by kernel_rfl) rfl hx hl ?_).mono ?_
 ·intro m hm i ty p h1 h2 cs x hx hl
  rcases i with _|_|_|_|i<;>simp only[List.getElem?_cons_zero,List.getElem?_cons_succ,List.getElem?_nil,Option.some.injEq,reduceCtorEq]at h1 h2
  ·subst h1 h2
   exact QQ hx hl
  ·subst h1 h2
   refine jL 12 (ks:=[.sc (.int .i64),.sc (.int .i64),.sc (.int .i64),.sc (.int .i64),.sc (.int .i64)]) (by kernel_rfl) (fun l f=>?_) hx hl
   obtain⟨_,_,rfl,a0,h0⟩:=bJ f
   obtain⟨x0,rfl,-⟩:=sC a0
   obtain⟨_,_,rfl,a1,h1⟩:=bJ h0
   obtain⟨x1,rfl,-⟩:=sC a1
   obtain⟨_,_,rfl,a2,h2⟩:=bJ h1
   obtain⟨x2,rfl,-⟩:=sC a2
   obtain⟨_,_,rfl,a3,h3⟩:=bJ h2
   obtain⟨x3,rfl,-⟩:=sC a3
   obtain⟨_,_,rfl,a4,h4⟩:=bJ h3
   obtain⟨x4,rfl,-⟩:=sC a4
   obtain rfl:=fP h4
   exact⟨x0,x1,x2,x3,x4,rfl⟩
  ·subst h1 h2
   refine jL 12 (ks:=[.sc (.int .u8),.sc (.int .u8),.sc (.int .u8),.sc (.int .i64),.sc .bool]) (by kernel_rfl) (fun l f=>?_) hx hl
   obtain⟨_,_,rfl,a0,h0⟩:=bJ f
   obtain⟨x0,rfl,b0⟩:=rJ a0
   obtain⟨_,_,rfl,a1,h1⟩:=bJ h0
   obtain⟨x1,rfl,b1⟩:=rJ a1
   obtain⟨_,_,rfl,a2,h2⟩:=bJ h1
   obtain⟨x2,rfl,b2⟩:=rJ a2
   obtain⟨_,_,rfl,a3,h3⟩:=bJ h2
   obtain⟨x3,rfl,-⟩:=sC a3
   obtain⟨_,_,rfl,a4,h4⟩:=bJ h3
   obtain⟨x4,rfl⟩:=EA a4
   obtain rfl:=fP h4
   exact⟨x0,x1,x2,x3,x4,⟨b0,b1,b2⟩,rfl⟩
  ·subst h1 h2
   exact jL 12 ZY (fun l f=>aFc f) hx hl
 ·rintro l h
  obtain⟨_,_,rfl,⟨p,o1,rfl⟩,g1⟩:=eB h
  obtain⟨_,_,rfl,⟨c,hh,oo,s,y,rfl⟩,g2⟩:=eB g1
  obtain⟨_,_,rfl,⟨n,v,r,b,e,o2,rfl⟩,g3⟩:=eB g2
  obtain⟨_,_,rfl,⟨t,o3,rfl⟩,g4⟩:=eB g3
  obtain rfl:=y4 g4
  exact⟨⟨p,c,hh,oo,s,y,n,v,r,b,e,t⟩,⟨o1,o3,o2.1,o2.2.1,o2.2.2⟩,by simp[cW,Wo.gr]⟩
end
end Go.Proofs.YtpdphobnchajbaaGreatDoor
