/- A core, in plain. -/
import Derived.Test.YtpdphobnchajbaaGreatDoorQ09
set_option linter.unusedSimpArgs false
set_option linter.unusedVariables false
namespace Go.Proofs.YtpdphobnchajbaaGreatDoor.Pl
structure Ins where
 op:Int
 dst:Int
 loc:Int
 ra:Bool
 na:Int
 rb:Bool
 nb:Int
 fn:Int
 mode:Int
 skip:Int
structure Core where
 pc:Int
 g:Nat→Int
 buf:List (Int×Int)
 waits:Bool
 drain:Bool
def u8(n:Int):Prop:=0≤n∧n≤255
structure Ins.Ok(x:Ins):Prop where
 op:u8 x.op
 dst:u8 x.dst
 loc:u8 x.loc
 na:u8 x.na
 nb:u8 x.nb
 fn:u8 x.fn
 mode:u8 x.mode
 skip:u8 x.skip
structure Core.Ok(c:Core):Prop where
 pc:u8 c.pc
 g:∀ i,u8 (c.g i)
 buf:∀ p∈c.buf,u8 p.1∧u8 p.2
def value(g:Nat→Int)(r:Bool)(n:Int):Int:=if r then(if n<8 then g n.toNat else 0)else n
def mov(fn a b:Int):Int:=if fn=1 then Go.IntKind.u8.wrap (a+b)else if fn=2 then Go.IntKind.u8.wrap (a-b)else if fn=3 then Go.IntKind.u8.wrap (BitVec.ofInt Go.IntKind.u8.bits a ^^^ BitVec.ofInt Go.IntKind.u8.bits b).toNat else 0
def tst(fn a b:Int):Bool:=if fn=4 then a==b else if fn=5 then a !=b else if fn=6 then decide (a<b)else false
def young(loc:Int):List (Int×Int)→Option Int
 |[]=>none
 |p::l=>match young loc l with
  |some v=>some v
  |none=>if p.1=loc then some p.2 else none
def free(c:Core)(s:Int)(is:Bool):Int:=if is&&!c.waits then s else 4
def next(l:List Ins)(b:Int)(c:Core):Int :=
 match l[c.pc.toNat]? with
 |none=>free c 1 c.buf.isEmpty
 |some x =>
  if x.op=3∨x.op=8 then free c 2 true
  else if x.op=7 then free c 2 (c.buf.isEmpty||x.mode !=3)
  else if x.op=2 then(if b > 0 then free c 2 (decide ((c.buf.length:Int)<b))else free c 3 (!c.drain))
  else if x.op=1 then(match young x.loc c.buf with
   |some _=>free c 2 true
   |none=>free c 3 (!c.drain))
  else if x.op=4∨x.op=5∨x.op=6 then free c 3 (c.buf.isEmpty&&!c.drain)
  else 4
structure Op where
 kind:Int
 loc:Int
 a:Int
 b:Int
def ask(l:List Ins)(c:Core):Op :=
 match l[c.pc.toNat]? with
 |none=>⟨0,0,0,0⟩
 |some x =>
  if x.op=1 then⟨x.op,x.loc,0,0⟩
  else if x.op=2∨x.op=4∨x.op=5 then⟨x.op,x.loc,value c.g x.ra x.na,0⟩
  else if x.op=6 then⟨x.op,x.loc,value c.g x.ra x.na,value c.g x.rb x.nb⟩
  else⟨0,0,0,0⟩
def set(g:Nat→Int)(d v:Int):Nat→Int:=fun i=>if d<8∧i=d.toNat then v else g i
def on(l:List Ins)(pc n:Int):Int:=min (min (pc+n) l.length) 255
def loc1(x:Ins)(l:List Ins)(c:Core):Core :=
 if x.op=3 then { c with g:=set c.g x.dst (mov x.fn (value c.g x.ra x.na) (value c.g x.rb x.nb)),pc:=on l c.pc 1 }
 else if x.op=8 then { c with pc:=on l c.pc (if tst x.fn (value c.g x.ra x.na) (value c.g x.rb x.nb)then 1+x.skip else 1) }
 else if x.op=7 then { c with pc:=on l c.pc 1 }
 else if x.op=2 then { c with buf:=c.buf++[(x.loc,value c.g x.ra x.na)],pc:=on l c.pc 1 }
 else if x.op=1 then { c with g:=(match young x.loc c.buf with|some v=>set c.g x.dst v|none=>c.g),pc:=on l c.pc 1 }
 else c
def loc(l:List Ins)(b:Int)(c:Core):Core :=
 if next l b c=2 then
  match l[c.pc.toNat]? with
  |some x=>loc1 x l c
  |none=>c
 else c
def drains(c:Core):Option (Int×Int):=if c.waits||c.drain then none else c.buf.head?
def back(l:List Ins)(c:Core)(old:Int):Core :=
 if c.drain then { c with buf:=c.buf.drop 1,drain:=false }
 else if c.waits then
  { c with waits:=false,pc:=on l c.pc 1,g:=match l[c.pc.toNat]? with
   |some x=>if x.op=2 then c.g else set c.g x.dst old
   |none=>c.g }
 else c
end Go.Proofs.YtpdphobnchajbaaGreatDoor.Pl
namespace Go.Proofs.YtpdphobnchajbaaGreatDoor.Ev
open Go Go.RowKit
set_option maxRecDepth 100000
abbrev OG(r:Bool)(n:Int):A:=.agg [Bo r,I8 n]
set_option maxHeartbeats 4000000 in
theorem aGc(fn a b:Int):EvQ Cx 219 [I8 fn,I8 a,I8 b] (I8 (Pl.mov fn a b)):=by
 refine aX a3u rfl (by simp[MP]) ?_
 unfold Pl.mov
 by_cases k1:fn=1
 case pos=>simp(disch:=omega)only[k1,go_sem,simprocAttr]
 by_cases k2:fn=2
 case pos=>simp(disch:=omega)only[k2,go_sem,simprocAttr]
 by_cases k3:fn=3
 case pos=>simp(disch:=omega)only[k3,go_sem,simprocAttr]
 simp(disch:=omega)only[k1,k2,k3,go_sem,simprocAttr]
set_option maxHeartbeats 4000000 in
theorem aHJ(fn a b:Int):EvQ Cx 220 [I8 fn,I8 a,I8 b] (Bo (Pl.tst fn a b)):=by
 refine aX aO4 rfl (by simp[IG]) ?_
 unfold Pl.tst
 by_cases k1:fn=4
 case pos=>simp(disch:=omega)only[k1,go_sem,simprocAttr]
 by_cases k2:fn=5
 case pos=>simp(disch:=omega)only[k2,go_sem,simprocAttr]
 by_cases k3:fn=6
 case pos=>simp(disch:=omega)only[k3,go_sem,simprocAttr]
 simp(disch:=omega)only[k1,k2,k3,go_sem,simprocAttr]
abbrev mH(pc:Int)(g:Nat→Int)(bf:A)(w d:Bool):A:=.agg [I8 pc,I8 (g 0),I8 (g 1),I8 (g 2),I8 (g 3),I8 (g 4),I8 (g 5),I8 (g 6),I8 (g 7),bf,Bo w,Bo d]
theorem yJ{n:Int}(h:0≤n)(h':n<8):n=0∨n=1∨n=2∨n=3∨n=4∨n=5∨n=6∨n=7:=by omega
set_option maxHeartbeats 4000000 in
theorem aC1(pc:Int)(g:Nat→Int)(bf:A)(hb:one bf=true)(w d r:Bool)(n:Int)(n1:0≤n)(n2:n≤255):EvQ Cx 176 [mH pc g bf w d,OG r n] (I8 (Pl.value g r n)):=by
 refine aX aRh rfl (by simp[LN]) ?_
 unfold one at hb
 cases r
 case false=>simp(disch:=omega)only[Pl.value,hb,go_sem,simprocAttr]
 by_cases k:n<8
 case pos =>
  obtain h|h|h|h|h|h|h|h:=yJ n1 k
  all_goals
   subst h
   simp(disch:=omega)only[Pl.value,hb,go_sem,simprocAttr]
 simp(disch:=omega)only[Pl.value,k,hb,go_sem,simprocAttr]
section
variable{bb:Bool}{dst:Option Nat}{j:Nat}{ms:List MOp}{st:Ev.St}{k:List It}{Q:Ex→Ev.St→Prop}
theorem J4{fn a b:Int}:QK Cx 219 [I8 fn,I8 a,I8 b] bb dst j ms st k Q↔((bb||iA (I8 (Pl.mov fn a b)))=true∧iH Cx j ms ⟨put st.env dst (I8 (Pl.mov fn a b)),st.H⟩ k Q):=QK.use (aGc fn a b)
theorem JW{fn a b:Int}:QK Cx 220 [I8 fn,I8 a,I8 b] bb dst j ms st k Q↔((bb||iA (Bo (Pl.tst fn a b)))=true∧iH Cx j ms ⟨put st.env dst (Bo (Pl.tst fn a b)),st.H⟩ k Q):=QK.use (aHJ fn a b)
theorem ZP{pc:Int}{r0 r1 r2 r3 r4 r5 r6 r7:Int}{bf:A}(hb:one bf=true){w d r:Bool}{n:Int}(n1:0≤n)(n2:n≤255):QK Cx 176 [.agg [I8 pc,I8 r0,I8 r1,I8 r2,I8 r3,I8 r4,I8 r5,I8 r6,I8 r7,bf,Bo w,Bo d],.agg [Bo r,I8 n]] bb dst j ms st k Q↔((bb||iA (I8 (Pl.value (fun i=>[r0,r1,r2,r3,r4,r5,r6,r7].getD i 0) r n)))=true∧iH Cx j ms ⟨put st.env dst (I8 (Pl.value (fun i=>[r0,r1,r2,r3,r4,r5,r6,r7].getD i 0) r n)),st.H⟩ k Q):=QK.use (aC1 pc (fun i=>[r0,r1,r2,r3,r4,r5,r6,r7].getD i 0) bf hb w d r n n1 n2)
end
def oR(x:Pl.Ins):List A:=[I8 x.op,I8 x.dst,I8 x.loc,Bo x.ra,I8 x.na,Bo x.rb,I8 x.nb,I8 x.fn,I8 x.mode,I8 x.skip]
def u2(l:List Pl.Ins):List A:=l.flatMap oR
def dR(l:List (Int×Int)):List A:=l.flatMap fun p=>[I8 p.1,I8 p.2]
abbrev eY(l:List Pl.Ins):A:=.sl l.length (u2 l)
abbrev gI(l:List (Int×Int)):A:=.sl l.length (dR l)
theorem c7(l:List (Int×Int)):(dR l).length=l.length*2:=by
 induction l with
 |nil=>rfl
 |cons p l ih =>
  unfold dR at ih ⊢
  simp only[List.flatMap_cons,List.length_append,ih,List.length_cons,List.length_nil]
  omega
theorem aEr(l:List Pl.Ins):(u2 l).length=l.length*10:=by
 induction l with
 |nil=>rfl
 |cons p l ih =>
  unfold u2 at ih ⊢
  simp only[List.flatMap_cons,List.length_append,ih,List.length_cons,List.length_nil,oR]
  omega
theorem B9:∀{l:List (Int×Int)} {k:Nat} {p:Int×Int},l[k]?=some p→(dR l).drop (k*2)=I8 p.1::I8 p.2::dR (l.drop (k+1))
 |[],k,p,h=>by simp at h
 |q::l,0,p,h=>by
  simp only[List.getElem?_cons_zero,Option.some.injEq]at h
  subst h
  simp[dR]
 |q::l,k+1,p,h=>by
  have:=B9 (l:=l) (k:=k) (p:=p) (by simpa using h)
  rw[show(k+1)*2=k*2+1+1 by omega,List.drop_succ_cons (l:=l),← this]
  simp[dR]
theorem lW:∀{l:List Pl.Ins} {k:Nat} {x:Pl.Ins},l[k]?=some x→(u2 l).drop (k*10)=I8 x.op::I8 x.dst::I8 x.loc::Bo x.ra::I8 x.na::Bo x.rb::I8 x.nb::I8 x.fn::I8 x.mode::I8 x.skip::u2 (l.drop (k+1))
 |[],k,p,h=>by simp at h
 |q::l,0,p,h=>by
  simp only[List.getElem?_cons_zero,Option.some.injEq]at h
  subst h
  simp[u2,oR]
 |q::l,k+1,p,h=>by
  have:=lW (l:=l) (k:=k) (x:=p) (by simpa using h)
  rw[show(k+1)*10=k*10+1+1+1+1+1+1+1+1+1+1 by omega,List.drop_succ_cons (l:=l),← this]
  simp[u2,oR]
theorem zE(loc:Int)(p:Int×Int):∀ l:List (Int×Int),Pl.young loc (l++[p])=if p.1=loc then some p.2 else Pl.young loc l
 |[]=>by simp only[List.nil_append,Pl.young]
 |q::l=>by
  simp only[List.cons_append,Pl.young,zE loc p l]
  by_cases h:p.1=loc
  ·simp only[if_pos h]
  ·simp only[if_neg h]
abbrev o9(v:Option Int):A:=.tup [I8 (v.getD 0),Bo v.isSome]
set_option maxHeartbeats 4000000 in
theorem QI(loc:Int)(bs:List (Int×Int))(hl:(bs.length:Int)≤1152921504606846976)(c:M)(h1:bG Cx [.code c] ⟨[(11,Bo false),(10,I64 (-1)),(0,gI bs),(1,I8 loc),(6,I64 (-1))],[]⟩ (rE Cx.T .shut [.tmp 4,.tmp 5] (o9 none))) :
  ∀(k:Nat) (i:Int),k≤bs.length→i=(k:Int)-1→bG Cx [.code (.loop UN),.blk 0,.code c] ⟨[(0,gI bs),(1,I8 loc),(6,I64 i)],[]⟩ (rE Cx.T .shut [.tmp 4,.tmp 5] (o9 (Pl.young loc (bs.take k)))):=by
 intro k
 induction k with
 |zero =>
  intro i _ hi
  obtain rfl:i=-1:=by simpa using hi
  rw[aA]
  simp(disch:=omega)only[go_sem,simprocAttr]
  simpa[Pl.young]using h1
 |succ k ih =>
  intro i hk hi
  obtain⟨p,hp⟩:∃ p,bs[k]?=some p:=⟨_,List.getElem?_eq_getElem (by omega)⟩
  have hd:=B9 hp
  rw[show k=i.toNat by omega]at hd
  have htake:bs.take (k+1)=bs.take k++[p]:=by rw[List.take_add_one,hp];rfl
  rw[htake,zE]
  rw[aA]
  by_cases hloc:p.1=loc
  ·rw[if_pos hloc]
   simp(disch:=omega)only[hd,hloc,o9,Option.getD_some,Option.isSome_some,go_sem,simprocAttr]
  ·rw[if_neg hloc]
   simp(disch:=omega)only[hd,go_sem,simprocAttr]
   rw[aB (l:=[0,1,6]) rfl]
   simp(disch:=omega)only[go_sem,simprocAttr]
   exact ih (i-1) (by omega) (by omega)
set_option maxHeartbeats 4000000 in
theorem aEd(loc:Int)(bs:List (Int×Int))(hl:(bs.length:Int)≤1152921504606846976):EvQ Cx 166 [gI bs,I8 loc] (o9 (Pl.young loc bs)):=by
 refine aX aSP rfl (by simp[GR]) ?_
 simp(disch:=omega)only[go_sem,simprocAttr]
 rw[aB (l:=[0,1,6]) rfl]
 simp(disch:=omega)only[go_sem,simprocAttr]
 have key:=fun c h1=>QI loc bs hl c h1 bs.length (bs.length-1) (Nat.le_refl _) rfl
 simp only[List.take_length]at key
 refine key _ ?_
 simp(disch:=omega)only[o9,Option.getD_none,Option.isSome_none,go_sem,simprocAttr]
abbrev W0(nt vw rp b:Int)(ev:Bool):A:=.agg [I8 nt,I8 vw,I8 rp,I64 b,Bo ev]
abbrev iZ(c:Pl.Core):A:=mH c.pc c.g (gI c.buf) c.waits c.drain
section
variable{bb:Bool}{dst:Option Nat}{j:Nat}{ms:List MOp}{st:Ev.St}{k:List It}{Q:Ex→Ev.St→Prop}
theorem eZ{s:Int}{b:Bool}{pc:Int}{r0 r1 r2 r3 r4 r5 r6 r7:Int}{bf:A}{w d:Bool}{x0:Option Blk}{tl:aG}{e:Env}:bB Cx 165 [I8 s,Bo b,.ptr 1 0] dst ms ⟨e,x0::some ⟨99,[I8 pc,I8 r0,I8 r1,I8 r2,I8 r3,I8 r4,I8 r5,I8 r6,I8 r7,bf,Bo w,Bo d],true⟩::tl⟩ k Q↔iH Cx 0 ms ⟨put e dst (I8 (if b&&!w then s else 4)),x0::some ⟨99,[I8 pc,I8 r0,I8 r1,I8 r2,I8 r3,I8 r4,I8 r5,I8 r6,I8 r7,bf,Bo w,Bo d],true⟩::tl⟩ k Q:=by
 rw[aK a1V a2f]
 cases b<;>cases w<;>simp(disch:=omega)only[Bool.and_self,go_sem,simprocAttr]
theorem nU{loc:Int}{bs:List (Int×Int)}(hl:(bs.length:Int)≤1152921504606846976):QK Cx 166 [.sl bs.length (dR bs),I8 loc] bb dst j ms st k Q↔((bb||iA (o9 (Pl.young loc bs)))=true∧iH Cx j ms ⟨put st.env dst (o9 (Pl.young loc bs)),st.H⟩ k Q):=QK.use (aEd loc bs hl)
end
set_option maxHeartbeats 8000000 in
theorem RK(l:List Pl.Ins)(hl:(l.length:Int)≤1152921504606846976)(nt vw rp b:Int)(ev:Bool)(pc:Int)(g:Nat→Int)(bs:List (Int×Int))(w d:Bool)(p1:0≤pc)(p2:pc≤255)(hb:(bs.length:Int)≤1152921504606846976) :
  EvQ Cx 105 [eY l,W0 nt vw rp b ev,mH pc g (gI bs) w d] (I8 (Pl.next l b ⟨pc,g,bs,w,d⟩)):=by
 refine aX aBH rfl (by simp[CE]) ?_
 have hE:bs.isEmpty=((bs.length:Int)==0):=by
  cases bs with
  |nil=>rfl
  |cons p l =>
   simp only[List.isEmpty_cons,List.length_cons]
   rw[cZ (by omega)]
 by_cases hpc:pc<l.length
 case neg =>
  have hn:l[pc.toNat]?=none:=List.getElem?_eq_none (by omega)
  simp(disch:=omega)only[hn,hE,eZ,Pl.next,Pl.free,go_sem,simprocAttr]
 obtain⟨x,hx⟩:∃ x,l[pc.toNat]?=some x:=⟨_,List.getElem?_eq_getElem (by omega)⟩
 have hd:=lW hx
 by_cases h3:x.op=3
 case pos=>simp(disch:=omega)only[hx,hd,h3,true_or,eZ,Pl.next,Pl.free,go_sem,simprocAttr]
 by_cases h8:x.op=8
 case pos=>simp(disch:=omega)only[hx,hd,h8,or_true,eZ,Pl.next,Pl.free,go_sem,simprocAttr]
 by_cases h7:x.op=7
 case pos =>
  by_cases he:(bs.length:Int)=0
  ·simp(disch:=omega)only[hx,hd,h7,hE,he,or_self,eZ,Pl.next,Pl.free,go_sem,simprocAttr]
  ·simp(disch:=omega)only[hx,hd,h7,hE,or_self,eZ,Pl.next,Pl.free,go_sem,simprocAttr]
 by_cases h2:x.op=2
 case pos =>
  by_cases hbb:b > 0
  ·simp(disch:=omega)only[hx,hd,h2,or_self,eZ,Pl.next,Pl.free,go_sem,simprocAttr]
  ·simp(disch:=omega)only[hx,hd,h2,or_self,eZ,Pl.next,Pl.free,go_sem,simprocAttr]
 by_cases h1:x.op=1
 case pos =>
  cases hy:Pl.young x.loc bs with
  |none=>simp(disch:=omega)only[hx,hd,hy,h1,or_self,eZ,nU,o9,Option.isSome_none,Option.getD_none,Pl.next,Pl.free,go_sem,simprocAttr]
  |some v=>simp(disch:=omega)only[hx,hd,hy,h1,or_self,eZ,nU,o9,Option.isSome_some,Option.getD_some,Pl.next,Pl.free,go_sem,simprocAttr]
 by_cases he:(bs.length:Int)=0
 ·by_cases h4:x.op=4
  case pos=>simp(disch:=omega)only[hx,hd,h4,hE,he,or_self,true_or,eZ,Pl.next,Pl.free,go_sem,simprocAttr]
  by_cases h5:x.op=5
  case pos=>simp(disch:=omega)only[hx,hd,h5,hE,he,or_self,true_or,or_true,eZ,Pl.next,Pl.free,go_sem,simprocAttr]
  by_cases h6:x.op=6
  case pos=>simp(disch:=omega)only[hx,hd,h6,hE,he,or_self,or_true,eZ,Pl.next,Pl.free,go_sem,simprocAttr]
  simp(disch:=omega)only[hx,hd,h1,h2,h3,h4,h5,h6,h7,h8,he,or_self,Pl.next,go_sem,simprocAttr]
 ·by_cases h4:x.op=4
  case pos=>simp(disch:=omega)only[hx,hd,h4,hE,or_self,true_or,eZ,Pl.next,Pl.free,go_sem,simprocAttr]
  by_cases h5:x.op=5
  case pos=>simp(disch:=omega)only[hx,hd,h5,hE,or_self,true_or,or_true,eZ,Pl.next,Pl.free,go_sem,simprocAttr]
  by_cases h6:x.op=6
  case pos=>simp(disch:=omega)only[hx,hd,h6,hE,or_self,or_true,eZ,Pl.next,Pl.free,go_sem,simprocAttr]
  simp(disch:=omega)only[hx,hd,h1,h2,h3,h4,h5,h6,h7,h8,or_self,Pl.next,go_sem,simprocAttr]
end Go.Proofs.YtpdphobnchajbaaGreatDoor.Ev
