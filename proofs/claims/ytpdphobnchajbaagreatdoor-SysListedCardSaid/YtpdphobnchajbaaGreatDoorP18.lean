/- A core, in plain. -/
import Derived.Test.YtpdphobnchajbaaGreatDoorP14
set_option linter.unusedSimpArgs false
set_option linter.unusedVariables false
namespace Go.Proofs.YtpdphobnchajbaaGreatDoor.Pl
structure Ins where
 op:Int
 dst:Int
 loc:Int
 ra:Bool
 na:Int
 rb:Bool
 nb:Int
 fn:Int
 mode:Int
 skip:Int
structure Core where
 pc:Int
 g:Nat→Int
 buf:List (Int×Int)
 waits:Bool
 drain:Bool
def u8(n:Int):Prop:=0≤n∧n≤255
structure Ins.Ok(x:Ins):Prop where
 op:u8 x.op
 dst:u8 x.dst
 loc:u8 x.loc
 na:u8 x.na
 nb:u8 x.nb
 fn:u8 x.fn
 mode:u8 x.mode
 skip:u8 x.skip
structure Core.Ok(c:Core):Prop where
 pc:u8 c.pc
 g:∀ i,u8 (c.g i)
 buf:∀ p∈c.buf,u8 p.1∧u8 p.2
def value(g:Nat→Int)(r:Bool)(n:Int):Int:=if r then(if n<8 then g n.toNat else 0)else n
def mov(fn a b:Int):Int:=if fn=1 then Go.IntKind.u8.wrap (a+b)else if fn=2 then Go.IntKind.u8.wrap (a-b)else if fn=3 then Go.IntKind.u8.wrap (BitVec.ofInt Go.IntKind.u8.bits a ^^^ BitVec.ofInt Go.IntKind.u8.bits b).toNat else 0
def tst(fn a b:Int):Bool:=if fn=4 then a==b else if fn=5 then a !=b else if fn=6 then decide (a<b)else false
def young(loc:Int):List (Int×Int)→Option Int
 |[]=>none
 |p::l=>match young loc l with
  |some v=>some v
  |none=>if p.1=loc then some p.2 else none
def free(c:Core)(s:Int)(is:Bool):Int:=if is&&!c.waits then s else 4
def next(l:List Ins)(b:Int)(c:Core):Int :=
 match l[c.pc.toNat]? with
 |none=>free c 1 c.buf.isEmpty
 |some x =>
  if x.op=3∨x.op=8 then free c 2 true
  else if x.op=7 then free c 2 (c.buf.isEmpty||x.mode !=3)
  else if x.op=2 then(if b > 0 then free c 2 (decide ((c.buf.length:Int)<b))else free c 3 (!c.drain))
  else if x.op=1 then(match young x.loc c.buf with
   |some _=>free c 2 true
   |none=>free c 3 (!c.drain))
  else if x.op=4∨x.op=5∨x.op=6 then free c 3 (c.buf.isEmpty&&!c.drain)
  else 4
structure Op where
 kind:Int
 loc:Int
 a:Int
 b:Int
def ask(l:List Ins)(c:Core):Op :=
 match l[c.pc.toNat]? with
 |none=>⟨0,0,0,0⟩
 |some x =>
  if x.op=1 then⟨x.op,x.loc,0,0⟩
  else if x.op=2∨x.op=4∨x.op=5 then⟨x.op,x.loc,value c.g x.ra x.na,0⟩
  else if x.op=6 then⟨x.op,x.loc,value c.g x.ra x.na,value c.g x.rb x.nb⟩
  else⟨0,0,0,0⟩
def set(g:Nat→Int)(d v:Int):Nat→Int:=fun i=>if d<8∧i=d.toNat then v else g i
def on(l:List Ins)(pc n:Int):Int:=min (min (pc+n) l.length) 255
def loc1(x:Ins)(l:List Ins)(c:Core):Core :=
 if x.op=3 then { c with g:=set c.g x.dst (mov x.fn (value c.g x.ra x.na) (value c.g x.rb x.nb)),pc:=on l c.pc 1 }
 else if x.op=8 then { c with pc:=on l c.pc (if tst x.fn (value c.g x.ra x.na) (value c.g x.rb x.nb)then 1+x.skip else 1) }
 else if x.op=7 then { c with pc:=on l c.pc 1 }
 else if x.op=2 then { c with buf:=c.buf++[(x.loc,value c.g x.ra x.na)],pc:=on l c.pc 1 }
 else if x.op=1 then { c with g:=(match young x.loc c.buf with|some v=>set c.g x.dst v|none=>c.g),pc:=on l c.pc 1 }
 else c
def loc(l:List Ins)(b:Int)(c:Core):Core :=
 if next l b c=2 then
  match l[c.pc.toNat]? with
  |some x=>loc1 x l c
  |none=>c
 else c
def drains(c:Core):Option (Int×Int):=if c.waits||c.drain then none else c.buf.head?
def back(l:List Ins)(c:Core)(old:Int):Core :=
 if c.drain then { c with buf:=c.buf.drop 1,drain:=false }
 else if c.waits then
  { c with waits:=false,pc:=on l c.pc 1,g:=match l[c.pc.toNat]? with
   |some x=>if x.op=2 then c.g else set c.g x.dst old
   |none=>c.g }
 else c
end Go.Proofs.YtpdphobnchajbaaGreatDoor.Pl
namespace Go.Proofs.YtpdphobnchajbaaGreatDoor.Ev
open Go Go.RowKit
set_option maxRecDepth 100000
abbrev encArg(r:Bool)(n:Int):A:=.agg [Bo r,I8 n]
set_option maxHeartbeats 4000000 in
theorem calc_ev(fn a b:Int):EvQ Cx 219 [I8 fn,I8 a,I8 b] (I8 (Pl.mov fn a b)):=by
 refine evQ_of CxB219 rfl (by simp[fn219]) ?_
 unfold Pl.mov
 by_cases k1:fn=1
 case pos=>simp(disch:=omega)only[k1,go_sem,simprocAttr]
 by_cases k2:fn=2
 case pos=>simp(disch:=omega)only[k2,go_sem,simprocAttr]
 by_cases k3:fn=3
 case pos=>simp(disch:=omega)only[k3,go_sem,simprocAttr]
 simp(disch:=omega)only[k1,k2,k3,go_sem,simprocAttr]
set_option maxHeartbeats 4000000 in
theorem test_ev(fn a b:Int):EvQ Cx 220 [I8 fn,I8 a,I8 b] (Bo (Pl.tst fn a b)):=by
 refine evQ_of CxB220 rfl (by simp[fn220]) ?_
 unfold Pl.tst
 by_cases k1:fn=4
 case pos=>simp(disch:=omega)only[k1,go_sem,simprocAttr]
 by_cases k2:fn=5
 case pos=>simp(disch:=omega)only[k2,go_sem,simprocAttr]
 by_cases k3:fn=6
 case pos=>simp(disch:=omega)only[k3,go_sem,simprocAttr]
 simp(disch:=omega)only[k1,k2,k3,go_sem,simprocAttr]
abbrev encC(pc:Int)(g:Nat→Int)(bf:A)(w d:Bool):A:=.agg [I8 pc,I8 (g 0),I8 (g 1),I8 (g 2),I8 (g 3),I8 (g 4),I8 (g 5),I8 (g 6),I8 (g 7),bf,Bo w,Bo d]
theorem small8{n:Int}(h:0≤n)(h':n<8):n=0∨n=1∨n=2∨n=3∨n=4∨n=5∨n=6∨n=7:=by omega
set_option maxHeartbeats 4000000 in
theorem value_ev(pc:Int)(g:Nat→Int)(bf:A)(hb:one bf=true)(w d r:Bool)(n:Int)(n1:0≤n)(n2:n≤255):EvQ Cx 176 [encC pc g bf w d,encArg r n] (I8 (Pl.value g r n)):=by
 refine evQ_of CxB176 rfl (by simp[fn176]) ?_
 unfold one at hb
 cases r
 case false=>simp(disch:=omega)only[Pl.value,hb,go_sem,simprocAttr]
 by_cases k:n<8
 case pos =>
  obtain h|h|h|h|h|h|h|h:=small8 n1 k
  all_goals
   subst h
   simp(disch:=omega)only[Pl.value,hb,go_sem,simprocAttr]
 simp(disch:=omega)only[Pl.value,k,hb,go_sem,simprocAttr]
section
variable{bb:Bool}{dst:Option Nat}{j:Nat}{ms:List MOp}{st:Ev.St}{k:List It}{Q:Ex→Ev.St→Prop}
theorem calc_use{fn a b:Int}:QK Cx 219 [I8 fn,I8 a,I8 b] bb dst j ms st k Q↔((bb||flat (I8 (Pl.mov fn a b)))=true∧OpsK Cx j ms ⟨put st.env dst (I8 (Pl.mov fn a b)),st.H⟩ k Q):=QK.use (calc_ev fn a b)
theorem test_use{fn a b:Int}:QK Cx 220 [I8 fn,I8 a,I8 b] bb dst j ms st k Q↔((bb||flat (Bo (Pl.tst fn a b)))=true∧OpsK Cx j ms ⟨put st.env dst (Bo (Pl.tst fn a b)),st.H⟩ k Q):=QK.use (test_ev fn a b)
theorem value_use{pc:Int}{r0 r1 r2 r3 r4 r5 r6 r7:Int}{bf:A}(hb:one bf=true){w d r:Bool}{n:Int}(n1:0≤n)(n2:n≤255):QK Cx 176 [.agg [I8 pc,I8 r0,I8 r1,I8 r2,I8 r3,I8 r4,I8 r5,I8 r6,I8 r7,bf,Bo w,Bo d],.agg [Bo r,I8 n]] bb dst j ms st k Q↔((bb||flat (I8 (Pl.value (fun i=>[r0,r1,r2,r3,r4,r5,r6,r7].getD i 0) r n)))=true∧OpsK Cx j ms ⟨put st.env dst (I8 (Pl.value (fun i=>[r0,r1,r2,r3,r4,r5,r6,r7].getD i 0) r n)),st.H⟩ k Q):=QK.use (value_ev pc (fun i=>[r0,r1,r2,r3,r4,r5,r6,r7].getD i 0) bf hb w d r n n1 n2)
end
def encI(x:Pl.Ins):List A:=[I8 x.op,I8 x.dst,I8 x.loc,Bo x.ra,I8 x.na,Bo x.rb,I8 x.nb,I8 x.fn,I8 x.mode,I8 x.skip]
def insC(l:List Pl.Ins):List A:=l.flatMap encI
def bufC(l:List (Int×Int)):List A:=l.flatMap fun p=>[I8 p.1,I8 p.2]
abbrev insA(l:List Pl.Ins):A:=.sl l.length (insC l)
abbrev bufA(l:List (Int×Int)):A:=.sl l.length (bufC l)
theorem bufC_len(l:List (Int×Int)):(bufC l).length=l.length*2:=by
 induction l with
 |nil=>rfl
 |cons p l ih =>
  unfold bufC at ih ⊢
  simp only[List.flatMap_cons,List.length_append,ih,List.length_cons,List.length_nil]
  omega
theorem insC_len(l:List Pl.Ins):(insC l).length=l.length*10:=by
 induction l with
 |nil=>rfl
 |cons p l ih =>
  unfold insC at ih ⊢
  simp only[List.flatMap_cons,List.length_append,ih,List.length_cons,List.length_nil,encI]
  omega
theorem bufC_drop:∀{l:List (Int×Int)} {k:Nat} {p:Int×Int},l[k]?=some p→(bufC l).drop (k*2)=I8 p.1::I8 p.2::bufC (l.drop (k+1))
 |[],k,p,h=>by simp at h
 |q::l,0,p,h=>by
  simp only[List.getElem?_cons_zero,Option.some.injEq]at h
  subst h
  simp[bufC]
 |q::l,k+1,p,h=>by
  have:=bufC_drop (l:=l) (k:=k) (p:=p) (by simpa using h)
  rw[show(k+1)*2=k*2+1+1 by omega,List.drop_succ_cons (l:=l),← this]
  simp[bufC]
theorem insC_drop:∀{l:List Pl.Ins} {k:Nat} {x:Pl.Ins},l[k]?=some x→(insC l).drop (k*10)=I8 x.op::I8 x.dst::I8 x.loc::Bo x.ra::I8 x.na::Bo x.rb::I8 x.nb::I8 x.fn::I8 x.mode::I8 x.skip::insC (l.drop (k+1))
 |[],k,p,h=>by simp at h
 |q::l,0,p,h=>by
  simp only[List.getElem?_cons_zero,Option.some.injEq]at h
  subst h
  simp[insC,encI]
 |q::l,k+1,p,h=>by
  have:=insC_drop (l:=l) (k:=k) (x:=p) (by simpa using h)
  rw[show(k+1)*10=k*10+1+1+1+1+1+1+1+1+1+1 by omega,List.drop_succ_cons (l:=l),← this]
  simp[insC,encI]
theorem young_snoc(loc:Int)(p:Int×Int):∀ l:List (Int×Int),Pl.young loc (l++[p])=if p.1=loc then some p.2 else Pl.young loc l
 |[]=>by simp only[List.nil_append,Pl.young]
 |q::l=>by
  simp only[List.cons_append,Pl.young,young_snoc loc p l]
  by_cases h:p.1=loc
  ·simp only[if_pos h]
  ·simp only[if_neg h]
abbrev youngR(v:Option Int):A:=.tup [I8 (v.getD 0),Bo v.isSome]
set_option maxHeartbeats 4000000 in
theorem young_loop(loc:Int)(bs:List (Int×Int))(hl:(bs.length:Int)≤1152921504606846976)(c:M)(h1:RunK Cx [.code c] ⟨[(11,Bo false),(10,I64 (-1)),(0,bufA bs),(1,I8 loc),(6,I64 (-1))],[]⟩ (FinQ Cx.T .shut [.tmp 4,.tmp 5] (youngR none))) :
  ∀(k:Nat) (i:Int),k≤bs.length→i=(k:Int)-1→RunK Cx [.code (.loop m166_l0),.blk 0,.code c] ⟨[(0,bufA bs),(1,I8 loc),(6,I64 i)],[]⟩ (FinQ Cx.T .shut [.tmp 4,.tmp 5] (youngR (Pl.young loc (bs.take k)))):=by
 intro k
 induction k with
 |zero =>
  intro i _ hi
  obtain rfl:i=-1:=by simpa using hi
  rw[runK_loop]
  simp(disch:=omega)only[go_sem,simprocAttr]
  simpa[Pl.young]using h1
 |succ k ih =>
  intro i hk hi
  obtain⟨p,hp⟩:∃ p,bs[k]?=some p:=⟨_,List.getElem?_eq_getElem (by omega)⟩
  have hd:=bufC_drop hp
  rw[show k=i.toNat by omega]at hd
  have htake:bs.take (k+1)=bs.take k++[p]:=by rw[List.take_add_one,hp];rfl
  rw[htake,young_snoc]
  rw[runK_loop]
  by_cases hloc:p.1=loc
  ·rw[if_pos hloc]
   simp(disch:=omega)only[hd,hloc,youngR,Option.getD_some,Option.isSome_some,go_sem,simprocAttr]
  ·rw[if_neg hloc]
   simp(disch:=omega)only[hd,go_sem,simprocAttr]
   rw[loop_norm (l:=[0,1,6]) rfl]
   simp(disch:=omega)only[go_sem,simprocAttr]
   exact ih (i-1) (by omega) (by omega)
set_option maxHeartbeats 4000000 in
theorem young_ev(loc:Int)(bs:List (Int×Int))(hl:(bs.length:Int)≤1152921504606846976):EvQ Cx 166 [bufA bs,I8 loc] (youngR (Pl.young loc bs)):=by
 refine evQ_of CxB166 rfl (by simp[fn166]) ?_
 simp(disch:=omega)only[go_sem,simprocAttr]
 rw[loop_norm (l:=[0,1,6]) rfl]
 simp(disch:=omega)only[go_sem,simprocAttr]
 have key:=fun c h1=>young_loop loc bs hl c h1 bs.length (bs.length-1) (Nat.le_refl _) rfl
 simp only[List.take_length]at key
 refine key _ ?_
 simp(disch:=omega)only[youngR,Option.getD_none,Option.isSome_none,go_sem,simprocAttr]
abbrev encR(nt vw rp b:Int)(ev:Bool):A:=.agg [I8 nt,I8 vw,I8 rp,I64 b,Bo ev]
abbrev encCore(c:Pl.Core):A:=encC c.pc c.g (bufA c.buf) c.waits c.drain
section
variable{bb:Bool}{dst:Option Nat}{j:Nat}{ms:List MOp}{st:Ev.St}{k:List It}{Q:Ex→Ev.St→Prop}
theorem free_use{s:Int}{b:Bool}{pc:Int}{r0 r1 r2 r3 r4 r5 r6 r7:Int}{bf:A}{w d:Bool}{x0:Option Blk}{tl:Heap}{e:Env}:PassK Cx 165 [I8 s,Bo b,.ptr 1 0] dst ms ⟨e,x0::some ⟨99,[I8 pc,I8 r0,I8 r1,I8 r2,I8 r3,I8 r4,I8 r5,I8 r6,I8 r7,bf,Bo w,Bo d],true⟩::tl⟩ k Q↔OpsK Cx 0 ms ⟨put e dst (I8 (if b&&!w then s else 4)),x0::some ⟨99,[I8 pc,I8 r0,I8 r1,I8 r2,I8 r3,I8 r4,I8 r5,I8 r6,I8 r7,bf,Bo w,Bo d],true⟩::tl⟩ k Q:=by
 rw[passK_in CxB165 CxP165]
 cases b<;>cases w<;>simp(disch:=omega)only[Bool.and_self,go_sem,simprocAttr]
theorem young_use{loc:Int}{bs:List (Int×Int)}(hl:(bs.length:Int)≤1152921504606846976):QK Cx 166 [.sl bs.length (bufC bs),I8 loc] bb dst j ms st k Q↔((bb||flat (youngR (Pl.young loc bs)))=true∧OpsK Cx j ms ⟨put st.env dst (youngR (Pl.young loc bs)),st.H⟩ k Q):=QK.use (young_ev loc bs hl)
end
set_option maxHeartbeats 8000000 in
theorem next_ev(l:List Pl.Ins)(hl:(l.length:Int)≤1152921504606846976)(nt vw rp b:Int)(ev:Bool)(pc:Int)(g:Nat→Int)(bs:List (Int×Int))(w d:Bool)(p1:0≤pc)(p2:pc≤255)(hb:(bs.length:Int)≤1152921504606846976) :
  EvQ Cx 105 [insA l,encR nt vw rp b ev,encC pc g (bufA bs) w d] (I8 (Pl.next l b ⟨pc,g,bs,w,d⟩)):=by
 refine evQ_of CxB105 rfl (by simp[fn105]) ?_
 have hE:bs.isEmpty=((bs.length:Int)==0):=by
  cases bs with
  |nil=>rfl
  |cons p l =>
   simp only[List.isEmpty_cons,List.length_cons]
   rw[beq_no (by omega)]
 by_cases hpc:pc<l.length
 case neg =>
  have hn:l[pc.toNat]?=none:=List.getElem?_eq_none (by omega)
  simp(disch:=omega)only[hn,hE,free_use,Pl.next,Pl.free,go_sem,simprocAttr]
 obtain⟨x,hx⟩:∃ x,l[pc.toNat]?=some x:=⟨_,List.getElem?_eq_getElem (by omega)⟩
 have hd:=insC_drop hx
 by_cases h3:x.op=3
 case pos=>simp(disch:=omega)only[hx,hd,h3,true_or,free_use,Pl.next,Pl.free,go_sem,simprocAttr]
 by_cases h8:x.op=8
 case pos=>simp(disch:=omega)only[hx,hd,h8,or_true,free_use,Pl.next,Pl.free,go_sem,simprocAttr]
 by_cases h7:x.op=7
 case pos =>
  by_cases he:(bs.length:Int)=0
  ·simp(disch:=omega)only[hx,hd,h7,hE,he,or_self,free_use,Pl.next,Pl.free,go_sem,simprocAttr]
  ·simp(disch:=omega)only[hx,hd,h7,hE,or_self,free_use,Pl.next,Pl.free,go_sem,simprocAttr]
 by_cases h2:x.op=2
 case pos =>
  by_cases hbb:b > 0
  ·simp(disch:=omega)only[hx,hd,h2,or_self,free_use,Pl.next,Pl.free,go_sem,simprocAttr]
  ·simp(disch:=omega)only[hx,hd,h2,or_self,free_use,Pl.next,Pl.free,go_sem,simprocAttr]
 by_cases h1:x.op=1
 case pos =>
  cases hy:Pl.young x.loc bs with
  |none=>simp(disch:=omega)only[hx,hd,hy,h1,or_self,free_use,young_use,youngR,Option.isSome_none,Option.getD_none,Pl.next,Pl.free,go_sem,simprocAttr]
  |some v=>simp(disch:=omega)only[hx,hd,hy,h1,or_self,free_use,young_use,youngR,Option.isSome_some,Option.getD_some,Pl.next,Pl.free,go_sem,simprocAttr]
 by_cases he:(bs.length:Int)=0
 ·by_cases h4:x.op=4
  case pos=>simp(disch:=omega)only[hx,hd,h4,hE,he,or_self,true_or,free_use,Pl.next,Pl.free,go_sem,simprocAttr]
  by_cases h5:x.op=5
  case pos=>simp(disch:=omega)only[hx,hd,h5,hE,he,or_self,true_or,or_true,free_use,Pl.next,Pl.free,go_sem,simprocAttr]
  by_cases h6:x.op=6
  case pos=>simp(disch:=omega)only[hx,hd,h6,hE,he,or_self,or_true,free_use,Pl.next,Pl.free,go_sem,simprocAttr]
  simp(disch:=omega)only[hx,hd,h1,h2,h3,h4,h5,h6,h7,h8,he,or_self,Pl.next,go_sem,simprocAttr]
 ·by_cases h4:x.op=4
  case pos=>simp(disch:=omega)only[hx,hd,h4,hE,or_self,true_or,free_use,Pl.next,Pl.free,go_sem,simprocAttr]
  by_cases h5:x.op=5
  case pos=>simp(disch:=omega)only[hx,hd,h5,hE,or_self,true_or,or_true,free_use,Pl.next,Pl.free,go_sem,simprocAttr]
  by_cases h6:x.op=6
  case pos=>simp(disch:=omega)only[hx,hd,h6,hE,or_self,or_true,free_use,Pl.next,Pl.free,go_sem,simprocAttr]
  simp(disch:=omega)only[hx,hd,h1,h2,h3,h4,h5,h6,h7,h8,or_self,Pl.next,go_sem,simprocAttr]
end Go.Proofs.YtpdphobnchajbaaGreatDoor.Ev
