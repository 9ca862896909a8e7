/- A law's arguments, opened: worlds, states, steps. -/
import Derived.Test.YtpdphobnchajbaaGreatDoorP05
import Derived.Test.YtpdphobnchajbaaGreatDoorP30
import Derived.Test.YtpdphobnchajbaaGreatDoorP31
set_option linter.unusedSimpArgs false
set_option linter.unusedVariables false
namespace Go.Proofs.YtpdphobnchajbaaGreatDoor
open Go Go.RowKit Go.Proofs.YtpdphobnchajbaaGreatDoor.Ev
open Go.ChangeShapes Go.WideShapes Go.ChangeAt
set_option maxRecDepth 100000
set_option maxHeartbeats 4000000
theorem fitsA_split:∀{a b:List Sh} {l:List A},FitsA (a++b) l→∃ x y,l=x++y∧FitsA a x∧FitsA b y
 |[],_,l,h=>⟨[],l,rfl,by rw[FitsA],h⟩
 |s::a,b,l,h=>by
  obtain⟨v,l',rfl,h1,h2⟩:=fitsA_cons h
  obtain⟨x,y,rfl,h3,h4⟩:=fitsA_split h2
  exact⟨v::x,y,rfl,by rw[FitsA];exact⟨v,x,rfl,h1,h3⟩,h4⟩
theorem fitsA_rep{a:List Sh}:∀(k:Nat) {l:List A},FitsA (List.replicate k a).flatten l→∃ ls:List (List A),ls.length=k∧l=ls.flatten∧∀ c∈ls,FitsA a c
 |0,l,h=>⟨[],rfl,by simpa using fitsA_nil (by simpa using h),by simp⟩
 |k+1,l,h=>by
  rw[List.replicate_succ,List.flatten_cons]at h
  obtain⟨x,y,rfl,h1,h2⟩:=fitsA_split h
  obtain⟨ls,h3,rfl,h4⟩:=fitsA_rep k h2
  exact⟨x::ls,by simp[h3],rfl,fun c hc=>(List.mem_cons.1 hc).elim (fun e=>e▸h1) (h4 c)⟩
theorem sh_i8{a:A}(h:shFits (.sc (.int .i8)) a):∃ x:Int,a=.v (.int .i8 x)∧-128≤x∧x<128:=by
 obtain⟨x,h1,h2⟩:=sh_int h
 refine⟨x,h1,?_⟩
 simp[Lit.wf,IntKind.min,IntKind.max,IntKind.signed,IntKind.bits]at h2
 omega
theorem sh_u64{a:A}(h:shFits (.sc (.int .u64)) a):∃ x:Nat,a=.v (.int .u64 x)∧x<18446744073709551616:=by
 obtain⟨x,h1,h2⟩:=sh_int h
 simp[Lit.wf,IntKind.min,IntKind.max,IntKind.signed,IntKind.bits]at h2
 refine⟨x.toNat,?_,by omega⟩
 rw[h1,show((x.toNat:Nat):Int)=x by omega]
theorem sh_u16{a:A}(h:shFits (.sc (.int .u16)) a):∃ x:Nat,a=.v (.int .u16 x)∧x<65536:=by
 obtain⟨x,h1,h2⟩:=sh_int h
 simp[Lit.wf,IntKind.min,IntKind.max,IntKind.signed,IntKind.bits]at h2
 refine⟨x.toNat,?_,by omega⟩
 rw[h1,show((x.toNat:Nat):Int)=x by omega]
theorem sh_u8'{a:A}(h:shFits (.sc (.int .u8)) a):∃ x:Int,a=.v (.int .u8 x)∧0≤x∧x<256:=by
 obtain⟨x,h1,h2⟩:=sh_u8 h
 exact⟨x,h1,by omega,by omega⟩
theorem ins_of{c:List A}(h:FitsA [.sc (.int .u8),.sc (.int .u8),.sc (.int .u8),.sc .bool,.sc (.int .u8),.sc .bool,.sc (.int .u8),.sc (.int .u8),.sc (.int .u8),.sc (.int .u8)] c):∃ x:Pl.Ins,x.Ok∧c=encI x:=by
 obtain⟨_,_,rfl,a0,h0⟩:=fitsA_cons h
 obtain⟨x0,rfl,b0⟩:=sh_u8 a0
 obtain⟨_,_,rfl,a1,h1⟩:=fitsA_cons h0
 obtain⟨x1,rfl,b1⟩:=sh_u8 a1
 obtain⟨_,_,rfl,a2,h2⟩:=fitsA_cons h1
 obtain⟨x2,rfl,b2⟩:=sh_u8 a2
 obtain⟨_,_,rfl,a3,h3⟩:=fitsA_cons h2
 obtain⟨x3,rfl⟩:=sh_bool a3
 obtain⟨_,_,rfl,a4,h4⟩:=fitsA_cons h3
 obtain⟨x4,rfl,b4⟩:=sh_u8 a4
 obtain⟨_,_,rfl,a5,h5⟩:=fitsA_cons h4
 obtain⟨x5,rfl⟩:=sh_bool a5
 obtain⟨_,_,rfl,a6,h6⟩:=fitsA_cons h5
 obtain⟨x6,rfl,b6⟩:=sh_u8 a6
 obtain⟨_,_,rfl,a7,h7⟩:=fitsA_cons h6
 obtain⟨x7,rfl,b7⟩:=sh_u8 a7
 obtain⟨_,_,rfl,a8,h8⟩:=fitsA_cons h7
 obtain⟨x8,rfl,b8⟩:=sh_u8 a8
 obtain⟨_,_,rfl,a9,h9⟩:=fitsA_cons h8
 obtain⟨x9,rfl,b9⟩:=sh_u8 a9
 obtain rfl:=fitsA_nil h9
 exact⟨⟨x0,x1,x2,x3,x4,x5,x6,x7,x8,x9⟩,⟨b0,b1,b2,b4,b6,b7,b8,b9⟩,rfl⟩
theorem ln_of{c:List A}(h:FitsA [.sc (.int .u8),.sc (.int .u8),.sc (.int .i8),.sc .bool,.sc (.int .u8),.sc (.int .u8),.sc (.int .u8),.sc (.int .u8)] c):∃ x:Ln,x.Ok∧c=cL x:=by
 obtain⟨_,_,rfl,a0,h0⟩:=fitsA_cons h
 obtain⟨x0,rfl,b0⟩:=sh_u8' a0
 obtain⟨_,_,rfl,a1,h1⟩:=fitsA_cons h0
 obtain⟨x1,rfl,b1⟩:=sh_u8' a1
 obtain⟨_,_,rfl,a2,h2⟩:=fitsA_cons h1
 obtain⟨x2,rfl,b2⟩:=sh_i8 a2
 obtain⟨_,_,rfl,a3,h3⟩:=fitsA_cons h2
 obtain⟨x3,rfl⟩:=sh_bool a3
 obtain⟨_,_,rfl,a4,h4⟩:=fitsA_cons h3
 obtain⟨x4,rfl,b4⟩:=sh_u8' a4
 obtain⟨_,_,rfl,a5,h5⟩:=fitsA_cons h4
 obtain⟨x5,rfl,b5⟩:=sh_u8' a5
 obtain⟨_,_,rfl,a6,h6⟩:=fitsA_cons h5
 obtain⟨x6,rfl,b6⟩:=sh_u8' a6
 obtain⟨_,_,rfl,a7,h7⟩:=fitsA_cons h6
 obtain⟨x7,rfl,b7⟩:=sh_u8' a7
 obtain rfl:=fitsA_nil h7
 exact⟨⟨x0,x1,x2,x3,⟨x4,x5,x6,x7⟩⟩,⟨b0,b1,b2,⟨b4,b5,b6,b7⟩⟩,rfl⟩
theorem rp_of{c:List A}(h:FitsA [.sc (.int .u8),.sc (.int .i64),.sc (.int .u8),.sc (.int .u8),.sc (.int .u8),.sc (.int .u8),.sc (.int .u8)] c):∃ x:Rp,x.Ok∧c=cR x:=by
 obtain⟨_,_,rfl,a0,h0⟩:=fitsA_cons h
 obtain⟨x0,rfl,b0⟩:=sh_u8' a0
 obtain⟨_,_,rfl,a1,h1⟩:=fitsA_cons h0
 obtain⟨x1,rfl,b1⟩:=sh_i64 a1
 obtain⟨_,_,rfl,a2,h2⟩:=fitsA_cons h1
 obtain⟨x2,rfl,b2⟩:=sh_u8' a2
 obtain⟨_,_,rfl,a3,h3⟩:=fitsA_cons h2
 obtain⟨x3,rfl,b3⟩:=sh_u8' a3
 obtain⟨_,_,rfl,a4,h4⟩:=fitsA_cons h3
 obtain⟨x4,rfl,b4⟩:=sh_u8' a4
 obtain⟨_,_,rfl,a5,h5⟩:=fitsA_cons h4
 obtain⟨x5,rfl,b5⟩:=sh_u8' a5
 obtain⟨_,_,rfl,a6,h6⟩:=fitsA_cons h5
 obtain⟨x6,rfl,b6⟩:=sh_u8' a6
 obtain rfl:=fitsA_nil h6
 exact⟨⟨x0,x1,x2,x3,x4,x5,x6⟩,⟨b0,b2,b3,b4,b5,b6,b1⟩,rfl⟩
theorem rq_of{c:List A}(h:FitsA [.sc (.int .u8),.sc (.int .u8),.sc (.int .u8),.sc (.int .u8)] c):∃ x:Rq,x.Ok∧c=cO x:=by
 obtain⟨_,_,rfl,a0,h0⟩:=fitsA_cons h
 obtain⟨x0,rfl,b0⟩:=sh_u8' a0
 obtain⟨_,_,rfl,a1,h1⟩:=fitsA_cons h0
 obtain⟨x1,rfl,b1⟩:=sh_u8' a1
 obtain⟨_,_,rfl,a2,h2⟩:=fitsA_cons h1
 obtain⟨x2,rfl,b2⟩:=sh_u8' a2
 obtain⟨_,_,rfl,a3,h3⟩:=fitsA_cons h2
 obtain⟨x3,rfl,b3⟩:=sh_u8' a3
 obtain rfl:=fitsA_nil h3
 exact⟨⟨x0,x1,x2,x3⟩,⟨b0,b1,b2,b3⟩,rfl⟩
theorem mg_of{c:List A}(h:FitsA [.sc (.int .u8),.sc (.int .u8),.sc (.int .u8),.sc (.int .u8),.sc (.int .u8),.sc (.int .u8),.sc .bool,.sc (.int .u8),.sc (.int .u8),.sc (.int .u8),.sc (.int .u8)] c):∃ x:Mg,x.Ok∧c=cM x:=by
 obtain⟨_,_,rfl,a0,h0⟩:=fitsA_cons h
 obtain⟨x0,rfl,b0⟩:=sh_u8' a0
 obtain⟨_,_,rfl,a1,h1⟩:=fitsA_cons h0
 obtain⟨x1,rfl,b1⟩:=sh_u8' a1
 obtain⟨_,_,rfl,a2,h2⟩:=fitsA_cons h1
 obtain⟨x2,rfl,b2⟩:=sh_u8' a2
 obtain⟨_,_,rfl,a3,h3⟩:=fitsA_cons h2
 obtain⟨x3,rfl,b3⟩:=sh_u8' a3
 obtain⟨_,_,rfl,a4,h4⟩:=fitsA_cons h3
 obtain⟨x4,rfl,b4⟩:=sh_u8' a4
 obtain⟨_,_,rfl,a5,h5⟩:=fitsA_cons h4
 obtain⟨x5,rfl,b5⟩:=sh_u8' a5
 obtain⟨_,_,rfl,a6,h6⟩:=fitsA_cons h5
 obtain⟨x6,rfl⟩:=sh_bool a6
 obtain⟨_,_,rfl,a7,h7⟩:=fitsA_cons h6
 obtain⟨x7,rfl,b7⟩:=sh_u8' a7
 obtain⟨_,_,rfl,a8,h8⟩:=fitsA_cons h7
 obtain⟨x8,rfl,b8⟩:=sh_u8' a8
 obtain⟨_,_,rfl,a9,h9⟩:=fitsA_cons h8
 obtain⟨x9,rfl,b9⟩:=sh_u8' a9
 obtain⟨_,_,rfl,a10,h10⟩:=fitsA_cons h9
 obtain⟨x10,rfl,b10⟩:=sh_u8' a10
 obtain rfl:=fitsA_nil h10
 exact⟨⟨x0,x1,x2,x3,x4,x5,x6,⟨x7,x8,x9,x10⟩⟩,⟨b0,b1,b2,b3,b4,b5,⟨b7,b8,b9,b10⟩⟩,rfl⟩
theorem dr_of{c:List A}(h:FitsA [.sc (.int .u8),.sc (.int .u8),.sc (.int .u8),.sc (.int .u64),.sc .bool,.sc (.int .u8),.sc (.int .u8),.sc (.int .u8),.sc (.int .u8),.sc (.int .u8),.sc (.int .u8)] c):∃ x:Dr,x.Ok∧c=cD x:=by
 obtain⟨_,_,rfl,a0,h0⟩:=fitsA_cons h
 obtain⟨x0,rfl,b0⟩:=sh_u8' a0
 obtain⟨_,_,rfl,a1,h1⟩:=fitsA_cons h0
 obtain⟨x1,rfl,b1⟩:=sh_u8' a1
 obtain⟨_,_,rfl,a2,h2⟩:=fitsA_cons h1
 obtain⟨x2,rfl,b2⟩:=sh_u8' a2
 obtain⟨_,_,rfl,a3,h3⟩:=fitsA_cons h2
 obtain⟨x3,rfl,b3⟩:=sh_u64 a3
 obtain⟨_,_,rfl,a4,h4⟩:=fitsA_cons h3
 obtain⟨x4,rfl⟩:=sh_bool a4
 obtain⟨_,_,rfl,a5,h5⟩:=fitsA_cons h4
 obtain⟨x5,rfl,b5⟩:=sh_u8' a5
 obtain⟨_,_,rfl,a6,h6⟩:=fitsA_cons h5
 obtain⟨x6,rfl,b6⟩:=sh_u8' a6
 obtain⟨_,_,rfl,a7,h7⟩:=fitsA_cons h6
 obtain⟨x7,rfl,b7⟩:=sh_u8' a7
 obtain⟨_,_,rfl,a8,h8⟩:=fitsA_cons h7
 obtain⟨x8,rfl,b8⟩:=sh_u8' a8
 obtain⟨_,_,rfl,a9,h9⟩:=fitsA_cons h8
 obtain⟨x9,rfl,b9⟩:=sh_u8' a9
 obtain⟨_,_,rfl,a10,h10⟩:=fitsA_cons h9
 obtain⟨x10,rfl,b10⟩:=sh_u8' a10
 obtain rfl:=fitsA_nil h10
 exact⟨⟨x0,x1,x2,x3,x4,x5,x6,⟨x7,x8,x9,x10⟩⟩,⟨b0,b1,b2,b3,b5,b6,⟨b7,b8,b9,b10⟩⟩,rfl⟩
theorem ce_of{c:List A}(h:FitsA [.sc (.int .u8),.sc (.int .u8),.sc (.int .u16)] c):∃ x:Ce,x.Ok∧c=cE x:=by
 obtain⟨_,_,rfl,a0,h0⟩:=fitsA_cons h
 obtain⟨x0,rfl,b0⟩:=sh_u8' a0
 obtain⟨_,_,rfl,a1,h1⟩:=fitsA_cons h0
 obtain⟨x1,rfl,b1⟩:=sh_u8' a1
 obtain⟨_,_,rfl,a2,h2⟩:=fitsA_cons h1
 obtain⟨x2,rfl,b2⟩:=sh_u16 a2
 obtain rfl:=fitsA_nil h2
 exact⟨⟨x0,x1,x2⟩,⟨b0,b1,b2⟩,rfl⟩
theorem st_of{c:List A}(h:FitsA [.sc (.int .u8),.sc (.int .u8),.sc (.int .u8),.sc (.int .u8),.sc (.int .u8),.sc (.int .u8),.sc (.int .u8),.sc (.int .u8),.sc (.int .u8),.sc .bool,.sc (.int .u8),.sc (.int .u8),.sc (.int .u8),.sc (.int .u8)] c):∃ x:Sp,x.Ok∧c=cS x:=by
 obtain⟨_,_,rfl,a0,h0⟩:=fitsA_cons h
 obtain⟨x0,rfl,b0⟩:=sh_u8' a0
 obtain⟨_,_,rfl,a1,h1⟩:=fitsA_cons h0
 obtain⟨x1,rfl,b1⟩:=sh_u8' a1
 obtain⟨_,_,rfl,a2,h2⟩:=fitsA_cons h1
 obtain⟨x2,rfl,b2⟩:=sh_u8' a2
 obtain⟨_,_,rfl,a3,h3⟩:=fitsA_cons h2
 obtain⟨x3,rfl,b3⟩:=sh_u8' a3
 obtain⟨_,_,rfl,a4,h4⟩:=fitsA_cons h3
 obtain⟨x4,rfl,b4⟩:=sh_u8' a4
 obtain⟨_,_,rfl,a5,h5⟩:=fitsA_cons h4
 obtain⟨x5,rfl,b5⟩:=sh_u8' a5
 obtain⟨_,_,rfl,a6,h6⟩:=fitsA_cons h5
 obtain⟨x6,rfl,b6⟩:=sh_u8' a6
 obtain⟨_,_,rfl,a7,h7⟩:=fitsA_cons h6
 obtain⟨x7,rfl,b7⟩:=sh_u8' a7
 obtain⟨_,_,rfl,a8,h8⟩:=fitsA_cons h7
 obtain⟨x8,rfl,b8⟩:=sh_u8' a8
 obtain⟨_,_,rfl,a9,h9⟩:=fitsA_cons h8
 obtain⟨x9,rfl⟩:=sh_bool a9
 obtain⟨_,_,rfl,a10,h10⟩:=fitsA_cons h9
 obtain⟨x10,rfl,b10⟩:=sh_u8' a10
 obtain⟨_,_,rfl,a11,h11⟩:=fitsA_cons h10
 obtain⟨x11,rfl,b11⟩:=sh_u8' a11
 obtain⟨_,_,rfl,a12,h12⟩:=fitsA_cons h11
 obtain⟨x12,rfl,b12⟩:=sh_u8' a12
 obtain⟨_,_,rfl,a13,h13⟩:=fitsA_cons h12
 obtain⟨x13,rfl,b13⟩:=sh_u8' a13
 obtain rfl:=fitsA_nil h13
 exact⟨⟨x0,x1,x2,⟨x3,x4,x5,x6,x7,x8,x9,⟨x10,x11,x12,x13⟩⟩⟩,⟨b0,b1,b2,⟨b3,b4,b5,b6,b7,b8,⟨b10,b11,b12,b13⟩⟩⟩,rfl⟩
theorem cells_flat{α:Type}(c:α→List A):∀ l:List α,(l.map c).flatten=cells c l
 |[]=>rfl
 |x::l=>by rw[List.map_cons,List.flatten_cons,cells_flat c l];rfl
theorem list_of{α:Type}{p:α→Prop}{c:α→List A}{e:List Sh}(hc:∀ l,FitsA e l→∃ x,p x∧l=c x){a:A}(h:shFits (.sl e) a):∃ xs:List α,(∀ x∈xs,p x)∧xs.length≤140737488351232∧a=.sl xs.length (cells c xs):=by
 obtain⟨l,rfl,hl,h⟩:=sh_sl h
 obtain⟨xs,h1,rfl⟩:=lift_list (p:=p) (f:=c) fun d hd=>hc d (h d hd)
 rw[List.length_map]at hl ⊢
 exact⟨xs,h1,by simpa only[reachBytes]using hl,by rw[cells_flat]⟩
theorem row_of{α:Type}{p:α→Prop}{c:α→List A}{e:List Sh}(hc:∀ l,FitsA e l→∃ x,p x∧l=c x){k:Nat}{l:List A}(h:FitsA (List.replicate k e).flatten l):∃ xs:List α,(∀ x∈xs,p x)∧xs.length=k∧l=cells c xs:=by
 obtain⟨ls,h1,rfl,h2⟩:=fitsA_rep k h
 obtain⟨xs,h3,rfl⟩:=lift_list (p:=p) (f:=c) fun d hd=>hc d (h2 d hd)
 rw[List.length_map]at h1
 exact⟨xs,h3,h1,cells_flat c xs⟩
theorem cons_of{α:Type}{l:List α}{n:Nat}(h:l.length=n+1):∃ x r,l=x::r∧r.length=n:=by
 cases l with
 |nil=>cases h
 |cons x r=>exact⟨x,r,rfl,by simpa using h⟩
section
variable{H:Type}{enc:TypeId×Value→H}{w:World}{base:Nat}{spare:Nat→Bool}{held:Bool}
theorem table_sh:flatS Tryz.prog 12 42=some (.sc .str::((List.replicate 168 [.sc (.int .u8),.sc (.int .u8),.sc (.int .u16)]).flatten++(List.replicate 20 [.sc (.int .u8),.sc (.int .u8),.sc (.int .u16)]).flatten)):=by kernel_rfl
theorem table_of{l:List A}(h:FitsA (.sc .str::((List.replicate 168 [.sc (.int .u8),.sc (.int .u8),.sc (.int .u16)]).flatten++(List.replicate 20 [.sc (.int .u8),.sc (.int .u8),.sc (.int .u16)]).flatten)) l):∃ t:Tl,t.Ok∧l=cT9 t:=by
 obtain⟨_,_,rfl,a0,h0⟩:=fitsA_cons h
 obtain⟨s,rfl,-⟩:=sh_str a0
 obtain⟨x,y,rfl,h1,h2⟩:=fitsA_split h0
 obtain⟨C,c1,c2,rfl⟩:=row_of (fun _ h=>ce_of h) h1
 obtain⟨T,t1,t2,rfl⟩:=row_of (fun _ h=>ce_of h) h2
 exact⟨⟨s,C,T⟩,⟨c2,t2,c1,t1⟩,rfl⟩
theorem okCds_of:∀{l:List Cd},(∀ x∈l,okCd x)→okCds l
 |[],_=>by rw[okCds];trivial
 |x::l,h=>by
  rw[okCds]
  exact⟨h x (.head _),okCds_of fun y hy=>h y (.tail _ hy)⟩
theorem cCds_of:∀ l:List Cd,(l.map cCd).flatten=cCds l
 |[]=>by rw[cCds];rfl
 |x::l=>by rw[cCds,List.map_cons,List.flatten_cons,cCds_of l]
def isU8(l:List A):Prop:=∃ n:Int,(0≤n∧n<256)∧l=[I8 n]
theorem u8_reads{t:TypeId}(h:flatS Tryz.prog 2 t=some [.sc (.int .u8)]){fuel:Nat}{cs:List Value}{x:DataW H×List MemPlace}(hx:DataW.trod enc Tryz.prog w base spare held fuel t cs=some x)(hl:Light Tryz.prog t x.1):ReadsP w isU8 cs :=
 flat_pred 2 h (fun l h=>by
  obtain⟨_,_,rfl,a0,h0⟩:=fitsA_cons h
  obtain⟨n,rfl,hn⟩:=sh_u8' a0
  obtain rfl:=fitsA_nil h0
  exact⟨n,hn,rfl⟩) hx hl
theorem cond_reads{fuel:Nat} (ih:∀ m,m<fuel→∀(cs:List Value) (x:DataW H×List MemPlace),DataW.trod enc Tryz.prog w base spare held m 25 cs=some x→Light Tryz.prog 25 x.1 →
  ReadsP w (fun l=>∃ ks:List Cd,okCds ks∧ks.length≤140737488351232∧l=[.sl ks.length (cCds ks)]) cs) (n:Nat) (hn:n<fuel) (cs:List Value) (x:DataW H×List MemPlace) (hx:DataW.trod enc Tryz.prog w base spare held n 27 cs=some x) (hl:Light Tryz.prog 27 x.1) :
  ReadsP w (fun l=>∃ c:Cd,okCd c∧l=cCd c) cs:=by
 refine(struct_readsP (P:=Tryz.prog) (tys:=[5,5,5,5,25]) (Ps:=[isU8,isU8,isU8,isU8,fun l=>∃ ks:List Cd,okCds ks∧ks.length≤140737488351232∧l=[.sl ks.length (cCds ks)]]) (by kernel_rfl) rfl hx hl ?_).mono ?_
 ·intro m hm i ty p h1 h2 cs x hx hl
  rcases i with _|_|_|_|_|i<;>simp only[List.getElem?_cons_zero,List.getElem?_cons_succ,List.getElem?_nil,Option.some.injEq,reduceCtorEq]at h1 h2
  ·subst h1 h2
   exact u8_reads (by kernel_rfl) hx hl
  ·subst h1 h2
   exact u8_reads (by kernel_rfl) hx hl
  ·subst h1 h2
   exact u8_reads (by kernel_rfl) hx hl
  ·subst h1 h2
   exact u8_reads (by kernel_rfl) hx hl
  ·subst h1 h2
   exact ih m (by omega) cs x hx hl
 ·rintro l h
  obtain⟨_,_,rfl,⟨k,bk,rfl⟩,g1⟩:=catP_cons h
  obtain⟨_,_,rfl,⟨t,bt,rfl⟩,g2⟩:=catP_cons g1
  obtain⟨_,_,rfl,⟨n,bn,rfl⟩,g3⟩:=catP_cons g2
  obtain⟨_,_,rfl,⟨v,bv,rfl⟩,g4⟩:=catP_cons g3
  obtain⟨_,_,rfl,⟨ks,o1,o2,rfl⟩,g5⟩:=catP_cons g4
  obtain rfl:=catP_nil g5
  exact⟨.mk k t n v ks,by rw[okCd];exact⟨bk,bt,bn,bv,o2,o1⟩,by rw[cCd];rfl⟩
theorem kids_reads:∀(fuel:Nat) (cs:List Value) (x:DataW H×List MemPlace),DataW.trod enc Tryz.prog w base spare held fuel 25 cs=some x→Light Tryz.prog 25 x.1 →
  ReadsP w (fun l=>∃ ks:List Cd,okCds ks∧ks.length≤140737488351232∧l=[.sl ks.length (cCds ks)]) cs:=by
 intro fuel
 induction fuel using Nat.strongRecOn with
 |ind fuel ih =>
  intro cs x hx hl
  refine(slice_readsP (P:=Tryz.prog) (e:=27) (F:=fun l=>∃ c:Cd,okCd c∧l=cCd c) (by kernel_rfl) (by kernel_rfl) (by kernel_rfl) hx hl ?_).mono ?_
  ·intro n hn cs x hx hl
   exact cond_reads ih n hn cs x hx hl
  ·rintro _ ⟨ls,rfl,h1,h2⟩
   obtain⟨xs,h3,rfl⟩:=lift_list (p:=okCd) (f:=cCd) h2
   refine⟨xs,okCds_of h3,by simpa only[reachBytes,List.length_map]using h1,?_⟩
   rw[List.length_map,cCds_of]
theorem str_of{c:List A}(h:FitsA [.sc .str] c):∃ s:ByteArray,True∧c=[Sv s]:=by
 obtain⟨_,_,rfl,a0,h0⟩:=fitsA_cons h
 obtain⟨s,rfl,-⟩:=sh_str a0
 obtain rfl:=fitsA_nil h0
 exact⟨s,trivial,rfl⟩
theorem byte_of{c:List A}(h:FitsA [.sc (.int .u8)] c):∃ n:Int,(0≤n∧n<256)∧c=[I8 n]:=by
 obtain⟨_,_,rfl,a0,h0⟩:=fitsA_cons h
 obtain⟨n,rfl,hn⟩:=sh_u8' a0
 obtain rfl:=fitsA_nil h0
 exact⟨n,hn,rfl⟩
theorem cells_ins(l:List Pl.Ins):cells encI l=insC l:=by
 induction l with
 |nil=>rfl
 |cons x l ih=>rw[cells,ih];rfl
theorem cells_one{α:Type}(f:α→A)(l:List α):cells (fun x=>[f x]) l=l.map f:=by
 induction l with
 |nil=>rfl
 |cons x l ih=>rw[cells,ih];rfl
theorem thread_of{c:List A}(h:FitsA [.sl [.sc (.int .u8),.sc (.int .u8),.sc (.int .u8),.sc .bool,.sc (.int .u8),.sc .bool,.sc (.int .u8),.sc (.int .u8),.sc (.int .u8),.sc (.int .u8)]] c):∃ l:List Pl.Ins,(l.length≤140737488351232∧∀ x∈l,x.Ok)∧c=[insA l]:=by
 obtain⟨_,_,rfl,a0,h0⟩:=fitsA_cons h
 obtain⟨l,h1,h2,rfl⟩:=list_of (fun _ h=>ins_of h) a0
 obtain rfl:=fitsA_nil h0
 exact⟨l,⟨h2,h1⟩,by rw[cells_ins]⟩
theorem one_of{s:Sh}{F:List A→Prop}(hF:∀ a,shFits s a→F [a])(l:List A)(h:FitsA [s] l):F l:=by
 obtain⟨a,_,rfl,a0,h0⟩:=fitsA_cons h
 obtain rfl:=fitsA_nil h0
 exact hF a a0
theorem prog_reads{fuel:Nat}{cs:List Value}{x:DataW H×List MemPlace}(hx:DataW.trod enc Tryz.prog w base spare held fuel 29 cs=some x)(hl:Light Tryz.prog 29 x.1) :
  ReadsP w (fun l=>∃ p:Pg,p.Ok∧l=cPg p) cs:=by
 refine(struct_readsP (P:=Tryz.prog) (tys:=[9,22,23,24,5,27])
  (Ps:=[fun l=>∃ s,l=[Sv s],fun l=>∃ ss:List ByteArray,ss.length≤140737488351232∧l=[.sl ss.length (ss.map Sv)],fun l=>∃ ns:List Int,(∀ n∈ns,0≤n∧n<256)∧ns.length≤140737488351232∧l=[.sl ns.length (ns.map fun n=>I8 n)],fun l=>∃ ts:List (List Pl.Ins),(∀ t∈ts,t.length≤140737488351232∧∀ x∈t,x.Ok)∧ts.length≤140737488351232∧l=[.sl ts.length (ts.map fun t=>insA t)],isU8,fun l=>∃ c:Cd,okCd c∧l=cCd c])
  (by kernel_rfl) rfl hx hl ?_).mono ?_
 ·intro m hm i ty p h1 h2 cs x hx hl
  rcases i with _|_|_|_|_|_|i<;>simp only[List.getElem?_cons_zero,List.getElem?_cons_succ,List.getElem?_nil,Option.some.injEq,reduceCtorEq]at h1 h2
  ·subst h1 h2
   exact flat_pred 2 (ks:=[.sc .str]) (by kernel_rfl) (one_of fun a h=>by obtain⟨s,rfl,-⟩:=sh_str h;exact⟨s,rfl⟩) hx hl
  ·subst h1 h2
   exact flat_pred 3 (ks:=[.sl [.sc .str]]) (by kernel_rfl) (one_of fun a h=>by obtain⟨ss,-,h2,rfl⟩:=list_of (fun _ h=>str_of h) h;exact⟨ss,h2,by rw[cells_one]⟩) hx hl
  ·subst h1 h2
   exact flat_pred 3 (ks:=[.sl [.sc (.int .u8)]]) (by kernel_rfl) (one_of fun a h=>by obtain⟨ss,h1,h2,rfl⟩:=list_of (fun _ h=>byte_of h) h;exact⟨ss,h1,h2,by rw[cells_one]⟩) hx hl
  ·subst h1 h2
   exact flat_pred 12 (ks:=[.sl [.sl [.sc (.int .u8),.sc (.int .u8),.sc (.int .u8),.sc .bool,.sc (.int .u8),.sc .bool,.sc (.int .u8),.sc (.int .u8),.sc (.int .u8),.sc (.int .u8)]]]) (by kernel_rfl) (one_of fun a h=>by obtain⟨ss,h1,h2,rfl⟩:=list_of (fun _ h=>thread_of h) h;exact⟨ss,h1,h2,by rw[cells_one]⟩) hx hl
  ·subst h1 h2
   exact u8_reads (by kernel_rfl) hx hl
  ·subst h1 h2
   exact cond_reads (fuel:=m+1) (fun k _ cs x hx hl=>kids_reads k cs x hx hl) m (by omega) cs x hx hl
 ·rintro l h
  obtain⟨_,_,rfl,⟨s,rfl⟩,g1⟩:=catP_cons h
  obtain⟨_,_,rfl,⟨ss,o1,rfl⟩,g2⟩:=catP_cons g1
  obtain⟨_,_,rfl,⟨ns,o2,o3,rfl⟩,g3⟩:=catP_cons g2
  obtain⟨_,_,rfl,⟨ts,o4,o5,rfl⟩,g4⟩:=catP_cons g3
  obtain⟨_,_,rfl,⟨q,o6,rfl⟩,g5⟩:=catP_cons g4
  obtain⟨_,_,rfl,⟨c,o7,rfl⟩,g6⟩:=catP_cons g5
  obtain rfl:=catP_nil g6
  exact⟨⟨s,ss,ns,ts,q,c⟩,⟨o1,o3,o2,o5,o4,o6,o7⟩,by simp[cPg,Pg.low]⟩
theorem world_reads{fuel:Nat}{cs:List Value}{x:DataW H×List MemPlace}(hx:DataW.trod enc Tryz.prog w base spare held fuel 44 cs=some x)(hl:Light Tryz.prog 44 x.1) :
  ReadsP w (fun l=>∃ W:Wo,W.Ok∧l=cW W) cs:=by
 refine(struct_readsP (P:=Tryz.prog) (tys:=[29,31,33,42])
  (Ps:=[fun l=>∃ p:Pg,p.Ok∧l=cPg p,fun l=>∃ c h o s y:Int,l=[I64 c,I64 h,I64 o,I64 s,I64 y],fun l=>∃(n v r b:Int) (e:Bool),((0≤n∧n<256)∧(0≤v∧v<256)∧(0≤r∧r<256))∧l=[I8 n,I8 v,I8 r,I64 b,Bo e],fun l=>∃ t:Tl,t.Ok∧l=cT9 t])
  (by kernel_rfl) rfl hx hl ?_).mono ?_
 ·intro m hm i ty p h1 h2 cs x hx hl
  rcases i with _|_|_|_|i<;>simp only[List.getElem?_cons_zero,List.getElem?_cons_succ,List.getElem?_nil,Option.some.injEq,reduceCtorEq]at h1 h2
  ·subst h1 h2
   exact prog_reads hx hl
  ·subst h1 h2
   refine flat_pred 12 (ks:=[.sc (.int .i64),.sc (.int .i64),.sc (.int .i64),.sc (.int .i64),.sc (.int .i64)]) (by kernel_rfl) (fun l f=>?_) hx hl
   obtain⟨_,_,rfl,a0,h0⟩:=fitsA_cons f
   obtain⟨x0,rfl,-⟩:=sh_i64 a0
   obtain⟨_,_,rfl,a1,h1⟩:=fitsA_cons h0
   obtain⟨x1,rfl,-⟩:=sh_i64 a1
   obtain⟨_,_,rfl,a2,h2⟩:=fitsA_cons h1
   obtain⟨x2,rfl,-⟩:=sh_i64 a2
   obtain⟨_,_,rfl,a3,h3⟩:=fitsA_cons h2
   obtain⟨x3,rfl,-⟩:=sh_i64 a3
   obtain⟨_,_,rfl,a4,h4⟩:=fitsA_cons h3
   obtain⟨x4,rfl,-⟩:=sh_i64 a4
   obtain rfl:=fitsA_nil h4
   exact⟨x0,x1,x2,x3,x4,rfl⟩
  ·subst h1 h2
   refine flat_pred 12 (ks:=[.sc (.int .u8),.sc (.int .u8),.sc (.int .u8),.sc (.int .i64),.sc .bool]) (by kernel_rfl) (fun l f=>?_) hx hl
   obtain⟨_,_,rfl,a0,h0⟩:=fitsA_cons f
   obtain⟨x0,rfl,b0⟩:=sh_u8' a0
   obtain⟨_,_,rfl,a1,h1⟩:=fitsA_cons h0
   obtain⟨x1,rfl,b1⟩:=sh_u8' a1
   obtain⟨_,_,rfl,a2,h2⟩:=fitsA_cons h1
   obtain⟨x2,rfl,b2⟩:=sh_u8' a2
   obtain⟨_,_,rfl,a3,h3⟩:=fitsA_cons h2
   obtain⟨x3,rfl,-⟩:=sh_i64 a3
   obtain⟨_,_,rfl,a4,h4⟩:=fitsA_cons h3
   obtain⟨x4,rfl⟩:=sh_bool a4
   obtain rfl:=fitsA_nil h4
   exact⟨x0,x1,x2,x3,x4,⟨b0,b1,b2⟩,rfl⟩
  ·subst h1 h2
   exact flat_pred 12 table_sh (fun l f=>table_of f) hx hl
 ·rintro l h
  obtain⟨_,_,rfl,⟨p,o1,rfl⟩,g1⟩:=catP_cons h
  obtain⟨_,_,rfl,⟨c,hh,oo,s,y,rfl⟩,g2⟩:=catP_cons g1
  obtain⟨_,_,rfl,⟨n,v,r,b,e,o2,rfl⟩,g3⟩:=catP_cons g2
  obtain⟨_,_,rfl,⟨t,o3,rfl⟩,g4⟩:=catP_cons g3
  obtain rfl:=catP_nil g4
  exact⟨⟨p,c,hh,oo,s,y,n,v,r,b,e,t⟩,⟨o1,o3,o2.1,o2.2.1,o2.2.2⟩,by simp[cW,Wo.gr]⟩
theorem cache_of{l:List A}(h:FitsA ((List.replicate 16 [.sc (.int .u8),.sc (.int .u8),.sc (.int .i8),.sc .bool,.sc (.int .u8),.sc (.int .u8),.sc (.int .u8),.sc (.int .u8)]).flatten++((List.replicate 4 [.sc (.int .u8),.sc (.int .i64),.sc (.int .u8),.sc (.int .u8),.sc (.int .u8),.sc (.int .u8),.sc (.int .u8)]).flatten++[.sc (.int .u8),.sc (.int .u8),.sc (.int .u8),.sc (.int .u8)])) l):∃ k:Ca,k.Ok∧l=cC k:=by
 obtain⟨x,y,rfl,h1,h2⟩:=fitsA_split h
 obtain⟨L,l1,l2,rfl⟩:=row_of (fun _ h=>ln_of h) h1
 obtain⟨x,z,rfl,h3,h4⟩:=fitsA_split h2
 obtain⟨N,n1,n2,rfl⟩:=row_of (fun _ h=>rp_of h) h3
 obtain⟨o,o1,rfl⟩:=rq_of h4
 clear h h1 h2 h3 h4
 obtain⟨L0,R0,rfl,p0⟩:=cons_of l2
 obtain⟨L1,R1,rfl,p1⟩:=cons_of p0
 obtain⟨L2,R2,rfl,p2⟩:=cons_of p1
 obtain⟨L3,R3,rfl,p3⟩:=cons_of p2
 obtain⟨L4,R4,rfl,p4⟩:=cons_of p3
 obtain⟨L5,R5,rfl,p5⟩:=cons_of p4
 obtain⟨L6,R6,rfl,p6⟩:=cons_of p5
 obtain⟨L7,R7,rfl,p7⟩:=cons_of p6
 obtain⟨L8,R8,rfl,p8⟩:=cons_of p7
 obtain⟨L9,R9,rfl,p9⟩:=cons_of p8
 obtain⟨L10,R10,rfl,p10⟩:=cons_of p9
 obtain⟨L11,R11,rfl,p11⟩:=cons_of p10
 obtain⟨L12,R12,rfl,p12⟩:=cons_of p11
 obtain⟨L13,R13,rfl,p13⟩:=cons_of p12
 obtain⟨L14,R14,rfl,p14⟩:=cons_of p13
 obtain⟨L15,R15,rfl,p15⟩:=cons_of p14
 obtain rfl:=List.eq_nil_of_length_eq_zero p15
 obtain⟨N0,S0,rfl,q0⟩:=cons_of n2
 obtain⟨N1,S1,rfl,q1⟩:=cons_of q0
 obtain⟨N2,S2,rfl,q2⟩:=cons_of q1
 obtain⟨N3,S3,rfl,q3⟩:=cons_of q2
 obtain rfl:=List.eq_nil_of_length_eq_zero q3
 refine⟨⟨fun s w=>[L0,L1,L2,L3,L4,L5,L6,L7,L8,L9,L10,L11,L12,L13,L14,L15].getD (s*4+w) L0,fun s=>[N0,N1,N2,N3].getD s N0,o⟩,⟨fun s w hs hw=>?_,fun s hs=>?_,o1⟩,?_⟩
 ·have:s*4+w<16:=by omega
  show Ln.Ok (List.getD _ _ _)
  rw[List.getD_eq_getElem?_getD,List.getElem?_eq_getElem (by simpa using this),Option.getD_some]
  exact l1 _ (List.getElem_mem _)
 ·show Rp.Ok (List.getD _ _ _)
  rw[List.getD_eq_getElem?_getD,List.getElem?_eq_getElem (by simpa using hs),Option.getD_some]
  exact n1 _ (List.getElem_mem _)
 ·simp[cells,cC]
theorem buf_of{c:List A}(h:FitsA [.sc (.int .u8),.sc (.int .u8)] c):∃ p:Int×Int,(Pl.u8 p.1∧Pl.u8 p.2)∧c=[I8 p.1,I8 p.2]:=by
 obtain⟨_,_,rfl,a0,h0⟩:=fitsA_cons h
 obtain⟨x0,rfl,b0⟩:=sh_u8 a0
 obtain⟨_,_,rfl,a1,h1⟩:=fitsA_cons h0
 obtain⟨x1,rfl,b1⟩:=sh_u8 a1
 obtain rfl:=fitsA_nil h1
 exact⟨(x0,x1),⟨b0,b1⟩,rfl⟩
theorem cells_buf(l:List (Int×Int)):cells (fun p:Int×Int=>[I8 p.1,I8 p.2]) l=bufC l:=by
 induction l with
 |nil=>rfl
 |cons x l ih=>rw[cells,ih];rfl
theorem core_of{c:List A}(h:FitsA [.sc (.int .u8),.sc (.int .u8),.sc (.int .u8),.sc (.int .u8),.sc (.int .u8),.sc (.int .u8),.sc (.int .u8),.sc (.int .u8),.sc (.int .u8),.sl [.sc (.int .u8),.sc (.int .u8)],.sc .bool,.sc .bool] c):∃ x:Pl.Core,(x.Ok∧x.buf.length≤140737488351232)∧c=cK x:=by
 obtain⟨_,_,rfl,a0,h0⟩:=fitsA_cons h
 obtain⟨x0,rfl,b0⟩:=sh_u8 a0
 obtain⟨_,_,rfl,a1,h1⟩:=fitsA_cons h0
 obtain⟨x1,rfl,b1⟩:=sh_u8 a1
 obtain⟨_,_,rfl,a2,h2⟩:=fitsA_cons h1
 obtain⟨x2,rfl,b2⟩:=sh_u8 a2
 obtain⟨_,_,rfl,a3,h3⟩:=fitsA_cons h2
 obtain⟨x3,rfl,b3⟩:=sh_u8 a3
 obtain⟨_,_,rfl,a4,h4⟩:=fitsA_cons h3
 obtain⟨x4,rfl,b4⟩:=sh_u8 a4
 obtain⟨_,_,rfl,a5,h5⟩:=fitsA_cons h4
 obtain⟨x5,rfl,b5⟩:=sh_u8 a5
 obtain⟨_,_,rfl,a6,h6⟩:=fitsA_cons h5
 obtain⟨x6,rfl,b6⟩:=sh_u8 a6
 obtain⟨_,_,rfl,a7,h7⟩:=fitsA_cons h6
 obtain⟨x7,rfl,b7⟩:=sh_u8 a7
 obtain⟨_,_,rfl,a8,h8⟩:=fitsA_cons h7
 obtain⟨x8,rfl,b8⟩:=sh_u8 a8
 obtain⟨_,_,rfl,a9,h9⟩:=fitsA_cons h8
 obtain⟨bs,s1,s2,rfl⟩:=list_of (fun _ h=>buf_of h) a9
 obtain⟨_,_,rfl,a10,h10⟩:=fitsA_cons h9
 obtain⟨x10,rfl⟩:=sh_bool a10
 obtain⟨_,_,rfl,a11,h11⟩:=fitsA_cons h10
 obtain⟨x11,rfl⟩:=sh_bool a11
 obtain rfl:=fitsA_nil h11
 refine⟨⟨x0,fun i=>[x1,x2,x3,x4,x5,x6,x7,x8].getD i 0,bs,x10,x11⟩,⟨⟨b0,fun i=>?_,s1⟩,s2⟩,?_⟩
 ·rcases i with _|_|_|_|_|_|_|_|i
  ·exact b1
  ·exact b2
  ·exact b3
  ·exact b4
  ·exact b5
  ·exact b6
  ·exact b7
  ·exact b8
  ·exact⟨by simp,by simp⟩
 ·rw[cells_buf]
  rfl
theorem sys_sh:flatS Tryz.prog 12 58=some (.sl [.sc (.int .u8),.sc (.int .u8),.sc (.int .u8),.sc (.int .u8),.sc (.int .u8),.sc (.int .u8),.sc (.int .u8),.sc (.int .u8),.sc (.int .u8),.sl [.sc (.int .u8),.sc (.int .u8)],.sc .bool,.sc .bool]::.sl ((List.replicate 16 [.sc (.int .u8),.sc (.int .u8),.sc (.int .i8),.sc .bool,.sc (.int .u8),.sc (.int .u8),.sc (.int .u8),.sc (.int .u8)]).flatten++((List.replicate 4 [.sc (.int .u8),.sc (.int .i64),.sc (.int .u8),.sc (.int .u8),.sc (.int .u8),.sc (.int .u8),.sc (.int .u8)]).flatten++[.sc (.int .u8),.sc (.int .u8),.sc (.int .u8),.sc (.int .u8)]))::((List.replicate 6 [.sc (.int .u8),.sc (.int .u8),.sc (.int .u8),.sc (.int .u64),.sc .bool,.sc (.int .u8),.sc (.int .u8),.sc (.int .u8),.sc (.int .u8),.sc (.int .u8),.sc (.int .u8)]).flatten++[.sl [.sc (.int .u8),.sc (.int .u8),.sc (.int .u8),.sc (.int .u8),.sc (.int .u8),.sc (.int .u8),.sc .bool,.sc (.int .u8),.sc (.int .u8),.sc (.int .u8),.sc (.int .u8)]])):=by kernel_rfl
theorem sys_of{l:List A}(h:FitsA (.sl [.sc (.int .u8),.sc (.int .u8),.sc (.int .u8),.sc (.int .u8),.sc (.int .u8),.sc (.int .u8),.sc (.int .u8),.sc (.int .u8),.sc (.int .u8),.sl [.sc (.int .u8),.sc (.int .u8)],.sc .bool,.sc .bool]::.sl ((List.replicate 16 [.sc (.int .u8),.sc (.int .u8),.sc (.int .i8),.sc .bool,.sc (.int .u8),.sc (.int .u8),.sc (.int .u8),.sc (.int .u8)]).flatten++((List.replicate 4 [.sc (.int .u8),.sc (.int .i64),.sc (.int .u8),.sc (.int .u8),.sc (.int .u8),.sc (.int .u8),.sc (.int .u8)]).flatten++[.sc (.int .u8),.sc (.int .u8),.sc (.int .u8),.sc (.int .u8)]))::((List.replicate 6 [.sc (.int .u8),.sc (.int .u8),.sc (.int .u8),.sc (.int .u64),.sc .bool,.sc (.int .u8),.sc (.int .u8),.sc (.int .u8),.sc (.int .u8),.sc (.int .u8),.sc (.int .u8)]).flatten++[.sl [.sc (.int .u8),.sc (.int .u8),.sc (.int .u8),.sc (.int .u8),.sc (.int .u8),.sc (.int .u8),.sc .bool,.sc (.int .u8),.sc (.int .u8),.sc (.int .u8),.sc (.int .u8)]])) l):∃ s:Sy,s.Raw∧l=cSy s:=by
 obtain⟨_,_,rfl,a0,h0⟩:=fitsA_cons h
 obtain⟨cs,c1,c2,rfl⟩:=list_of (fun _ h=>core_of h) a0
 obtain⟨_,_,rfl,a1,h1⟩:=fitsA_cons h0
 obtain⟨ks,k1,k2,rfl⟩:=list_of (fun _ h=>cache_of h) a1
 obtain⟨x,z,rfl,h3,h4⟩:=fitsA_split h1
 obtain⟨D,d1,d2,rfl⟩:=row_of (fun _ h=>dr_of h) h3
 obtain⟨_,_,rfl,a2,h5⟩:=fitsA_cons h4
 obtain⟨ms,m1,m2,rfl⟩:=list_of (fun _ h=>mg_of h) a2
 obtain rfl:=fitsA_nil h5
 obtain⟨D0,R0,rfl,p0⟩:=cons_of d2
 obtain⟨D1,R1,rfl,p1⟩:=cons_of p0
 obtain⟨D2,R2,rfl,p2⟩:=cons_of p1
 obtain⟨D3,R3,rfl,p3⟩:=cons_of p2
 obtain⟨D4,R4,rfl,p4⟩:=cons_of p3
 obtain⟨D5,R5,rfl,p5⟩:=cons_of p4
 obtain rfl:=List.eq_nil_of_length_eq_zero p5
 refine⟨⟨cs,ks,fun i=>[D0,D1,D2,D3,D4,D5].getD i D0,ms⟩,⟨c2,k2,m2,fun c hc=>c1 c hc,k1,fun i hi=>?_,m1⟩,rfl⟩
 show Dr.Ok (List.getD _ _ _)
 rw[List.getD_eq_getElem?_getD,List.getElem?_eq_getElem (by simpa using hi),Option.getD_some]
 exact d1 _ (List.getElem_mem _)
theorem sys_reads{fuel:Nat}{cs:List Value}{x:DataW H×List MemPlace}(hx:DataW.trod enc Tryz.prog w base spare held fuel 58 cs=some x)(hl:Light Tryz.prog 58 x.1) :
  ReadsP w (fun l=>∃ s:Sy,s.Raw∧l=cSy s) cs:=flat_pred 12 sys_sh (fun _ h=>sys_of h) hx hl
theorem step_sh:flatS Tryz.prog 12 62=some [.sc (.int .u8),.sc (.int .u8),.sc (.int .u8),.sc (.int .u8),.sc (.int .u8),.sc (.int .u8),.sc (.int .u8),.sc (.int .u8),.sc (.int .u8),.sc .bool,.sc (.int .u8),.sc (.int .u8),.sc (.int .u8),.sc (.int .u8)]:=by kernel_rfl
theorem step_reads{fuel:Nat}{cs:List Value}{x:DataW H×List MemPlace}(hx:DataW.trod enc Tryz.prog w base spare held fuel 62 cs=some x)(hl:Light Tryz.prog 62 x.1) :
  ReadsP w (fun l=>∃ s:Sp,s.Ok∧l=cS s) cs:=flat_pred 12 step_sh (fun _ h=>st_of h) hx hl
end
end Go.Proofs.YtpdphobnchajbaaGreatDoor
