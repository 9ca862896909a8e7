/- home: messages are sent. -/
import Derived.Test.YtpdphobnchajbaaGreatDoorQ27
import Derived.Test.YtpdphobnchajbaaGreatDoorQ24
set_option linter.unusedSimpArgs false
set_option linter.unusedVariables false
namespace Go.Proofs.YtpdphobnchajbaaGreatDoor.Ev
open Go Go.RowKit
set_option maxRecDepth 100000
set_option maxHeartbeats 16000000
def oV{α:Type}(el:TypeId)(sz:Nat)(c:α→List A)(K:aG)(v:A)(l:List α)(b:Nat):Prop :=
 (l=[]∧v=.v (.slice none 0 0))∨(l≠[]∧∃ j,b<j∧v=.ref j 0 l.length sz∧K[j]?=some (some ⟨el,cells c l,false⟩))
structure Kp(H K:aG)(b:Nat)(v v':A):Prop where
 len:H.length≤K.length
 same:∀ i,i<H.length→i≠b→(∀ n sz,v≠.ref i 0 n sz)→K[i]?=H[i]?
 own:v'=v∨∃ j n sz,H.length≤j∧v'=.ref j 0 n sz
theorem Kp.refl(H:aG)(b:Nat)(v:A):Kp H H b v v:=⟨Nat.le_refl _,fun _ _ _ _=>rfl,.inl rfl⟩
theorem Kp.trans{H K L:aG}{b:Nat}{v v' v2:A}(h:Kp H K b v v')(h':Kp K L b v' v2):Kp H L b v v2:=by
 refine⟨Nat.le_trans h.len h'.len,fun i hi hb hv=>?_,?_⟩
 ·rw[h'.same i (Nat.lt_of_lt_of_le hi h.len) hb fun n sz e=>?_,h.same i hi hb hv]
  rcases h.own with e2|⟨j,n2,sz2,hj,e2⟩
  ·exact hv n sz (e2▸e)
  ·rw[e2]at e
   cases e
   omega
 ·rcases h'.own with e|⟨j,n,sz,hj,e⟩
  ·rcases h.own with e2|e2
   ·exact .inl (e.trans e2)
   ·rw[e];exact .inr e2
  ·exact .inr ⟨j,n,sz,Nat.le_trans h.len hj,e⟩
theorem Kp.set{H:aG}{b:Nat}{v:A}(X:Option Blk):Kp H (H.set b X) b v v:=⟨by rw[List.length_set];exact Nat.le_refl _,fun i _ hb _=>List.getElem?_set_ne (Ne.symm hb),.inl rfl⟩
theorem Kp.app{H:aG}{b:Nat}{v:A}(l:aG):Kp H (H++l) b v v:=⟨by rw[List.length_append];omega,fun i hi _ _=>List.getElem?_append_left hi,.inl rfl⟩
theorem Kp.one{H:aG}{b:Nat}{v:A}(X:Option Blk)(l:aG)(q n sz:Nat):Kp H (H.set b X++l) b v (.ref (H.length+q) 0 n sz) :=
 ⟨by rw[List.length_append,List.length_set];omega,fun i hi hb _=>by rw[List.getElem?_append_left (by rw[List.length_set];exact hi),List.getElem?_set_ne (Ne.symm hb)],.inr ⟨_,_,_,by omega,rfl⟩⟩
theorem Kp.two{H:aG}{b i n0 sz0:Nat}(X:Option Blk)(l:aG)(q n sz:Nat):Kp H ((H.set i none++l).set b X) b (.ref i 0 n0 sz0) (.ref (H.length+q) 0 n sz) :=
 ⟨by rw[List.length_set,List.length_append,List.length_set];omega,fun k hk hb hv=>by
  rw[List.getElem?_set_ne (Ne.symm hb),List.getElem?_append_left (by rw[List.length_set];exact hk),List.getElem?_set_ne]
  rintro rfl
  exact hv _ _ rfl,.inr ⟨_,_,_,by omega,rfl⟩⟩
theorem cY(l:List Mg):(cells cM l).length=l.length*11:=eE cM 11 (fun _=>rfl) l
theorem dG(l:List Mg):(cells cM l).take (l.length*11)=cells cM l:=List.take_of_length_le (by rw[cY];omega)
structure Hs where
 d:Dr
 n:Int
 out:List Mg
def hwC(c h o s y id:Int)(m:Mg)(d:Dr)(n:Int)(v:A):List A :=
 [I8 d.state,I8 d.owner,I8 d.kind,W64 d.mask,Bo d.all,I8 d.wait,I8 d.asker,I8 d.d.a,I8 d.d.b,I8 d.d.c,I8 d.d.d,I64 c,I64 h,I64 o,I64 s,I64 y,I8 id,I8 m.kind,I8 m.src,I8 m.dst,I8 m.line,I8 m.asker,I8 m.acks,Bo m.alone,I8 m.d.a,I8 m.d.b,I8 m.d.c,I8 m.d.d,I8 n,v]
structure HAt(c h o s y id:Int)(m:Mg)(b:Nat)(H:aG)(st:Hs)(v:A):Prop where
 at_:H[b]?=some (some ⟨316,hwC c h o s y id m st.d st.n v,true⟩)
 own:oV 60 11 cM H v st.out b
section
variable{c h o s y id:Int}{m:Mg}{b:Nat}
def Mg.by(x:Mg)(id line:Int):Mg:=⟨x.kind,id,x.dst,line,x.asker,x.acks,x.alone,x.d⟩
theorem bBo{H:aG}{st:Hs}{v:A}(a:HAt c h o s y id m b H st v)(hl:st.out.length≤1000){j:Nat}{x:Mg}(hbj:b<j)(hj:H[j]?=some (some ⟨60,cM x,true⟩)) :
  bW Cx 305 [.ptr b 0,.ref j 0 1 11] H fun y' K=>y'=.tup []∧∃ v',HAt c h o s y id m b K ⟨st.d,st.n,st.out++[x.by id m.line]⟩ v'∧Kp H K b v v':=by
 obtain⟨d,n,out⟩:=st
 obtain⟨ha,ho⟩:=a
 simp only at ha ho hl ⊢
 have hU:=ha
 unfold hwC at hU
 have hbH:b<H.length:=(List.getElem?_eq_some_iff.1 ha).1
 have hjH:j<H.length:=(List.getElem?_eq_some_iff.1 hj).1
 rw[aP aEQ aAA];refine⟨by simp[CK],?_⟩
 rcases ho with⟨rfl,rfl⟩|⟨h0,i,hi,rfl,hk⟩
 ·simp(disch:=omega)only[go_sem,simprocAttr]
  rw[aB (l:=[0,6,7,8]) rfl]
  simp(disch:=omega)only[go_sem,simprocAttr]
  rw[aA]
  simp(disch:=omega)only[go_sem,simprocAttr,hj,aI hU]
  rw[aB (l:=[0,6,7,8]) rfl]
  simp(disch:=omega)only[go_sem,simprocAttr]
  rw[aA]
  simp(disch:=omega)only[go_sem,simprocAttr,aW]
  refine⟨_,⟨aI (bU ha _) _,.inr ⟨by simp,H.length+1,by omega,rfl,?_⟩⟩,Kp.one _ _ 1 _ _⟩
  rw[d8]
  rfl
 ·have hiH:i<H.length:=(List.getElem?_eq_some_iff.1 hk).1
  have hij:i≠j:=by
   rintro rfl
   rw[hj]at hk
   simp at hk
  have hUs:=fun l=>aI (aO hU (show i≠b by omega) none) l
  simp(disch:=omega)only[go_sem,simprocAttr]
  rw[aB (l:=[0,6,7,8]) rfl]
  simp(disch:=omega)only[go_sem,simprocAttr]
  rw[aA]
  simp(disch:=omega)only[go_sem,simprocAttr,hj,aI hU,aI hk,hUs,cY,dG]
  rw[aB (l:=[0,6,7,8]) rfl]
  simp(disch:=omega)only[go_sem,simprocAttr]
  rw[aA]
  simp(disch:=omega)only[go_sem,simprocAttr,aW]
  refine⟨_,⟨bU (hUs _) _,.inr ⟨by simp,H.length+1,by omega,by rw[List.length_append];rfl,?_⟩⟩,Kp.two _ _ 1 _ _⟩
  rw[List.getElem?_set_ne (by omega),d8,dP]
  rfl
end
structure Hs.Ok(st:Hs):Prop where
 d:st.d.Ok
 n:0≤st.n∧st.n<256
 out:∀ x∈st.out,x.Ok
section
variable{c h o s y id:Int}{m:Mg}{b:Nat}
theorem vR{H:aG}{st:Hs}{v:A}(a:HAt c h o s y id m b H st v)(hl:st.out.length≤1000){x:Mg} :
  bW Cx 305 [.ptr b 0,.sl 1 (cM x)] H fun y' K=>y'=.tup []∧∃ v',HAt c h o s y id m b K ⟨st.d,st.n,st.out++[x.by id m.line]⟩ v'∧Kp H K b v v':=by
 obtain⟨d,n,out⟩:=st
 obtain⟨ha,ho⟩:=a
 simp only at ha ho hl ⊢
 have hU:=ha
 unfold hwC at hU
 have hbH:b<H.length:=(List.getElem?_eq_some_iff.1 ha).1
 rw[aP aEQ aAA];refine⟨by simp[CK],?_⟩
 rcases ho with⟨rfl,rfl⟩|⟨h0,i,hi,rfl,hk⟩
 ·simp(disch:=omega)only[go_sem,simprocAttr]
  rw[aB (l:=[0,6,7,8]) rfl]
  simp(disch:=omega)only[go_sem,simprocAttr]
  rw[aA]
  simp(disch:=omega)only[go_sem,simprocAttr,aI hU]
  rw[aB (l:=[0,6,7,8]) rfl]
  simp(disch:=omega)only[go_sem,simprocAttr]
  rw[aA]
  simp(disch:=omega)only[go_sem,simprocAttr,aW]
  refine⟨_,⟨aI (bU ha _) _,.inr ⟨by simp,H.length+1,by omega,rfl,?_⟩⟩,Kp.one _ _ 1 _ _⟩
  rw[d8]
  rfl
 ·have hiH:i<H.length:=(List.getElem?_eq_some_iff.1 hk).1
  have hUs:=fun l=>aI (aO hU (show i≠b by omega) none) l
  simp(disch:=omega)only[go_sem,simprocAttr]
  rw[aB (l:=[0,6,7,8]) rfl]
  simp(disch:=omega)only[go_sem,simprocAttr]
  rw[aA]
  simp(disch:=omega)only[go_sem,simprocAttr,aI hU,aI hk,hUs,cY,dG]
  rw[aB (l:=[0,6,7,8]) rfl]
  simp(disch:=omega)only[go_sem,simprocAttr]
  rw[aA]
  simp(disch:=omega)only[go_sem,simprocAttr,aW]
  refine⟨_,⟨bU (hUs _) _,.inr ⟨by simp,H.length+1,by omega,by rw[List.length_append];rfl,?_⟩⟩,Kp.two _ _ 1 _ _⟩
  rw[List.getElem?_set_ne (by omega),d8,dP]
  rfl
theorem HAt.app{H:aG}{st:Hs}{v:A}(a:HAt c h o s y id m b H st v)(l:aG):HAt c h o s y id m b (H++l) st v:=by
 refine⟨aI a.at_ l,?_⟩
 rcases a.own with h|⟨h0,j,h1,h2,h3⟩
 ·exact .inl h
 ·exact .inr ⟨h0,j,h1,h2,aI h3 l⟩
theorem HAt.set{H:aG}{st:Hs}{v:A}(a:HAt c h o s y id m b H st v)(d:Dr)(n:Int):HAt c h o s y id m b (H.set b (some ⟨316,hwC c h o s y id m d n v,true⟩)) ⟨d,n,st.out⟩ v:=by
 refine⟨bU a.at_ _,?_⟩
 rcases a.own with h|⟨h0,j,h1,h2,h3⟩
 ·exact .inl h
 ·exact .inr ⟨h0,j,h1,h2,aO h3 (by omega) _⟩
def rH(c h o s y id:Int)(m:Mg)(b:Nat)(f:FuncId):Prop:=∀(H:aG) (st:Hs) (v:A),HAt c h o s y id m b H st v→st.Ok→st.out.length≤500 →
 bW Cx f [.ptr b 0] H fun y' K=>y'=.tup []∧∃ st' v',HAt c h o s y id m b K st' v'∧st'.Ok∧st'.out.length≤st.out.length+4∧Kp H K b v v'
theorem Mg.by_ok{x:Mg}(hx:x.Ok){id line:Int}(hi:0≤id∧id<256)(hl:0≤line∧line<256):(x.by id line).Ok:=⟨hx.kind,hi,hx.dst,hl,hx.asker,hx.acks,hx.d⟩
theorem fW{l:List Mg}(h:∀ x∈l,x.Ok){z:Mg}(hz:z.Ok):∀ x∈l++[z],x.Ok:=fun x hx=>by
 rcases List.mem_append.1 hx with hx|hx
 ·exact h x hx
 ·rw[List.mem_singleton.1 hx];exact hz
theorem ED(x:BitVec 8):0≤(x.toNat:Int)∧(x.toNat:Int)<256:=by
 have:=x.isLt
 omega
theorem d4z:(D4.mk 0 0 0 0).Ok:=⟨by decide,by decide,by decide,by decide⟩
theorem bCr(mo:m.Ok)(hid:0≤id∧id<256):rH c h o s y id m b 235:=by
 intro H st v a k hl
 have hs:=@vR c h o s y id m b
 obtain⟨d,n,out⟩:=st
 have hU:=a.at_
 unfold hwC at hU
 rw[aP aXn a0O];refine⟨by simp[I3],?_⟩
 simp(disch:=omega)only[go_sem,simprocAttr,hU]
 refine aM (hs a (by simp at hl ⊢;omega) (x:=⟨10,0,m.src,0,0,n,false,d.d⟩)) ?_
 rintro y' K ⟨rfl,v',a',k'⟩
 simp(disch:=omega)only[go_sem,simprocAttr,aW]
 exact⟨_,v',a',⟨k.d,k.n,fW k.out (Mg.by_ok ⟨by simp,by simp,mo.src,by simp,by simp,k.n,k.d.d⟩ hid mo.line)⟩,by simp,k'⟩
theorem aXP(mo:m.Ok)(hid:0≤id∧id<256):rH c h o s y id m b 236:=by
 intro H st v a k hl
 have hs:=@vR c h o s y id m b
 obtain⟨d,n,out⟩:=st
 have hU:=a.at_
 unfold hwC at hU
 rw[aP a0x aO2];refine⟨by simp[HK],?_⟩
 simp(disch:=omega)only[go_sem,simprocAttr,hU]
 refine aM (hs a (by simp at hl ⊢;omega) (x:=⟨10,0,m.src,0,0,n,true,d.d⟩)) ?_
 rintro y' K ⟨rfl,v',a',k'⟩
 simp(disch:=omega)only[go_sem,simprocAttr,aW]
 exact⟨_,v',a',⟨k.d,k.n,fW k.out (Mg.by_ok ⟨by simp,by simp,mo.src,by simp,by simp,k.n,k.d.d⟩ hid mo.line)⟩,by simp,k'⟩
theorem a3i(mo:m.Ok)(hid:0≤id∧id<256):rH c h o s y id m b 239:=by
 intro H st v a k hl
 have hs:=@vR c h o s y id m b
 obtain⟨d,n,out⟩:=st
 have hU:=a.at_
 unfold hwC at hU
 rw[aP aS3 aU9];refine⟨by simp[LJ],?_⟩
 simp(disch:=omega)only[go_sem,simprocAttr,hU]
 refine aM (hs a (by simp at hl ⊢;omega) (x:=⟨11,0,m.src,0,0,n,false,⟨0,0,0,0⟩⟩)) ?_
 rintro y' K ⟨rfl,v',a',k'⟩
 simp(disch:=omega)only[go_sem,simprocAttr,aW]
 exact⟨_,v',a',⟨k.d,k.n,fW k.out (Mg.by_ok ⟨by simp,by simp,mo.src,by simp,by simp,k.n,d4z⟩ hid mo.line)⟩,by simp,k'⟩
theorem a4f(mo:m.Ok)(hid:0≤id∧id<256):rH c h o s y id m b 241:=by
 intro H st v a k hl
 have hbH:b<H.length:=(List.getElem?_eq_some_iff.1 a.at_).1
 obtain⟨d,n,out⟩:=st
 have hU:=a.at_
 unfold hwC at hU
 rw[aP aZu aVT];refine⟨by simp[LE],?_⟩
 simp(disch:=omega)only[go_sem,simprocAttr,hU]
 refine aM (bBo (a.app _) (by simp at hl ⊢;omega) (j:=H.length) (x:=⟨9,0,m.src,0,0,0,false,⟨0,0,0,0⟩⟩) hbH (e9 H _ [])) ?_
 rintro y' K ⟨rfl,v',a',k'⟩
 simp(disch:=omega)only[go_sem,simprocAttr,aW]
 exact⟨_,v',a',⟨k.d,k.n,fW k.out (Mg.by_ok ⟨by simp,by simp,mo.src,by simp,by simp,by simp,d4z⟩ hid mo.line)⟩,by simp,(Kp.app _).trans k'⟩
theorem a4A(mo:m.Ok)(hid:0≤id∧id<256):rH c h o s y id m b 237:=by
 intro H st v a k hl
 have hs:=@vR c h o s y id m b
 obtain⟨d,n,out⟩:=st
 have hU:=a.at_
 unfold hwC at hU
 rw[aP a17 aV9];refine⟨by simp[F2],?_⟩
 by_cases q:d.owner=255
 ·simp(disch:=omega)only[go_sem,simprocAttr,hU,aW]
  exact⟨_,v,a,k,by simp,Kp.refl _ _ _⟩
 ·simp(disch:=omega)only[go_sem,simprocAttr,hU]
  refine aM (hs a (by simp at hl ⊢;omega) (x:=⟨6,0,d.owner,0,m.src,0,false,⟨0,0,0,0⟩⟩)) ?_
  rintro y' K ⟨rfl,v',a',k'⟩
  simp(disch:=omega)only[go_sem,simprocAttr,aW]
  exact⟨_,v',a',⟨k.d,k.n,fW k.out (Mg.by_ok ⟨by simp,by simp,k.d.owner,by simp,mo.src,by simp,d4z⟩ hid mo.line)⟩,by simp,k'⟩
theorem a4m(mo:m.Ok)(hid:0≤id∧id<256):rH c h o s y id m b 238:=by
 intro H st v a k hl
 have hs:=@vR c h o s y id m b
 obtain⟨d,n,out⟩:=st
 have hU:=a.at_
 unfold hwC at hU
 rw[aP aQr aQZ];refine⟨by simp[JZ],?_⟩
 by_cases q:d.owner=255
 ·simp(disch:=omega)only[go_sem,simprocAttr,hU,aW]
  exact⟨_,v,a,k,by simp,Kp.refl _ _ _⟩
 ·simp(disch:=omega)only[go_sem,simprocAttr,hU]
  refine aM (hs a (by simp at hl ⊢;omega) (x:=⟨7,0,d.owner,0,m.src,n,false,⟨0,0,0,0⟩⟩)) ?_
  rintro y' K ⟨rfl,v',a',k'⟩
  simp(disch:=omega)only[go_sem,simprocAttr,aW]
  exact⟨_,v',a',⟨k.d,k.n,fW k.out (Mg.by_ok ⟨by simp,by simp,k.d.owner,by simp,mo.src,k.n,d4z⟩ hid mo.line)⟩,by simp,k'⟩
theorem aWU(mo:m.Ok):rH c h o s y id m b 240:=by
 intro H st v a k hl
 obtain⟨d,n,out⟩:=st
 have hU:=a.at_
 unfold hwC at hU
 rw[aP a0v aZl];refine⟨by simp[IF],?_⟩
 simp(disch:=omega)only[go_sem,simprocAttr,hU,aW]
 exact⟨_,v,HAt.set a ⟨d.state,d.owner,d.kind,d.mask,d.all,d.wait,d.asker,m.d⟩ n,⟨⟨k.d.state,k.d.owner,k.d.kind,k.d.mask,k.d.wait,k.d.asker,mo.d⟩,k.n,k.out⟩,by simp,Kp.set _⟩
theorem a05:rH c h o s y id m b 242:=by
 intro H st v a k hl
 obtain⟨d,n,out⟩:=st
 have hU:=a.at_
 unfold hwC at hU
 have hc:=aAQ d.kind d.mask d.all
 rw[aP a1Q a0u];refine⟨by simp[HP],?_⟩
 simp(disch:=omega)only[go_sem,simprocAttr,hU,aW,QK.use hc]
 exact⟨_,v,HAt.set a ⟨d.state,d.owner,d.kind,0,false,d.wait,d.asker,d.d⟩ n,⟨⟨k.d.state,k.d.owner,k.d.kind,by simp,k.d.wait,k.d.asker,k.d.d⟩,k.n,k.out⟩,by simp,Kp.set _⟩
theorem bB8(mo:m.Ok):rH c h o s y id m b 245:=by
 intro H st v a k hl
 obtain⟨d,n,out⟩:=st
 have hU:=a.at_
 unfold hwC at hU
 rw[aP aYF aW6];refine⟨by simp[LP],?_⟩
 simp(disch:=omega)only[go_sem,simprocAttr,hU,aW]
 exact⟨_,v,HAt.set a ⟨d.state,m.src,d.kind,d.mask,d.all,d.wait,d.asker,d.d⟩ n,⟨⟨k.d.state,mo.src,k.d.kind,k.d.mask,k.d.wait,k.d.asker,k.d.d⟩,k.n,k.out⟩,by simp,Kp.set _⟩
theorem a9F:rH c h o s y id m b 246:=by
 intro H st v a k hl
 obtain⟨d,n,out⟩:=st
 have hU:=a.at_
 unfold hwC at hU
 rw[aP aQ7 aYI];refine⟨by simp[KT],?_⟩
 simp(disch:=omega)only[go_sem,simprocAttr,hU,aW]
 exact⟨_,v,HAt.set a ⟨d.state,255,d.kind,d.mask,d.all,d.wait,d.asker,d.d⟩ n,⟨⟨k.d.state,by simp,k.d.kind,k.d.mask,k.d.wait,k.d.asker,k.d.d⟩,k.n,k.out⟩,by simp,Kp.set _⟩
theorem a9X(mo:m.Ok):rH c h o s y id m b 247:=by
 intro H st v a k hl
 obtain⟨d,n,out⟩:=st
 have hU:=a.at_
 unfold hwC at hU
 rw[aP aYb aTU];refine⟨by simp[F6],?_⟩
 have hS:=fun X=>bU hU X
 simp(disch:=omega)only[go_sem,simprocAttr,hU,hS,set_set,aW]
 exact⟨_,v,HAt.set a ⟨d.state,d.owner,d.kind,d.mask,d.all,((BitVec.ofInt 8 d.wait ||| 1#8).toNat:Int),m.src,d.d⟩ n,⟨⟨k.d.state,k.d.owner,k.d.kind,k.d.mask,ED _,mo.src,k.d.d⟩,k.n,k.out⟩,by simp,Kp.set _⟩
theorem aTV:rH c h o s y id m b 248:=by
 intro H st v a k hl
 obtain⟨d,n,out⟩:=st
 have hU:=a.at_
 unfold hwC at hU
 rw[aP aPS aUI];refine⟨by simp[I9],?_⟩
 simp(disch:=omega)only[go_sem,simprocAttr,hU,aW]
 exact⟨_,v,HAt.set a ⟨d.state,d.owner,d.kind,d.mask,d.all,((BitVec.ofInt 8 d.wait ||| 2#8).toNat:Int),d.asker,d.d⟩ n,⟨⟨k.d.state,k.d.owner,k.d.kind,k.d.mask,ED _,k.d.asker,k.d.d⟩,k.n,k.out⟩,by simp,Kp.set _⟩
theorem a64(mo:m.Ok):rH c h o s y id m b 243:=by
 intro H st v a k hl
 obtain⟨d,n,out⟩:=st
 have hU:=a.at_
 unfold hwC at hU
 have hsr:=mo.src
 have hn:=TC k.d.mask d.kind d.all (c:=m.src.toNat) (by omega)
 rw[Int.toNat_of_nonneg (by omega)]at hn
 rw[aP aY7 aR4];refine⟨by simp[KX],?_⟩
 simp(disch:=omega)only[go_sem,simprocAttr,hU,aW,QK.use hn]
 exact⟨_,v,HAt.set a ⟨d.state,d.owner,d.kind,(tO d.kind d.mask d.all m.src.toNat).1,(tO d.kind d.mask d.all m.src.toNat).2,d.wait,d.asker,d.d⟩ n,⟨⟨k.d.state,k.d.owner,k.d.kind,GJ k.d.mask,k.d.wait,k.d.asker,k.d.d⟩,k.n,k.out⟩,by simp,Kp.set _⟩
end
theorem oV.ne{α:Type}{el:TypeId}{sz:Nat}{c:α→List A}{K:aG}{v:A}{l:List α}{b:Nat}(h:oV el sz c K v l b){i:Nat}{e:TypeId}{cs:List A}(hi:K[i]?=some (some ⟨e,cs,true⟩)):∀ n s,v≠.ref i 0 n s:=by
 intro n s e1
 rcases h with⟨-,h⟩|⟨-,j,-,h,hk⟩
 ·rw[h]at e1;cases e1
 ·rw[h]at e1
  cases e1
  rw[hi]at hk
  simp at hk
section
variable{c h o s y id:Int}{m:Mg}{b:Nat}
theorem a4j:rH c h o s y id m b 244:=by
 intro H st v a k hl
 obtain⟨d,n,out⟩:=st
 have hU:=a.at_
 unfold hwC at hU
 have hsr:=k.d.owner
 simp only at hsr
 have hn:=TC k.d.mask d.kind d.all (c:=d.owner.toNat) (by omega)
 rw[Int.toNat_of_nonneg (by omega)]at hn
 have hS:=fun X=>bU hU X
 rw[aP a1n aSm];refine⟨by simp[G8],?_⟩
 by_cases q:d.owner=255
 ·simp(disch:=omega)only[go_sem,simprocAttr,hU,aW]
  exact⟨_,v,HAt.set a ⟨d.state,255,d.kind,d.mask,d.all,d.wait,d.asker,d.d⟩ n,⟨⟨k.d.state,by simp,k.d.kind,k.d.mask,k.d.wait,k.d.asker,k.d.d⟩,k.n,k.out⟩,by simp,Kp.set _⟩
 ·simp(disch:=omega)only[go_sem,simprocAttr,hU,hS,set_set,QK.use hn,aW]
  exact⟨_,v,HAt.set a ⟨d.state,255,d.kind,(tO d.kind d.mask d.all d.owner.toNat).1,(tO d.kind d.mask d.all d.owner.toNat).2,d.wait,d.asker,d.d⟩ n,⟨⟨k.d.state,by simp,k.d.kind,GJ k.d.mask,k.d.wait,k.d.asker,k.d.d⟩,k.n,k.out⟩,by simp,Kp.set _⟩
theorem aR2(mo:m.Ok)(hid:0≤id∧id<256){H:aG}{st:Hs}{v:A}(a:HAt c h o s y id m b H st v)(k:st.Ok)(hl:st.out.length≤600){bx:Nat}(hbx:bx≠b)(hx:H[bx]?=some (some ⟨358,[.ptr b 0],true⟩)){q:Nat}(hq:q<4) :
  bW Cx 304 [I8 q,.ptr bx 0] H fun y' K=>y'=.tup []∧∃ st' v',HAt c h o s y id m b K st' v'∧st'.Ok∧st'.out.length≤st.out.length+1∧Kp H K b v v'∧K[bx]?=some (some ⟨358,[.ptr b 0],true⟩):=by
 have hs:=@vR c h o s y id m b
 obtain⟨d,n,out⟩:=st
 have hU:=a.at_
 unfold hwC at hU
 have hn:=aBb (n+1)
 rw[aP aYv aUV];refine⟨by simp[GC],?_⟩
 by_cases e1:(q:Int)=m.src
 ·simp(disch:=omega)only[go_sem,simprocAttr,hU,hx,aW]
  exact⟨_,v,a,k,by simp,Kp.refl _ _ _⟩
 by_cases e2:(q:Int)=d.owner
 ·simp(disch:=omega)only[go_sem,simprocAttr,hU,hx,aW]
  exact⟨_,v,a,k,by simp,Kp.refl _ _ _⟩
 simp(disch:=omega)only[go_sem,simprocAttr,hU,hx]
 refine aM (hs a (by simp at hl ⊢;omega) (x:=⟨8,0,q,0,m.src,0,false,⟨0,0,0,0⟩⟩)) ?_
 rintro y' K ⟨rfl,v',a',k'⟩
 have hx':K[bx]?=some (some ⟨358,[.ptr b 0],true⟩):=(k'.same bx (List.getElem?_eq_some_iff.1 hx).1 hbx (a.own.ne hx)).trans hx
 have hU':=a'.at_
 unfold hwC at hU'
 simp only at hU'
 simp(disch:=omega)only[go_sem,simprocAttr,hU',hx',aW]
 exact⟨_,v',HAt.set a' d (IntKind.u8.wrap (n+1)),⟨k.d,hn,fW k.out (Mg.by_ok ⟨by simp,by simp,by simp;omega,by simp,mo.src,by simp,d4z⟩ hid mo.line)⟩,by simp,k'.trans (Kp.set _),aO hx' (Ne.symm hbx) _⟩
theorem W2(mo:m.Ok)(hid:0≤id∧id<256){bx:Nat}(hbx:bx≠b)(tl:Nat){H0:aG}{v0:A}{L:Nat}(hL:L≤500){KK:List It}{Q:Ex→Ev.St→Prop}
  (hE:∀(K:aG) (st:Hs) (v:A) (e:Env),HAt c h o s y id m b K st v→st.Ok→st.out.length≤L+4→Kp H0 K b v0 v→dN Cx (.out 0) KK ⟨e,K⟩ Q) :
  ∀(r q:Nat) (H:aG) (st:Hs) (v:A),q+r=4→HAt c h o s y id m b H st v→st.Ok→st.out.length≤L+q→Kp H0 H b v0 v→H[bx]?=some (some ⟨358,[.ptr b 0],true⟩) →
   bG Cx (.code (.loop E5)::KK) ⟨[(1,.clo 304 [] [.ptr bx 0]),(4,W64 tl),(17,I8 q)],H⟩ Q:=by
 intro r
 induction r with
 |zero =>
  intro q H st v hq a k hl kp hx
  obtain rfl:q=4:=by omega
  rw[aA]
  simp(disch:=omega)only[go_sem,simprocAttr]
  exact hE _ _ _ _ a k hl kp
 |succ r ih =>
  intro q H st v hq a k hl kp hx
  have nx:∀(K:aG) (st':Hs) (v':A),HAt c h o s y id m b K st' v'→st'.Ok→st'.out.length≤st.out.length+1→Kp H K b v v'→K[bx]?=some (some ⟨358,[.ptr b 0],true⟩) →
    bG Cx (.code (.loop E5)::KK) ⟨[(1,.clo 304 [] [.ptr bx 0]),(4,W64 tl),(17,I8 ((q:Int)+1))],K⟩ Q:=fun K st' v' a' k' hl' kp' hx'=>by
   have:=ih (q+1) K st' v' (by omega) a' k' (by omega) (kp.trans kp') hx'
   simpa only[Int.natCast_add,Int.natCast_one]using this
  rw[aA]
  simp(disch:=omega)only[go_sem,simprocAttr]
  refine bD (fun _=>?_) (fun _=>?_)
  ·simp(disch:=omega)only[go_sem,simprocAttr]
   refine aM (aR2 mo hid a k (by omega) hbx hx (by omega)) ?_
   rintro y' K ⟨rfl,st',v',a',k',hl',kp',hx'⟩
   simp(disch:=omega)only[go_sem,simprocAttr]
   rw[aB (l:=[1,4,17]) rfl]
   simp(disch:=omega)only[go_sem,simprocAttr]
   exact nx _ _ _ a' k' hl' kp' hx'
  ·simp(disch:=omega)only[go_sem,simprocAttr]
   rw[aB (l:=[1,4,17]) rfl]
   simp(disch:=omega)only[go_sem,simprocAttr]
   exact nx _ _ _ a k (by omega) (Kp.refl _ _ _) hx
theorem a9y(hk:OkG c h o s y)(mo:m.Ok)(hid:0≤id∧id<256):rH c h o s y id m b 234:=by
 intro H st v a k hl
 have hbH:b<H.length:=(List.getElem?_eq_some_iff.1 a.at_).1
 obtain⟨c1,c2,-⟩:=hk
 have ht:=aMu (k:=st.d.kind) (a:=st.d.all) (n:=c.toNat) (by omega) (by omega) k.d.mask
 rw[Int.toNat_of_nonneg (by omega)]at ht
 generalize aBU st.d.kind st.d.mask st.d.all c.toNat=tl at ht
 have hU:=aI a.at_ [some ⟨358,[.ptr b 0],true⟩]
 unfold hwC at hU
 rw[aP aRK aSa];refine⟨by simp[GU],?_⟩
 simp(disch:=omega)only[go_sem,simprocAttr]
 refine aM (G:=fun y' K=>y'=.tup []∧∃ st' v',HAt c h o s y id m b K st' v'∧st'.Ok∧st'.out.length≤st.out.length+4∧Kp H K b v v') ?_ ?_
 ·rw[aP aZe a3d];refine⟨by simp[IX],?_⟩
  simp(disch:=omega)only[go_sem,simprocAttr,hU,QK.use ht]
  rw[aB (l:=[1,4,17]) rfl]
  simp(disch:=omega)only[go_sem,simprocAttr]
  refine W2 mo hid (bx:=H.length) (by omega) tl hl ?_ 4 0 _ st v rfl (a.app _) k (by omega) (Kp.app _) (e9 H _ [])
  intro K st' v' e a' k' hl' kp'
  simp(disch:=omega)only[go_sem,simprocAttr,aW]
  exact⟨_,_,a',k',hl',kp'⟩
 ·rintro y' K ⟨rfl,st',v',a',k',hl',kp'⟩
  simp(disch:=omega)only[go_sem,simprocAttr,aW]
  exact⟨_,_,a',k',hl',kp'⟩
end
abbrev eD(d:Dr):A:=.agg (cD d)
attribute [go_sem] eD
theorem ZD{c h o s y:Int}(hk:OkG c h o s y)(id:Int){m:Mg}(mo:m.Ok):∃ b,EvQ Cx 192 [fR c h o s y,I8 id,eM m] (Bo b):=by
 have:∃ z,EvQ Cx 192 [fR c h o s y,I8 id,eM m] z∧hJ z:=by
  have hl:=mo.line
  have hs:=mo.src
  have hg:=wF hk (l:=m.line) (by omega) (by omega)
  obtain⟨c1,c2,h1,h2,-⟩:=hk
  refine cA aZ9 rfl (by simp[I7]) ?_
  simp(disch:=omega)only[go_sem,simprocAttr]
  repeat' (((first|refine bD (fun hb=>?_) (fun hb=>?_)|refine bY (fun hb=>?_) (fun hb=>?_))<;>(first|subst hb|(have hc:=hb;simp only[decide_eq_true_eq,decide_eq_false_iff_not,beq_iff_eq,beq_eq_false_iff_ne,ne_eq,Int.not_lt]at hc)|skip))<;>(first|simp(disch:=omega)only[go_sem,simprocAttr,hb,QK.use hg]|simp(disch:=omega)only[go_sem,simprocAttr,QK.use hg]))
  all_goals first|exact⟨_,rfl⟩|done
 obtain⟨_,h,b,rfl⟩:=this
 exact⟨b,h⟩
theorem a1m(d:Dr)(m:Mg):∃ v b,EvQ Cx 194 [eD d,eM m] (.tup [I8 v,Bo b])∧(0≤v∧v<5):=by
 have:∃ z,EvQ Cx 194 [eD d,eM m] z∧∃ v b,z=.tup [I8 v,Bo b]∧(0≤v∧v<5):=by
  refine cA aPL rfl (by simp[F3]) ?_
  simp(disch:=omega)only[go_sem,simprocAttr]
  repeat' (((first|refine bD (fun hb=>?_) (fun hb=>?_)|refine bY (fun hb=>?_) (fun hb=>?_))<;>(first|subst hb|(have hc:=hb;simp only[beq_iff_eq,beq_eq_false_iff_ne,ne_eq]at hc)|skip))<;>(first|simp(disch:=omega)only[go_sem,simprocAttr,hb]|simp(disch:=omega)only[go_sem,simprocAttr,true_and]))
  all_goals first|exact⟨_,_,rfl,by decide⟩|done
 obtain⟨_,h,v,b,rfl,hv⟩:=this
 exact⟨v,b,h,hv⟩
theorem aJU(d:Dr):∃ b,EvQ Cx 195 [eD d] (Bo b):=by
 have:∃ z,EvQ Cx 195 [eD d] z∧hJ z:=by
  refine cA aRm rfl (by simp[KW]) ?_
  simp(disch:=omega)only[go_sem,simprocAttr]
  exact⟨_,rfl⟩
 obtain⟨_,h,b,rfl⟩:=this
 exact⟨b,h⟩
theorem QS(r:Int):∃ e:Int,EvQ Cx 196 [I8 r] (I64 e):=by
 have:∃ z,EvQ Cx 196 [I8 r] z∧∃ e:Int,z=I64 e:=by
  refine cA aY1 rfl (by simp[GS]) ?_
  simp(disch:=omega)only[go_sem,simprocAttr]
  repeat' (((first|refine bD (fun hb=>?_) (fun hb=>?_)|refine bY (fun hb=>?_) (fun hb=>?_))<;>(first|subst hb|(have hc:=hb;simp only[beq_iff_eq,beq_eq_false_iff_ne,ne_eq]at hc)|skip))<;>(first|simp(disch:=omega)only[go_sem,simprocAttr,hb,true_and]|simp(disch:=omega)only[go_sem,simprocAttr,true_and]))
  all_goals first|exact⟨_,rfl⟩|done
 obtain⟨_,h,b,rfl⟩:=this
 exact⟨b,h⟩
theorem aRl{d:Dr}(k:d.Ok){m:Mg}(mo:m.Ok):∃ d' e,EvQ Cx 193 [eD d,eM m] (.tup [eD d',.v (.slice none 0 0),I64 e])∧d'.Ok:=by
 have:∃ z,EvQ Cx 193 [eD d,eM m] z∧∃ d' e,z=.tup [eD d',.v (.slice none 0 0),I64 e]∧d'.Ok:=by
  have o1:∀(x:BitVec 8) (q:Int) (dd:D4),(0≤q∧q<256)→dd.Ok→(Dr.mk d.state d.owner d.kind d.mask d.all (x.toNat:Int) q dd).Ok:=fun x q dd hq hd=>⟨k.state,k.owner,k.kind,k.mask,ED x,hq,hd⟩
  have o2:∀(q:Int) (dd:D4),(0≤q∧q<256)→dd.Ok→(Dr.mk d.state d.owner d.kind d.mask d.all 0 q dd).Ok:=fun q dd hq hd=>⟨k.state,k.owner,k.kind,k.mask,by simp,hq,hd⟩
  refine cA aQh rfl (by simp[L5]) ?_
  simp(disch:=omega)only[go_sem,simprocAttr]
  repeat' (((first|refine bD (fun hb=>?_) (fun hb=>?_)|refine bY (fun hb=>?_) (fun hb=>?_))<;>(first|subst hb|(have hc:=hb;simp only[beq_iff_eq,bne_iff_ne,beq_eq_false_iff_ne,bne_eq_false_iff_eq,Bool.not_eq_eq_eq_not,Bool.not_true,Bool.not_false,ne_eq]at hc)|skip))<;>(first|simp(disch:=omega)only[go_sem,simprocAttr,hb,true_and]|simp(disch:=omega)only[go_sem,simprocAttr,true_and]))
  all_goals first|exact⟨_,_,rfl,k⟩|exact⟨_,_,rfl,o1 _ _ _ k.asker k.d⟩|exact⟨_,_,rfl,o1 _ _ _ k.asker mo.d⟩|exact⟨_,_,rfl,o1 _ _ _ (by simp) k.d⟩|exact⟨_,_,rfl,o1 _ _ _ (by simp) mo.d⟩|exact⟨_,_,rfl,o2 _ _ (by simp) k.d⟩|exact⟨_,_,rfl,o2 _ _ (by simp) mo.d⟩|done
 obtain⟨_,h,d',e,rfl,hd⟩:=this
 exact⟨d',e,h,hd⟩
end Go.Proofs.YtpdphobnchajbaaGreatDoor.Ev
