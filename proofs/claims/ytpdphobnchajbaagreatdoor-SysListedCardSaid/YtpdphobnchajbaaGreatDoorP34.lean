/- home: messages are sent. -/
import Derived.Test.YtpdphobnchajbaaGreatDoorP32
import Derived.Test.YtpdphobnchajbaaGreatDoorP29
set_option linter.unusedSimpArgs false
set_option linter.unusedVariables false
namespace Go.Proofs.YtpdphobnchajbaaGreatDoor.Ev
open Go Go.RowKit
set_option maxRecDepth 100000
set_option maxHeartbeats 16000000
def OwnS{α:Type}(el:TypeId)(sz:Nat)(c:α→List A)(K:Heap)(v:A)(l:List α)(b:Nat):Prop :=
 (l=[]∧v=.v (.slice none 0 0))∨(l≠[]∧∃ j,b<j∧v=.ref j 0 l.length sz∧K[j]?=some (some ⟨el,cells c l,false⟩))
structure Kp(H K:Heap)(b:Nat)(v v':A):Prop where
 len:H.length≤K.length
 same:∀ i,i<H.length→i≠b→(∀ n sz,v≠.ref i 0 n sz)→K[i]?=H[i]?
 own:v'=v∨∃ j n sz,H.length≤j∧v'=.ref j 0 n sz
theorem Kp.refl(H:Heap)(b:Nat)(v:A):Kp H H b v v:=⟨Nat.le_refl _,fun _ _ _ _=>rfl,.inl rfl⟩
theorem Kp.trans{H K L:Heap}{b:Nat}{v v' v2:A}(h:Kp H K b v v')(h':Kp K L b v' v2):Kp H L b v v2:=by
 refine⟨Nat.le_trans h.len h'.len,fun i hi hb hv=>?_,?_⟩
 ·rw[h'.same i (Nat.lt_of_lt_of_le hi h.len) hb fun n sz e=>?_,h.same i hi hb hv]
  rcases h.own with e2|⟨j,n2,sz2,hj,e2⟩
  ·exact hv n sz (e2▸e)
  ·rw[e2]at e
   cases e
   omega
 ·rcases h'.own with e|⟨j,n,sz,hj,e⟩
  ·rcases h.own with e2|e2
   ·exact .inl (e.trans e2)
   ·rw[e];exact .inr e2
  ·exact .inr ⟨j,n,sz,Nat.le_trans h.len hj,e⟩
theorem Kp.set{H:Heap}{b:Nat}{v:A}(X:Option Blk):Kp H (H.set b X) b v v:=⟨by rw[List.length_set];exact Nat.le_refl _,fun i _ hb _=>List.getElem?_set_ne (Ne.symm hb),.inl rfl⟩
theorem Kp.app{H:Heap}{b:Nat}{v:A}(l:Heap):Kp H (H++l) b v v:=⟨by rw[List.length_append];omega,fun i hi _ _=>List.getElem?_append_left hi,.inl rfl⟩
theorem Kp.one{H:Heap}{b:Nat}{v:A}(X:Option Blk)(l:Heap)(q n sz:Nat):Kp H (H.set b X++l) b v (.ref (H.length+q) 0 n sz) :=
 ⟨by rw[List.length_append,List.length_set];omega,fun i hi hb _=>by rw[List.getElem?_append_left (by rw[List.length_set];exact hi),List.getElem?_set_ne (Ne.symm hb)],.inr ⟨_,_,_,by omega,rfl⟩⟩
theorem Kp.two{H:Heap}{b i n0 sz0:Nat}(X:Option Blk)(l:Heap)(q n sz:Nat):Kp H ((H.set i none++l).set b X) b (.ref i 0 n0 sz0) (.ref (H.length+q) 0 n sz) :=
 ⟨by rw[List.length_set,List.length_append,List.length_set];omega,fun k hk hb hv=>by
  rw[List.getElem?_set_ne (Ne.symm hb),List.getElem?_append_left (by rw[List.length_set];exact hk),List.getElem?_set_ne]
  rintro rfl
  exact hv _ _ rfl,.inr ⟨_,_,_,by omega,rfl⟩⟩
theorem cM_len(l:List Mg):(cells cM l).length=l.length*11:=cells_len3 cM 11 (fun _=>rfl) l
theorem cM_take(l:List Mg):(cells cM l).take (l.length*11)=cells cM l:=List.take_of_length_le (by rw[cM_len];omega)
structure Hs where
 d:Dr
 n:Int
 out:List Mg
def hwC(c h o s y id:Int)(m:Mg)(d:Dr)(n:Int)(v:A):List A :=
 [I8 d.state,I8 d.owner,I8 d.kind,W64 d.mask,Bo d.all,I8 d.wait,I8 d.asker,I8 d.d.a,I8 d.d.b,I8 d.d.c,I8 d.d.d,I64 c,I64 h,I64 o,I64 s,I64 y,I8 id,I8 m.kind,I8 m.src,I8 m.dst,I8 m.line,I8 m.asker,I8 m.acks,Bo m.alone,I8 m.d.a,I8 m.d.b,I8 m.d.c,I8 m.d.d,I8 n,v]
structure HAt(c h o s y id:Int)(m:Mg)(b:Nat)(H:Heap)(st:Hs)(v:A):Prop where
 at_:H[b]?=some (some ⟨316,hwC c h o s y id m st.d st.n v,true⟩)
 own:OwnS 60 11 cM H v st.out b
section
variable{c h o s y id:Int}{m:Mg}{b:Nat}
def Mg.by(x:Mg)(id line:Int):Mg:=⟨x.kind,id,x.dst,line,x.asker,x.acks,x.alone,x.d⟩
theorem hsend{H:Heap}{st:Hs}{v:A}(a:HAt c h o s y id m b H st v)(hl:st.out.length≤1000){j:Nat}{x:Mg}(hbj:b<j)(hj:H[j]?=some (some ⟨60,cM x,true⟩)) :
  CallK Cx 305 [.ptr b 0,.ref j 0 1 11] H fun y' K=>y'=.tup []∧∃ v',HAt c h o s y id m b K ⟨st.d,st.n,st.out++[x.by id m.line]⟩ v'∧Kp H K b v v':=by
 obtain⟨d,n,out⟩:=st
 obtain⟨ha,ho⟩:=a
 simp only at ha ho hl ⊢
 have hU:=ha
 unfold hwC at hU
 have hbH:b<H.length:=(List.getElem?_eq_some_iff.1 ha).1
 have hjH:j<H.length:=(List.getElem?_eq_some_iff.1 hj).1
 rw[callK_in CxB305 CxP305];refine⟨by simp[fn305],?_⟩
 rcases ho with⟨rfl,rfl⟩|⟨h0,i,hi,rfl,hk⟩
 ·simp(disch:=omega)only[go_sem,simprocAttr]
  rw[loop_norm (l:=[0,6,7,8]) rfl]
  simp(disch:=omega)only[go_sem,simprocAttr]
  rw[runK_loop]
  simp(disch:=omega)only[go_sem,simprocAttr,hj,low_app hU]
  rw[loop_norm (l:=[0,6,7,8]) rfl]
  simp(disch:=omega)only[go_sem,simprocAttr]
  rw[runK_loop]
  simp(disch:=omega)only[go_sem,simprocAttr,endK_go]
  refine⟨_,⟨low_app (set_at ha _) _,.inr ⟨by simp,H.length+1,by omega,rfl,?_⟩⟩,Kp.one _ _ 1 _ _⟩
  rw[as_getk]
  rfl
 ·have hiH:i<H.length:=(List.getElem?_eq_some_iff.1 hk).1
  have hij:i≠j:=by
   rintro rfl
   rw[hj]at hk
   simp at hk
  have hUs:=fun l=>low_app (low_set hU (show i≠b by omega) none) l
  simp(disch:=omega)only[go_sem,simprocAttr]
  rw[loop_norm (l:=[0,6,7,8]) rfl]
  simp(disch:=omega)only[go_sem,simprocAttr]
  rw[runK_loop]
  simp(disch:=omega)only[go_sem,simprocAttr,hj,low_app hU,low_app hk,hUs,cM_len,cM_take]
  rw[loop_norm (l:=[0,6,7,8]) rfl]
  simp(disch:=omega)only[go_sem,simprocAttr]
  rw[runK_loop]
  simp(disch:=omega)only[go_sem,simprocAttr,endK_go]
  refine⟨_,⟨set_at (hUs _) _,.inr ⟨by simp,H.length+1,by omega,by rw[List.length_append];rfl,?_⟩⟩,Kp.two _ _ 1 _ _⟩
  rw[List.getElem?_set_ne (by omega),as_getk,cells_app]
  rfl
end
structure Hs.Ok(st:Hs):Prop where
 d:st.d.Ok
 n:0≤st.n∧st.n<256
 out:∀ x∈st.out,x.Ok
section
variable{c h o s y id:Int}{m:Mg}{b:Nat}
theorem hsend2{H:Heap}{st:Hs}{v:A}(a:HAt c h o s y id m b H st v)(hl:st.out.length≤1000){x:Mg} :
  CallK Cx 305 [.ptr b 0,.sl 1 (cM x)] H fun y' K=>y'=.tup []∧∃ v',HAt c h o s y id m b K ⟨st.d,st.n,st.out++[x.by id m.line]⟩ v'∧Kp H K b v v':=by
 obtain⟨d,n,out⟩:=st
 obtain⟨ha,ho⟩:=a
 simp only at ha ho hl ⊢
 have hU:=ha
 unfold hwC at hU
 have hbH:b<H.length:=(List.getElem?_eq_some_iff.1 ha).1
 rw[callK_in CxB305 CxP305];refine⟨by simp[fn305],?_⟩
 rcases ho with⟨rfl,rfl⟩|⟨h0,i,hi,rfl,hk⟩
 ·simp(disch:=omega)only[go_sem,simprocAttr]
  rw[loop_norm (l:=[0,6,7,8]) rfl]
  simp(disch:=omega)only[go_sem,simprocAttr]
  rw[runK_loop]
  simp(disch:=omega)only[go_sem,simprocAttr,low_app hU]
  rw[loop_norm (l:=[0,6,7,8]) rfl]
  simp(disch:=omega)only[go_sem,simprocAttr]
  rw[runK_loop]
  simp(disch:=omega)only[go_sem,simprocAttr,endK_go]
  refine⟨_,⟨low_app (set_at ha _) _,.inr ⟨by simp,H.length+1,by omega,rfl,?_⟩⟩,Kp.one _ _ 1 _ _⟩
  rw[as_getk]
  rfl
 ·have hiH:i<H.length:=(List.getElem?_eq_some_iff.1 hk).1
  have hUs:=fun l=>low_app (low_set hU (show i≠b by omega) none) l
  simp(disch:=omega)only[go_sem,simprocAttr]
  rw[loop_norm (l:=[0,6,7,8]) rfl]
  simp(disch:=omega)only[go_sem,simprocAttr]
  rw[runK_loop]
  simp(disch:=omega)only[go_sem,simprocAttr,low_app hU,low_app hk,hUs,cM_len,cM_take]
  rw[loop_norm (l:=[0,6,7,8]) rfl]
  simp(disch:=omega)only[go_sem,simprocAttr]
  rw[runK_loop]
  simp(disch:=omega)only[go_sem,simprocAttr,endK_go]
  refine⟨_,⟨set_at (hUs _) _,.inr ⟨by simp,H.length+1,by omega,by rw[List.length_append];rfl,?_⟩⟩,Kp.two _ _ 1 _ _⟩
  rw[List.getElem?_set_ne (by omega),as_getk,cells_app]
  rfl
theorem HAt.app{H:Heap}{st:Hs}{v:A}(a:HAt c h o s y id m b H st v)(l:Heap):HAt c h o s y id m b (H++l) st v:=by
 refine⟨low_app a.at_ l,?_⟩
 rcases a.own with h|⟨h0,j,h1,h2,h3⟩
 ·exact .inl h
 ·exact .inr ⟨h0,j,h1,h2,low_app h3 l⟩
theorem HAt.set{H:Heap}{st:Hs}{v:A}(a:HAt c h o s y id m b H st v)(d:Dr)(n:Int):HAt c h o s y id m b (H.set b (some ⟨316,hwC c h o s y id m d n v,true⟩)) ⟨d,n,st.out⟩ v:=by
 refine⟨set_at a.at_ _,?_⟩
 rcases a.own with h|⟨h0,j,h1,h2,h3⟩
 ·exact .inl h
 ·exact .inr ⟨h0,j,h1,h2,low_set h3 (by omega) _⟩
def HAct(c h o s y id:Int)(m:Mg)(b:Nat)(f:FuncId):Prop:=∀(H:Heap) (st:Hs) (v:A),HAt c h o s y id m b H st v→st.Ok→st.out.length≤500 →
 CallK Cx f [.ptr b 0] H fun y' K=>y'=.tup []∧∃ st' v',HAt c h o s y id m b K st' v'∧st'.Ok∧st'.out.length≤st.out.length+4∧Kp H K b v v'
theorem Mg.by_ok{x:Mg}(hx:x.Ok){id line:Int}(hi:0≤id∧id<256)(hl:0≤line∧line<256):(x.by id line).Ok:=⟨hx.kind,hi,hx.dst,hl,hx.asker,hx.acks,hx.d⟩
theorem out_ok{l:List Mg}(h:∀ x∈l,x.Ok){z:Mg}(hz:z.Ok):∀ x∈l++[z],x.Ok:=fun x hx=>by
 rcases List.mem_append.1 hx with hx|hx
 ·exact h x hx
 ·rw[List.mem_singleton.1 hx];exact hz
theorem bv8_rng(x:BitVec 8):0≤(x.toNat:Int)∧(x.toNat:Int)<256:=by
 have:=x.isLt
 omega
theorem d4z:(D4.mk 0 0 0 0).Ok:=⟨by decide,by decide,by decide,by decide⟩
theorem hMem(mo:m.Ok)(hid:0≤id∧id<256):HAct c h o s y id m b 235:=by
 intro H st v a k hl
 have hs:=@hsend2 c h o s y id m b
 obtain⟨d,n,out⟩:=st
 have hU:=a.at_
 unfold hwC at hU
 rw[callK_in CxB235 CxP235];refine⟨by simp[fn235],?_⟩
 simp(disch:=omega)only[go_sem,simprocAttr,hU]
 refine passK_ex (hs a (by simp at hl ⊢;omega) (x:=⟨10,0,m.src,0,0,n,false,d.d⟩)) ?_
 rintro y' K ⟨rfl,v',a',k'⟩
 simp(disch:=omega)only[go_sem,simprocAttr,endK_go]
 exact⟨_,v',a',⟨k.d,k.n,out_ok k.out (Mg.by_ok ⟨by simp,by simp,mo.src,by simp,by simp,k.n,k.d.d⟩ hid mo.line)⟩,by simp,k'⟩
theorem hAlone(mo:m.Ok)(hid:0≤id∧id<256):HAct c h o s y id m b 236:=by
 intro H st v a k hl
 have hs:=@hsend2 c h o s y id m b
 obtain⟨d,n,out⟩:=st
 have hU:=a.at_
 unfold hwC at hU
 rw[callK_in CxB236 CxP236];refine⟨by simp[fn236],?_⟩
 simp(disch:=omega)only[go_sem,simprocAttr,hU]
 refine passK_ex (hs a (by simp at hl ⊢;omega) (x:=⟨10,0,m.src,0,0,n,true,d.d⟩)) ?_
 rintro y' K ⟨rfl,v',a',k'⟩
 simp(disch:=omega)only[go_sem,simprocAttr,endK_go]
 exact⟨_,v',a',⟨k.d,k.n,out_ok k.out (Mg.by_ok ⟨by simp,by simp,mo.src,by simp,by simp,k.n,k.d.d⟩ hid mo.line)⟩,by simp,k'⟩
theorem hGrant(mo:m.Ok)(hid:0≤id∧id<256):HAct c h o s y id m b 239:=by
 intro H st v a k hl
 have hs:=@hsend2 c h o s y id m b
 obtain⟨d,n,out⟩:=st
 have hU:=a.at_
 unfold hwC at hU
 rw[callK_in CxB239 CxP239];refine⟨by simp[fn239],?_⟩
 simp(disch:=omega)only[go_sem,simprocAttr,hU]
 refine passK_ex (hs a (by simp at hl ⊢;omega) (x:=⟨11,0,m.src,0,0,n,false,⟨0,0,0,0⟩⟩)) ?_
 rintro y' K ⟨rfl,v',a',k'⟩
 simp(disch:=omega)only[go_sem,simprocAttr,endK_go]
 exact⟨_,v',a',⟨k.d,k.n,out_ok k.out (Mg.by_ok ⟨by simp,by simp,mo.src,by simp,by simp,k.n,d4z⟩ hid mo.line)⟩,by simp,k'⟩
theorem hBack(mo:m.Ok)(hid:0≤id∧id<256):HAct c h o s y id m b 241:=by
 intro H st v a k hl
 have hbH:b<H.length:=(List.getElem?_eq_some_iff.1 a.at_).1
 obtain⟨d,n,out⟩:=st
 have hU:=a.at_
 unfold hwC at hU
 rw[callK_in CxB241 CxP241];refine⟨by simp[fn241],?_⟩
 simp(disch:=omega)only[go_sem,simprocAttr,hU]
 refine passK_ex (hsend (a.app _) (by simp at hl ⊢;omega) (j:=H.length) (x:=⟨9,0,m.src,0,0,0,false,⟨0,0,0,0⟩⟩) hbH (ap_get0 H _ [])) ?_
 rintro y' K ⟨rfl,v',a',k'⟩
 simp(disch:=omega)only[go_sem,simprocAttr,endK_go]
 exact⟨_,v',a',⟨k.d,k.n,out_ok k.out (Mg.by_ok ⟨by simp,by simp,mo.src,by simp,by simp,by simp,d4z⟩ hid mo.line)⟩,by simp,(Kp.app _).trans k'⟩
theorem hFwdS(mo:m.Ok)(hid:0≤id∧id<256):HAct c h o s y id m b 237:=by
 intro H st v a k hl
 have hs:=@hsend2 c h o s y id m b
 obtain⟨d,n,out⟩:=st
 have hU:=a.at_
 unfold hwC at hU
 rw[callK_in CxB237 CxP237];refine⟨by simp[fn237],?_⟩
 by_cases q:d.owner=255
 ·simp(disch:=omega)only[go_sem,simprocAttr,hU,endK_go]
  exact⟨_,v,a,k,by simp,Kp.refl _ _ _⟩
 ·simp(disch:=omega)only[go_sem,simprocAttr,hU]
  refine passK_ex (hs a (by simp at hl ⊢;omega) (x:=⟨6,0,d.owner,0,m.src,0,false,⟨0,0,0,0⟩⟩)) ?_
  rintro y' K ⟨rfl,v',a',k'⟩
  simp(disch:=omega)only[go_sem,simprocAttr,endK_go]
  exact⟨_,v',a',⟨k.d,k.n,out_ok k.out (Mg.by_ok ⟨by simp,by simp,k.d.owner,by simp,mo.src,by simp,d4z⟩ hid mo.line)⟩,by simp,k'⟩
theorem hFwdM(mo:m.Ok)(hid:0≤id∧id<256):HAct c h o s y id m b 238:=by
 intro H st v a k hl
 have hs:=@hsend2 c h o s y id m b
 obtain⟨d,n,out⟩:=st
 have hU:=a.at_
 unfold hwC at hU
 rw[callK_in CxB238 CxP238];refine⟨by simp[fn238],?_⟩
 by_cases q:d.owner=255
 ·simp(disch:=omega)only[go_sem,simprocAttr,hU,endK_go]
  exact⟨_,v,a,k,by simp,Kp.refl _ _ _⟩
 ·simp(disch:=omega)only[go_sem,simprocAttr,hU]
  refine passK_ex (hs a (by simp at hl ⊢;omega) (x:=⟨7,0,d.owner,0,m.src,n,false,⟨0,0,0,0⟩⟩)) ?_
  rintro y' K ⟨rfl,v',a',k'⟩
  simp(disch:=omega)only[go_sem,simprocAttr,endK_go]
  exact⟨_,v',a',⟨k.d,k.n,out_ok k.out (Mg.by_ok ⟨by simp,by simp,k.d.owner,by simp,mo.src,k.n,d4z⟩ hid mo.line)⟩,by simp,k'⟩
theorem hWrite(mo:m.Ok):HAct c h o s y id m b 240:=by
 intro H st v a k hl
 obtain⟨d,n,out⟩:=st
 have hU:=a.at_
 unfold hwC at hU
 rw[callK_in CxB240 CxP240];refine⟨by simp[fn240],?_⟩
 simp(disch:=omega)only[go_sem,simprocAttr,hU,endK_go]
 exact⟨_,v,HAt.set a ⟨d.state,d.owner,d.kind,d.mask,d.all,d.wait,d.asker,m.d⟩ n,⟨⟨k.d.state,k.d.owner,k.d.kind,k.d.mask,k.d.wait,k.d.asker,mo.d⟩,k.n,k.out⟩,by simp,Kp.set _⟩
theorem hClear:HAct c h o s y id m b 242:=by
 intro H st v a k hl
 obtain⟨d,n,out⟩:=st
 have hU:=a.at_
 unfold hwC at hU
 have hc:=clear_ev d.kind d.mask d.all
 rw[callK_in CxB242 CxP242];refine⟨by simp[fn242],?_⟩
 simp(disch:=omega)only[go_sem,simprocAttr,hU,endK_go,QK.use hc]
 exact⟨_,v,HAt.set a ⟨d.state,d.owner,d.kind,0,false,d.wait,d.asker,d.d⟩ n,⟨⟨k.d.state,k.d.owner,k.d.kind,by simp,k.d.wait,k.d.asker,k.d.d⟩,k.n,k.out⟩,by simp,Kp.set _⟩
theorem hOwn(mo:m.Ok):HAct c h o s y id m b 245:=by
 intro H st v a k hl
 obtain⟨d,n,out⟩:=st
 have hU:=a.at_
 unfold hwC at hU
 rw[callK_in CxB245 CxP245];refine⟨by simp[fn245],?_⟩
 simp(disch:=omega)only[go_sem,simprocAttr,hU,endK_go]
 exact⟨_,v,HAt.set a ⟨d.state,m.src,d.kind,d.mask,d.all,d.wait,d.asker,d.d⟩ n,⟨⟨k.d.state,mo.src,k.d.kind,k.d.mask,k.d.wait,k.d.asker,k.d.d⟩,k.n,k.out⟩,by simp,Kp.set _⟩
theorem hFree:HAct c h o s y id m b 246:=by
 intro H st v a k hl
 obtain⟨d,n,out⟩:=st
 have hU:=a.at_
 unfold hwC at hU
 rw[callK_in CxB246 CxP246];refine⟨by simp[fn246],?_⟩
 simp(disch:=omega)only[go_sem,simprocAttr,hU,endK_go]
 exact⟨_,v,HAt.set a ⟨d.state,255,d.kind,d.mask,d.all,d.wait,d.asker,d.d⟩ n,⟨⟨k.d.state,by simp,k.d.kind,k.d.mask,k.d.wait,k.d.asker,k.d.d⟩,k.n,k.out⟩,by simp,Kp.set _⟩
theorem hBusy(mo:m.Ok):HAct c h o s y id m b 247:=by
 intro H st v a k hl
 obtain⟨d,n,out⟩:=st
 have hU:=a.at_
 unfold hwC at hU
 rw[callK_in CxB247 CxP247];refine⟨by simp[fn247],?_⟩
 have hS:=fun X=>set_at hU X
 simp(disch:=omega)only[go_sem,simprocAttr,hU,hS,set_set,endK_go]
 exact⟨_,v,HAt.set a ⟨d.state,d.owner,d.kind,d.mask,d.all,((BitVec.ofInt 8 d.wait ||| 1#8).toNat:Int),m.src,d.d⟩ n,⟨⟨k.d.state,k.d.owner,k.d.kind,k.d.mask,bv8_rng _,mo.src,k.d.d⟩,k.n,k.out⟩,by simp,Kp.set _⟩
theorem hTwice:HAct c h o s y id m b 248:=by
 intro H st v a k hl
 obtain⟨d,n,out⟩:=st
 have hU:=a.at_
 unfold hwC at hU
 rw[callK_in CxB248 CxP248];refine⟨by simp[fn248],?_⟩
 simp(disch:=omega)only[go_sem,simprocAttr,hU,endK_go]
 exact⟨_,v,HAt.set a ⟨d.state,d.owner,d.kind,d.mask,d.all,((BitVec.ofInt 8 d.wait ||| 2#8).toNat:Int),d.asker,d.d⟩ n,⟨⟨k.d.state,k.d.owner,k.d.kind,k.d.mask,bv8_rng _,k.d.asker,k.d.d⟩,k.n,k.out⟩,by simp,Kp.set _⟩
theorem hNote(mo:m.Ok):HAct c h o s y id m b 243:=by
 intro H st v a k hl
 obtain⟨d,n,out⟩:=st
 have hU:=a.at_
 unfold hwC at hU
 have hsr:=mo.src
 have hn:=note_ev k.d.mask d.kind d.all (c:=m.src.toNat) (by omega)
 rw[Int.toNat_of_nonneg (by omega)]at hn
 rw[callK_in CxB243 CxP243];refine⟨by simp[fn243],?_⟩
 simp(disch:=omega)only[go_sem,simprocAttr,hU,endK_go,QK.use hn]
 exact⟨_,v,HAt.set a ⟨d.state,d.owner,d.kind,(noteF d.kind d.mask d.all m.src.toNat).1,(noteF d.kind d.mask d.all m.src.toNat).2,d.wait,d.asker,d.d⟩ n,⟨⟨k.d.state,k.d.owner,k.d.kind,noteF_lt k.d.mask,k.d.wait,k.d.asker,k.d.d⟩,k.n,k.out⟩,by simp,Kp.set _⟩
end
theorem OwnS.ne{α:Type}{el:TypeId}{sz:Nat}{c:α→List A}{K:Heap}{v:A}{l:List α}{b:Nat}(h:OwnS el sz c K v l b){i:Nat}{e:TypeId}{cs:List A}(hi:K[i]?=some (some ⟨e,cs,true⟩)):∀ n s,v≠.ref i 0 n s:=by
 intro n s e1
 rcases h with⟨-,h⟩|⟨-,j,-,h,hk⟩
 ·rw[h]at e1;cases e1
 ·rw[h]at e1
  cases e1
  rw[hi]at hk
  simp at hk
section
variable{c h o s y id:Int}{m:Mg}{b:Nat}
theorem hBoth:HAct c h o s y id m b 244:=by
 intro H st v a k hl
 obtain⟨d,n,out⟩:=st
 have hU:=a.at_
 unfold hwC at hU
 have hsr:=k.d.owner
 simp only at hsr
 have hn:=note_ev k.d.mask d.kind d.all (c:=d.owner.toNat) (by omega)
 rw[Int.toNat_of_nonneg (by omega)]at hn
 have hS:=fun X=>set_at hU X
 rw[callK_in CxB244 CxP244];refine⟨by simp[fn244],?_⟩
 by_cases q:d.owner=255
 ·simp(disch:=omega)only[go_sem,simprocAttr,hU,endK_go]
  exact⟨_,v,HAt.set a ⟨d.state,255,d.kind,d.mask,d.all,d.wait,d.asker,d.d⟩ n,⟨⟨k.d.state,by simp,k.d.kind,k.d.mask,k.d.wait,k.d.asker,k.d.d⟩,k.n,k.out⟩,by simp,Kp.set _⟩
 ·simp(disch:=omega)only[go_sem,simprocAttr,hU,hS,set_set,QK.use hn,endK_go]
  exact⟨_,v,HAt.set a ⟨d.state,255,d.kind,(noteF d.kind d.mask d.all d.owner.toNat).1,(noteF d.kind d.mask d.all d.owner.toNat).2,d.wait,d.asker,d.d⟩ n,⟨⟨k.d.state,by simp,k.d.kind,noteF_lt k.d.mask,k.d.wait,k.d.asker,k.d.d⟩,k.n,k.out⟩,by simp,Kp.set _⟩
theorem hVisit(mo:m.Ok)(hid:0≤id∧id<256){H:Heap}{st:Hs}{v:A}(a:HAt c h o s y id m b H st v)(k:st.Ok)(hl:st.out.length≤600){bx:Nat}(hbx:bx≠b)(hx:H[bx]?=some (some ⟨358,[.ptr b 0],true⟩)){q:Nat}(hq:q<4) :
  CallK Cx 304 [I8 q,.ptr bx 0] H fun y' K=>y'=.tup []∧∃ st' v',HAt c h o s y id m b K st' v'∧st'.Ok∧st'.out.length≤st.out.length+1∧Kp H K b v v'∧K[bx]?=some (some ⟨358,[.ptr b 0],true⟩):=by
 have hs:=@hsend2 c h o s y id m b
 obtain⟨d,n,out⟩:=st
 have hU:=a.at_
 unfold hwC at hU
 have hn:=u8_rng (n+1)
 rw[callK_in CxB304 CxP304];refine⟨by simp[fn304],?_⟩
 by_cases e1:(q:Int)=m.src
 ·simp(disch:=omega)only[go_sem,simprocAttr,hU,hx,endK_go]
  exact⟨_,v,a,k,by simp,Kp.refl _ _ _⟩
 by_cases e2:(q:Int)=d.owner
 ·simp(disch:=omega)only[go_sem,simprocAttr,hU,hx,endK_go]
  exact⟨_,v,a,k,by simp,Kp.refl _ _ _⟩
 simp(disch:=omega)only[go_sem,simprocAttr,hU,hx]
 refine passK_ex (hs a (by simp at hl ⊢;omega) (x:=⟨8,0,q,0,m.src,0,false,⟨0,0,0,0⟩⟩)) ?_
 rintro y' K ⟨rfl,v',a',k'⟩
 have hx':K[bx]?=some (some ⟨358,[.ptr b 0],true⟩):=(k'.same bx (List.getElem?_eq_some_iff.1 hx).1 hbx (a.own.ne hx)).trans hx
 have hU':=a'.at_
 unfold hwC at hU'
 simp only at hU'
 simp(disch:=omega)only[go_sem,simprocAttr,hU',hx',endK_go]
 exact⟨_,v',HAt.set a' d (IntKind.u8.wrap (n+1)),⟨k.d,hn,out_ok k.out (Mg.by_ok ⟨by simp,by simp,by simp;omega,by simp,mo.src,by simp,d4z⟩ hid mo.line)⟩,by simp,k'.trans (Kp.set _),low_set hx' (Ne.symm hbx) _⟩
theorem each_loop(mo:m.Ok)(hid:0≤id∧id<256){bx:Nat}(hbx:bx≠b)(tl:Nat){H0:Heap}{v0:A}{L:Nat}(hL:L≤500){KK:List It}{Q:Ex→Ev.St→Prop}
  (hE:∀(K:Heap) (st:Hs) (v:A) (e:Env),HAt c h o s y id m b K st v→st.Ok→st.out.length≤L+4→Kp H0 K b v0 v→UnwK Cx (.out 0) KK ⟨e,K⟩ Q) :
  ∀(r q:Nat) (H:Heap) (st:Hs) (v:A),q+r=4→HAt c h o s y id m b H st v→st.Ok→st.out.length≤L+q→Kp H0 H b v0 v→H[bx]?=some (some ⟨358,[.ptr b 0],true⟩) →
   RunK Cx (.code (.loop m303_l0)::KK) ⟨[(1,.clo 304 [] [.ptr bx 0]),(4,W64 tl),(17,I8 q)],H⟩ Q:=by
 intro r
 induction r with
 |zero =>
  intro q H st v hq a k hl kp hx
  obtain rfl:q=4:=by omega
  rw[runK_loop]
  simp(disch:=omega)only[go_sem,simprocAttr]
  exact hE _ _ _ _ a k hl kp
 |succ r ih =>
  intro q H st v hq a k hl kp hx
  have nx:∀(K:Heap) (st':Hs) (v':A),HAt c h o s y id m b K st' v'→st'.Ok→st'.out.length≤st.out.length+1→Kp H K b v v'→K[bx]?=some (some ⟨358,[.ptr b 0],true⟩) →
    RunK Cx (.code (.loop m303_l0)::KK) ⟨[(1,.clo 304 [] [.ptr bx 0]),(4,W64 tl),(17,I8 ((q:Int)+1))],K⟩ Q:=fun K st' v' a' k' hl' kp' hx'=>by
   have:=ih (q+1) K st' v' (by omega) a' k' (by omega) (kp.trans kp') hx'
   simpa only[Int.natCast_add,Int.natCast_one]using this
  rw[runK_loop]
  simp(disch:=omega)only[go_sem,simprocAttr]
  refine runK_bif (fun _=>?_) (fun _=>?_)
  ·simp(disch:=omega)only[go_sem,simprocAttr]
   refine passK_ex (hVisit mo hid a k (by omega) hbx hx (by omega)) ?_
   rintro y' K ⟨rfl,st',v',a',k',hl',kp',hx'⟩
   simp(disch:=omega)only[go_sem,simprocAttr]
   rw[loop_norm (l:=[1,4,17]) rfl]
   simp(disch:=omega)only[go_sem,simprocAttr]
   exact nx _ _ _ a' k' hl' kp' hx'
  ·simp(disch:=omega)only[go_sem,simprocAttr]
   rw[loop_norm (l:=[1,4,17]) rfl]
   simp(disch:=omega)only[go_sem,simprocAttr]
   exact nx _ _ _ a k (by omega) (Kp.refl _ _ _) hx
theorem hInvs(hk:OkG c h o s y)(mo:m.Ok)(hid:0≤id∧id<256):HAct c h o s y id m b 234:=by
 intro H st v a k hl
 have hbH:b<H.length:=(List.getElem?_eq_some_iff.1 a.at_).1
 obtain⟨c1,c2,-⟩:=hk
 have ht:=told_ev (k:=st.d.kind) (a:=st.d.all) (n:=c.toNat) (by omega) (by omega) k.d.mask
 rw[Int.toNat_of_nonneg (by omega)]at ht
 generalize toldF st.d.kind st.d.mask st.d.all c.toNat=tl at ht
 have hU:=low_app a.at_ [some ⟨358,[.ptr b 0],true⟩]
 unfold hwC at hU
 rw[callK_in CxB234 CxP234];refine⟨by simp[fn234],?_⟩
 simp(disch:=omega)only[go_sem,simprocAttr]
 refine passK_ex (G:=fun y' K=>y'=.tup []∧∃ st' v',HAt c h o s y id m b K st' v'∧st'.Ok∧st'.out.length≤st.out.length+4∧Kp H K b v v') ?_ ?_
 ·rw[callK_in CxB303 CxP303];refine⟨by simp[fn303],?_⟩
  simp(disch:=omega)only[go_sem,simprocAttr,hU,QK.use ht]
  rw[loop_norm (l:=[1,4,17]) rfl]
  simp(disch:=omega)only[go_sem,simprocAttr]
  refine each_loop mo hid (bx:=H.length) (by omega) tl hl ?_ 4 0 _ st v rfl (a.app _) k (by omega) (Kp.app _) (ap_get0 H _ [])
  intro K st' v' e a' k' hl' kp'
  simp(disch:=omega)only[go_sem,simprocAttr,endK_go]
  exact⟨_,_,a',k',hl',kp'⟩
 ·rintro y' K ⟨rfl,st',v',a',k',hl',kp'⟩
  simp(disch:=omega)only[go_sem,simprocAttr,endK_go]
  exact⟨_,_,a',k',hl',kp'⟩
end
abbrev eD(d:Dr):A:=.agg (cD d)
attribute [go_sem] eD
theorem proper_ex{c h o s y:Int}(hk:OkG c h o s y)(id:Int){m:Mg}(mo:m.Ok):∃ b,EvQ Cx 192 [encG c h o s y,I8 id,eM m] (Bo b):=by
 have:∃ z,EvQ Cx 192 [encG c h o s y,I8 id,eM m] z∧isBo z:=by
  have hl:=mo.line
  have hs:=mo.src
  have hg:=ghome hk (l:=m.line) (by omega) (by omega)
  obtain⟨c1,c2,h1,h2,-⟩:=hk
  refine evG_of CxB192 rfl (by simp[fn192]) ?_
  simp(disch:=omega)only[go_sem,simprocAttr]
  repeat' (((first|refine runK_bif (fun hb=>?_) (fun hb=>?_)|refine wantK_bif (fun hb=>?_) (fun hb=>?_))<;>(first|subst hb|(have hc:=hb;simp only[decide_eq_true_eq,decide_eq_false_iff_not,beq_iff_eq,beq_eq_false_iff_ne,ne_eq,Int.not_lt]at hc)|skip))<;>(first|simp(disch:=omega)only[go_sem,simprocAttr,hb,QK.use hg]|simp(disch:=omega)only[go_sem,simprocAttr,QK.use hg]))
  all_goals first|exact⟨_,rfl⟩|done
 obtain⟨_,h,b,rfl⟩:=this
 exact⟨b,h⟩
theorem hon_ex(d:Dr)(m:Mg):∃ v b,EvQ Cx 194 [eD d,eM m] (.tup [I8 v,Bo b])∧(0≤v∧v<5):=by
 have:∃ z,EvQ Cx 194 [eD d,eM m] z∧∃ v b,z=.tup [I8 v,Bo b]∧(0≤v∧v<5):=by
  refine evG_of CxB194 rfl (by simp[fn194]) ?_
  simp(disch:=omega)only[go_sem,simprocAttr]
  repeat' (((first|refine runK_bif (fun hb=>?_) (fun hb=>?_)|refine wantK_bif (fun hb=>?_) (fun hb=>?_))<;>(first|subst hb|(have hc:=hb;simp only[beq_iff_eq,beq_eq_false_iff_ne,ne_eq]at hc)|skip))<;>(first|simp(disch:=omega)only[go_sem,simprocAttr,hb]|simp(disch:=omega)only[go_sem,simprocAttr,true_and]))
  all_goals first|exact⟨_,_,rfl,by decide⟩|done
 obtain⟨_,h,v,b,rfl,hv⟩:=this
 exact⟨v,b,h,hv⟩
theorem busy_ex(d:Dr):∃ b,EvQ Cx 195 [eD d] (Bo b):=by
 have:∃ z,EvQ Cx 195 [eD d] z∧isBo z:=by
  refine evG_of CxB195 rfl (by simp[fn195]) ?_
  simp(disch:=omega)only[go_sem,simprocAttr]
  exact⟨_,rfl⟩
 obtain⟨_,h,b,rfl⟩:=this
 exact⟨b,h⟩
theorem refused_ex(r:Int):∃ e:Int,EvQ Cx 196 [I8 r] (I64 e):=by
 have:∃ z,EvQ Cx 196 [I8 r] z∧∃ e:Int,z=I64 e:=by
  refine evG_of CxB196 rfl (by simp[fn196]) ?_
  simp(disch:=omega)only[go_sem,simprocAttr]
  repeat' (((first|refine runK_bif (fun hb=>?_) (fun hb=>?_)|refine wantK_bif (fun hb=>?_) (fun hb=>?_))<;>(first|subst hb|(have hc:=hb;simp only[beq_iff_eq,beq_eq_false_iff_ne,ne_eq]at hc)|skip))<;>(first|simp(disch:=omega)only[go_sem,simprocAttr,hb,true_and]|simp(disch:=omega)only[go_sem,simprocAttr,true_and]))
  all_goals first|exact⟨_,rfl⟩|done
 obtain⟨_,h,b,rfl⟩:=this
 exact⟨b,h⟩
theorem end_ex{d:Dr}(k:d.Ok){m:Mg}(mo:m.Ok):∃ d' e,EvQ Cx 193 [eD d,eM m] (.tup [eD d',.v (.slice none 0 0),I64 e])∧d'.Ok:=by
 have:∃ z,EvQ Cx 193 [eD d,eM m] z∧∃ d' e,z=.tup [eD d',.v (.slice none 0 0),I64 e]∧d'.Ok:=by
  have o1:∀(x:BitVec 8) (q:Int) (dd:D4),(0≤q∧q<256)→dd.Ok→(Dr.mk d.state d.owner d.kind d.mask d.all (x.toNat:Int) q dd).Ok:=fun x q dd hq hd=>⟨k.state,k.owner,k.kind,k.mask,bv8_rng x,hq,hd⟩
  have o2:∀(q:Int) (dd:D4),(0≤q∧q<256)→dd.Ok→(Dr.mk d.state d.owner d.kind d.mask d.all 0 q dd).Ok:=fun q dd hq hd=>⟨k.state,k.owner,k.kind,k.mask,by simp,hq,hd⟩
  refine evG_of CxB193 rfl (by simp[fn193]) ?_
  simp(disch:=omega)only[go_sem,simprocAttr]
  repeat' (((first|refine runK_bif (fun hb=>?_) (fun hb=>?_)|refine wantK_bif (fun hb=>?_) (fun hb=>?_))<;>(first|subst hb|(have hc:=hb;simp only[beq_iff_eq,bne_iff_ne,beq_eq_false_iff_ne,bne_eq_false_iff_eq,Bool.not_eq_eq_eq_not,Bool.not_true,Bool.not_false,ne_eq]at hc)|skip))<;>(first|simp(disch:=omega)only[go_sem,simprocAttr,hb,true_and]|simp(disch:=omega)only[go_sem,simprocAttr,true_and]))
  all_goals first|exact⟨_,_,rfl,k⟩|exact⟨_,_,rfl,o1 _ _ _ k.asker k.d⟩|exact⟨_,_,rfl,o1 _ _ _ k.asker mo.d⟩|exact⟨_,_,rfl,o1 _ _ _ (by simp) k.d⟩|exact⟨_,_,rfl,o1 _ _ _ (by simp) mo.d⟩|exact⟨_,_,rfl,o2 _ _ (by simp) k.d⟩|exact⟨_,_,rfl,o2 _ _ (by simp) mo.d⟩|done
 obtain⟨_,h,d',e,rfl,hd⟩:=this
 exact⟨d',e,h,hd⟩
end Go.Proofs.YtpdphobnchajbaaGreatDoor.Ev
