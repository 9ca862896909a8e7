/- cache: a transition, whole. -/
import Derived.Test.YtpdphobnchajbaaGreatDoorQ34
set_option linter.unusedSimpArgs false
set_option linter.unusedVariables false
namespace Go.Proofs.YtpdphobnchajbaaGreatDoor.Ev
open Go Go.RowKit
set_option maxRecDepth 100000
set_option maxHeartbeats 16000000
theorem vU{t:Tl}(ht:t.Ok){H:aG}{tb:Nat}(hH:H[tb]?=some (some ⟨42,cT9 t,true⟩)){st ev:Int}(hs:0≤st∧st<256)(he:0≤ev∧ev<256) :
  bW Cx 180 [.ptr tb 0,I8 st,I8 ev] H fun y' K=>∃ z e l,y'=.tup [.agg (cE z),I64 e]∧z.Ok∧K=H++l:=by
 obtain⟨_,⟨z,e,rfl,zo⟩,l,h⟩:=aIL ht hH hs he
 exact⟨_,_,h,z,e,l,rfl,zo,rfl⟩
theorem UJ{α:Type}{el:TypeId}{sz:Nat}{c:α→List A}{K:aG}{v:A}{l:List α}{b:Nat}(h:oV el sz c K v l b):eqA v v=true:=by
 rcases h with⟨-,rfl⟩|⟨-,j,-,rfl,-⟩
 ·rfl
 ·simp[eqA]
theorem SK{v':A}{n i:Nat}(h:v'=AY∨∃ j m sz,n≤j∧v'=.ref j 0 m sz)(hi:i<n):∀ m sz,v'≠.ref i 0 m sz:=by
 intro m sz e
 rcases h with h|⟨j,m',sz',hj,h⟩
 ·rw[h]at e;cases e
 ·rw[h]at e;cases e;omega
section
variable{c h o s y id ev:Int}{m:Mg}{dZ:Bool}{b:Nat}
def TrG(H:aG)(b:Nat)(y':A)(K:aG):Prop:=∃(k:Ca) (vs vd:A) (e:Int) (sent:List Mg) (done:List Pf),y'=.tup [eC k,vs,vd,I64 e]∧k.Ok∧oV 60 11 cM K vs sent b∧oV 211 7 cP K vd done b∧(∀ x∈sent,x.Ok)∧(∀ x∈done,x.Ok)∧sent.length≤20∧done.length≤20∧∀ i X,H[i]?=some X→i≠b→K[i]?=some X
theorem nC{t:Tl}(ht:t.Ok)(hk:OkG c h o s y)(mo:m.Ok)(hid:0≤id∧id<256)(hev:0≤ev∧ev<256){H:aG}{tb:Nat}(hT:H[tb]?=some (some ⟨42,cT9 t,true⟩)){k:Ca}{x:Ln}(ko:k.Ok)(xo:x.Ok)
  (a:CAt c h o s y id ev m dZ b H ⟨k,x,false,false,[],[]⟩ AY AY) :
  bW Cx 184 [.ptr tb 0,.ptr b 0] H (TrG H b):=by
 have hU:=a.at_
 unfold cwC at hU
 have hl:=fun l=>aI hU l
 have hta:∀ k,List.take 160 (cC k)=cC k:=fun k=>List.take_of_length_le (by rw[aY];omega)
 have hdr:∀ k,List.drop 160 (cC k)=[]:=fun k=>List.drop_eq_nil_of_le (by rw[aY];omega)
 rw[aP a2y aZF];refine⟨by simp[JH],?_⟩
 simp(disch:=omega)only[go_sem,simprocAttr,hl,List.flatten_cons,List.flatten_nil]
 refine aM (vU ht (aI hT _) xo.state hev) ?_
 rintro y' K ⟨z,e,l,rfl,zo,rfl⟩
 by_cases qe:e=0
 case neg =>
  simp(disch:=omega)only[go_sem,simprocAttr,hta,eH qe,aE]
  refine⟨k,AY,AY,e,[],[],rfl,ko,.inl ⟨rfl,rfl⟩,.inl ⟨rfl,rfl⟩,by simp,by simp,by simp,by simp,fun i X hi _=>?_⟩
  first|exact aI hi _|(have:=(List.getElem?_eq_some_iff.1 hi).1;rw[List.getElem?_append_left (by simp;omega),List.getElem?_set_ne (by omega)];exact aI hi _)|done
 subst qe
 simp(disch:=omega)only[go_sem,simprocAttr,QK.use aIE]
 rw[aB (l:=[1,4,8,9,36,37]) rfl]
 simp(disch:=omega)only[go_sem,simprocAttr]
 have hbH:b<H.length:=(List.getElem?_eq_some_iff.1 hU).1
 refine XF hk mo hid (a.app _) ⟨ko,xo,by simp,by simp⟩ (by simp) (by simp) (z:=z) ?_ ?_ zo ?_
 ·rw[aZ,List.getElem?_cons_succ,List.getElem?_cons_succ,e9]
 ·omega
 ·intro K w' vs vd F
  have f0:=F.same (e9 H _ _) (by omega)
  have f1:=F.same ((aZ H _ 1).trans rfl) (by omega)
  have g9:=F.same (i:=H.length+(l.length+1+1)) (by rw[aZ,List.getElem?_cons_succ,List.getElem?_cons_succ,e9]) (by omega)
  have hta:∀ k,List.take 160 (cC k)=cC k:=fun k=>List.take_of_length_le (by rw[aY];omega)
  have hdr:∀ k,List.drop 160 (cC k)=[]:=fun k=>List.drop_eq_nil_of_le (by rw[aY];omega)
  simp(disch:=omega)only[go_sem,simprocAttr,g9]
  refine aM (Y3 hk F.at_ F.ok zo.to) ?_
  rintro y' K2 ⟨e,rfl,w2,a2,k2,s2,d2,q2⟩
  have f0':=(q2.same _ (List.getElem?_eq_some_iff.1 f0).1 (by omega) (F.at_.sent.ne f0) (F.at_.done.ne f0)).trans f0
  have f1':=(q2.same _ (List.getElem?_eq_some_iff.1 f1).1 (by omega) (F.at_.sent.ne f1) (F.at_.done.ne f1)).trans f1
  have h2:=a2.at_
  unfold cwC at h2
  have hs0:=fun X=>bU f0' X
  have es:=UJ F.at_.sent
  have ed:=UJ F.at_.done
  have h2':=fun X=>aO h2 (show H.length≠b by omega) X
  have stay:∀ X i Y,H[i]?=some Y→i≠b→(K2.set H.length X)[i]?=some Y:=fun X i Y hi hb=>by
   have:=(List.getElem?_eq_some_iff.1 hi).1
   have f2:=F.same (aI hi _) hb
   rw[List.getElem?_set_ne (by omega)]
   exact(q2.same _ (List.getElem?_eq_some_iff.1 f2).1 hb (SK F.kq.s (by simp;omega)) (SK F.kq.d (by simp;omega))).trans f2
  by_cases qe:e=0
  ·subst qe
   simp(disch:=omega)only[go_sem,simprocAttr,f0',h2,h2',hs0,es,ed,hta,List.flatten_cons,List.flatten_nil,aE]
   exact⟨w2.k,vs,vd,0,w2.sent,w2.done,rfl,k2.k,a2.sent.set (a2.sent.ne f0') _,a2.done.set (a2.done.ne f0') _,k2.sent,k2.done,by rw[s2];exact F.sent,by rw[d2];exact F.done,stay _⟩
  ·simp(disch:=omega)only[go_sem,simprocAttr,eH qe,f0',f1',hs0,hta,List.flatten_cons,List.flatten_nil,aE]
   exact⟨k,AY,AY,e,[],[],rfl,ko,.inl ⟨rfl,rfl⟩,.inl ⟨rfl,rfl⟩,by simp,by simp,by simp,by simp,stay _⟩
end
def mW(v:A):Prop:=v=.v (.slice none 0 0)∨∃ l:List Pf,v=.sl l.length (cells cP l)∧(∀ x∈l,x.Ok)∧l.length≤200
theorem qA(H:aG)(n:Nat):∀ l:List Pf,bQ (freeze H (n+1)) (cells cP l)=some (cells cP l)
 |[]=>rfl
 |x::l=>by
  simp only[cells,List.cons_append,List.nil_append,cV,qY,qA H n l]
section
variable{c h o s y:Int}
theorem EZ(hk:OkG c h o s y){id:Int}(hid:0≤id∧id≤255):EvQ Cx 177 [fR c h o s y,I8 id] (Bo (decide (id<c))):=by
 have hR:=gQ hk
 have hI:=LI hk hid.1 hid.2
 refine aX aTy rfl (by simp[IR]) ?_
 simp(disch:=omega)only[go_sem,simprocAttr,QK.use hR,QK.use hI]
theorem y5(hk:OkG c h o s y){k:Ca}(ko:k.Ok){l:Int}(l0:0≤l)(l1:l≤255) :
  ∃ x b,EvQ Cx 179 [fR c h o s y,eC k,I8 l] (.tup [eL x,Bo b])∧x.Ok:=by
 have:∃ z,EvQ Cx 179 [fR c h o s y,eC k,I8 l] z∧∃ x b,z=.tup [eL x,Bo b]∧x.Ok:=by
  have hG:=aCF hk k l0 l1
  have hta:∀ k,List.take 160 (cC k)=cC k:=fun k=>List.take_of_length_le (by rw[aY];omega)
  refine cA aU1 rfl (by simp[H8]) ?_
  cases hf:k.find s y l with
  |none =>
   rw[hf]at hG
   simp only at hG
   simp(disch:=omega)only[go_sem,simprocAttr,hta,QK.use hG]
   exact⟨⟨l,0,0,false,⟨0,0,0,0⟩⟩,_,rfl,⟨⟨l0,by simp;omega⟩,by simp,by simp,⟨by simp,by simp,by simp,by simp⟩⟩⟩
  |some w =>
   rw[hf]at hG
   simp only at hG
   simp(disch:=omega)only[go_sem,simprocAttr,hta,QK.use hG]
   obtain⟨-,hw,-⟩:=mG _ _ _ _ _ hf
   obtain⟨c1,c2,h1,h2,o1,o2,s1,s2,y1,y2⟩:=id hk
   have d2:=Int.emod_lt_of_pos l (show 0<s by omega)
   exact⟨_,_,rfl,ko.W _ _ (by omega) (by omega)⟩
 obtain⟨_,h,x,b,rfl,hx⟩:=this
 exact⟨x,b,h,hx⟩
theorem aOZ{x:Ln}(xo:x.Ok){m:Mg}(mo:m.Ok):∃ x' v b,EvQ Cx 191 [eL x,eM m] (.tup [eL x',I8 v,Bo b])∧x'.Ok∧(0≤v∧v<256):=by
 obtain⟨x',v,b,h,k,hv,-⟩:=a99 xo mo
 exact⟨x',v,b,h,k,by omega⟩
theorem aHT{t:Tl}(ht:t.Ok)(hk:OkG c h o s y){id:Int}(hid:0≤id∧id<256){k:Ca}(ko:k.Ok){m:Mg}(mo:m.Ok) :
  ∃ k' out done e,EvQ Cx 120 [.agg (cT9 t),fR c h o s y,I8 id,eC k,eM m] (.tup [eC k',out,done,I64 e])∧k'.Ok∧mM out∧mW done:=by
 have:∃ z,EvQ Cx 120 [.agg (cT9 t),fR c h o s y,I8 id,eC k,eM m] z∧∃ k' out done e,z=.tup [eC k',out,done,I64 e]∧k'.Ok∧mM out∧mW done:=by
  have hO:=EZ hk (id:=id) ⟨hid.1,by omega⟩
  have hL:=u7 hk
  have ml:=mo.line
  obtain⟨x,b1,hF,xo⟩:=y5 hk ko (l:=m.line) ml.1 (by omega)
  obtain⟨x1,v,b2,hN,x1o,hv⟩:=aOZ xo mo
  have h1:=oJ t
  have hlen:=d7 ht
  have hta:∀ k,List.take 160 (cC k)=cC k:=fun k=>List.take_of_length_le (by rw[aY];omega)
  have hdr:∀ k,List.drop 160 (cC k)=[]:=fun k=>List.drop_eq_nil_of_le (by rw[aY];omega)
  refine cA aZf rfl (by simp[L3]) ?_
  by_cases q0:id<c
  case neg =>
   simp(disch:=omega)only[go_sem,simprocAttr,h1,hta,List.flatten_cons,List.flatten_nil,QK.use hO]
   exact⟨k,_,_,_,rfl,ko,.inl rfl,.inl rfl⟩
  by_cases q1:m.dst=id
  case neg =>
   simp(disch:=omega)only[go_sem,simprocAttr,h1,hta,List.flatten_cons,List.flatten_nil,QK.use hO,eH q1]
   exact⟨k,_,_,_,rfl,ko,.inl rfl,.inl rfl⟩
  subst q1
  by_cases q2:5/o+1≤m.line
  case pos =>
   simp(disch:=omega)only[go_sem,simprocAttr,h1,hta,List.flatten_cons,List.flatten_nil,QK.use hO,QK.use hL]
   exact⟨k,_,_,_,rfl,ko,.inl rfl,.inl rfl⟩
  cases b2 with
  |false =>
   simp(disch:=omega)only[go_sem,simprocAttr,h1,hta,List.flatten_cons,List.flatten_nil,QK.use hO,QK.use hL,QK.use hF,QK.use hN]
   exact⟨k,_,_,_,rfl,ko,.inl rfl,.inl rfl⟩
  |true =>
   simp(disch:=omega)only[go_sem,simprocAttr,h1,hta,List.flatten_cons,List.flatten_nil,QK.use hO,QK.use hL,QK.use hF,QK.use hN,aK vM uV]
   refine aM (nC ht hk mo hid hv (tb:=0) (b:=9) rfl ko x1o ⟨rfl,.inl ⟨rfl,rfl⟩,.inl ⟨rfl,rfl⟩⟩) ?_
   rintro y' K ⟨k2,vs,vd,e,sent,done,rfl,ko2,os,od,so,dn,ls,ld,st⟩
   have g4:=st 4 _ rfl (by decide)
   have s4:=fun X=>bU g4 X
   rcases os with⟨h0,rfl⟩|⟨h0,q,hq,rfl,hqk⟩<;>rcases od with⟨d0,rfl⟩|⟨d0,p,hp,rfl,hpk⟩
   ·simp(disch:=omega)only[go_sem,simprocAttr,g4,s4,hta,List.flatten_cons,List.flatten_nil]
    exact⟨k2,_,_,_,rfl,ko2,.inl rfl,.inl rfl⟩
   ·have sp:=fun X=>aO hpk (show 4≠p by omega) X
    simp(disch:=omega)only[go_sem,simprocAttr,g4,s4,sp,hta,List.flatten_cons,List.flatten_nil,iE,jA,qA]
    exact⟨k2,_,_,_,rfl,ko2,.inl rfl,.inr ⟨_,rfl,dn,by omega⟩⟩
   ·have sq:=fun X=>aO hqk (show 4≠q by omega) X
    simp(disch:=omega)only[go_sem,simprocAttr,g4,s4,sq,hta,List.flatten_cons,List.flatten_nil,cY,dG,jI]
    exact⟨k2,_,_,_,rfl,ko2,.inr ⟨_,rfl,so,by omega⟩,.inl rfl⟩
   ·have sp:=fun X=>aO hpk (show 4≠p by omega) X
    have sq:=fun X=>aO hqk (show 4≠q by omega) X
    simp(disch:=omega)only[go_sem,simprocAttr,g4,s4,sp,sq,hta,List.flatten_cons,List.flatten_nil,cY,dG,jI,iE,jA,qA]
    exact⟨k2,_,_,_,rfl,ko2,.inr ⟨_,rfl,so,by omega⟩,.inr ⟨_,rfl,dn,by omega⟩⟩
 obtain⟨_,h,k',out,done,e,rfl,hd⟩:=this
 exact⟨k',out,done,e,h,hd⟩
def Y6:Mg:=⟨0,0,0,0,0,0,false,⟨0,0,0,0⟩⟩
theorem uP:Y6.Ok:=by constructor<;>first|decide|(constructor<;>decide)
theorem XS{t:Tl}(ht:t.Ok)(hk:OkG c h o s y){id:Int}(hid:0≤id∧id<256){k:Ca}(ko:k.Ok){l:Int}(hl:0≤l∧l≤255) :
  ∃ k' out e,EvQ Cx 115 [.agg (cT9 t),fR c h o s y,I8 id,eC k,I8 l] (.tup [eC k',out,I64 e])∧k'.Ok∧mM out:=by
 have:∃ z,EvQ Cx 115 [.agg (cT9 t),fR c h o s y,I8 id,eC k,I8 l] z∧∃ k' out e,z=.tup [eC k',out,I64 e]∧k'.Ok∧mM out:=by
  have hO:=EZ hk (id:=id) ⟨hid.1,by omega⟩
  have hL:=u7 hk
  obtain⟨x,b1,hF,xo⟩:=y5 hk ko (l:=l) hl.1 hl.2
  have h1:=oJ t
  have hlen:=d7 ht
  have hta:∀ k,List.take 160 (cC k)=cC k:=fun k=>List.take_of_length_le (by rw[aY];omega)
  have hdr:∀ k,List.drop 160 (cC k)=[]:=fun k=>List.drop_eq_nil_of_le (by rw[aY];omega)
  refine cA aRA rfl (by simp[IW]) ?_
  by_cases q0:id<c
  case neg =>
   simp(disch:=omega)only[go_sem,simprocAttr,h1,hta,List.flatten_cons,List.flatten_nil,QK.use hO]
   exact⟨k,_,_,rfl,ko,.inl rfl⟩
  by_cases q2:5/o+1≤l
  case pos =>
   simp(disch:=omega)only[go_sem,simprocAttr,h1,hta,List.flatten_cons,List.flatten_nil,QK.use hO,QK.use hL]
   exact⟨k,_,_,rfl,ko,.inl rfl⟩
  simp(disch:=omega)only[go_sem,simprocAttr,h1,hta,List.flatten_cons,List.flatten_nil,QK.use hO,QK.use hL,QK.use hF,aK vM uV]
  refine aM (nC (m:=Y6) (dZ:=false) ht hk uP hid (by decide) (tb:=0) (b:=8) rfl ko xo ⟨rfl,.inl ⟨rfl,rfl⟩,.inl ⟨rfl,rfl⟩⟩) ?_
  rintro y' K ⟨k2,vs,vd,e,sent,done,rfl,ko2,os,od,so,dn,ls,ld,st⟩
  have g3:=st 3 _ rfl (by decide)
  have a3:=fun l=>aI g3 l
  have s3:=fun X l=>aI (bU g3 X) l
  have h3:3<K.length:=(List.getElem?_eq_some_iff.1 g3).1
  rcases os with⟨h0,rfl⟩|⟨h0,q,hq,rfl,hqk⟩
  ·simp(disch:=omega)only[go_sem,simprocAttr,a3,s3,hta,List.flatten_cons,List.flatten_nil]
   exact⟨k2,_,_,rfl,ko2,.inl rfl⟩
  ·have sq:=fun X l=>aI (aO hqk (show 3≠q by omega) X) l
   simp(disch:=omega)only[go_sem,simprocAttr,a3,s3,sq,hta,List.flatten_cons,List.flatten_nil,cY,dG,jI]
   exact⟨k2,_,_,rfl,ko2,.inr ⟨_,rfl,so,by omega⟩⟩
 obtain⟨_,h,k',out,e,rfl,hd⟩:=this
 exact⟨k',out,e,h,hd⟩
end
end Go.Proofs.YtpdphobnchajbaaGreatDoor.Ev
