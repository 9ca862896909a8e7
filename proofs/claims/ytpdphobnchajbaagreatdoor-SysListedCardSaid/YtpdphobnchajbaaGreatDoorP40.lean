/- cache: a transition, whole. -/
import Derived.Test.YtpdphobnchajbaaGreatDoorP39
set_option linter.unusedSimpArgs false
set_option linter.unusedVariables false
namespace Go.Proofs.YtpdphobnchajbaaGreatDoor.Ev
open Go Go.RowKit
set_option maxRecDepth 100000
set_option maxHeartbeats 16000000
theorem rule_call{t:Tl}(ht:t.Ok){H:Heap}{tb:Nat}(hH:H[tb]?=some (some ⟨42,cT9 t,true⟩)){st ev:Int}(hs:0≤st∧st<256)(he:0≤ev∧ev<256) :
  CallK Cx 180 [.ptr tb 0,I8 st,I8 ev] H fun y' K=>∃ z e l,y'=.tup [.agg (cE z),I64 e]∧z.Ok∧K=H++l:=by
 obtain⟨_,⟨z,e,rfl,zo⟩,l,h⟩:=rule_ex ht hH hs he
 exact⟨_,_,h,z,e,l,rfl,zo,rfl⟩
theorem eqA_own{α:Type}{el:TypeId}{sz:Nat}{c:α→List A}{K:Heap}{v:A}{l:List α}{b:Nat}(h:OwnS el sz c K v l b):eqA v v=true:=by
 rcases h with⟨-,rfl⟩|⟨-,j,-,rfl,-⟩
 ·rfl
 ·simp[eqA]
theorem ref_new{v':A}{n i:Nat}(h:v'=nilS∨∃ j m sz,n≤j∧v'=.ref j 0 m sz)(hi:i<n):∀ m sz,v'≠.ref i 0 m sz:=by
 intro m sz e
 rcases h with h|⟨j,m',sz',hj,h⟩
 ·rw[h]at e;cases e
 ·rw[h]at e;cases e;omega
section
variable{c h o s y id ev:Int}{m:Mg}{told:Bool}{b:Nat}
def TrG(H:Heap)(b:Nat)(y':A)(K:Heap):Prop:=∃(k:Ca) (vs vd:A) (e:Int) (sent:List Mg) (done:List Pf),y'=.tup [eC k,vs,vd,I64 e]∧k.Ok∧OwnS 60 11 cM K vs sent b∧OwnS 211 7 cP K vd done b∧(∀ x∈sent,x.Ok)∧(∀ x∈done,x.Ok)∧sent.length≤20∧done.length≤20∧∀ i X,H[i]?=some X→i≠b→K[i]?=some X
theorem trans_ex{t:Tl}(ht:t.Ok)(hk:OkG c h o s y)(mo:m.Ok)(hid:0≤id∧id<256)(hev:0≤ev∧ev<256){H:Heap}{tb:Nat}(hT:H[tb]?=some (some ⟨42,cT9 t,true⟩)){k:Ca}{x:Ln}(ko:k.Ok)(xo:x.Ok)
  (a:CAt c h o s y id ev m told b H ⟨k,x,false,false,[],[]⟩ nilS nilS) :
  CallK Cx 184 [.ptr tb 0,.ptr b 0] H (TrG H b):=by
 have hU:=a.at_
 unfold cwC at hU
 have hl:=fun l=>low_app hU l
 have hta:∀ k,List.take 160 (cC k)=cC k:=fun k=>List.take_of_length_le (by rw[cC_len];omega)
 have hdr:∀ k,List.drop 160 (cC k)=[]:=fun k=>List.drop_eq_nil_of_le (by rw[cC_len];omega)
 rw[callK_in CxB184 CxP184];refine⟨by simp[fn184],?_⟩
 simp(disch:=omega)only[go_sem,simprocAttr,hl,List.flatten_cons,List.flatten_nil]
 refine passK_ex (rule_call ht (low_app hT _) xo.state hev) ?_
 rintro y' K ⟨z,e,l,rfl,zo,rfl⟩
 by_cases qe:e=0
 case neg =>
  simp(disch:=omega)only[go_sem,simprocAttr,hta,bne_yes qe,endK_back]
  refine⟨k,nilS,nilS,e,[],[],rfl,ko,.inl ⟨rfl,rfl⟩,.inl ⟨rfl,rfl⟩,by simp,by simp,by simp,by simp,fun i X hi _=>?_⟩
  first|exact low_app hi _|(have:=(List.getElem?_eq_some_iff.1 hi).1;rw[List.getElem?_append_left (by simp;omega),List.getElem?_set_ne (by omega)];exact low_app hi _)|done
 subst qe
 simp(disch:=omega)only[go_sem,simprocAttr,QK.use acts_ev]
 rw[loop_norm (l:=[1,4,8,9,36,37]) rfl]
 simp(disch:=omega)only[go_sem,simprocAttr]
 have hbH:b<H.length:=(List.getElem?_eq_some_iff.1 hU).1
 refine acts_loop hk mo hid (a.app _) ⟨ko,xo,by simp,by simp⟩ (by simp) (by simp) (z:=z) ?_ ?_ zo ?_
 ·rw[ap_getk',List.getElem?_cons_succ,List.getElem?_cons_succ,ap_get0]
 ·omega
 ·intro K w' vs vd F
  have f0:=F.same (ap_get0 H _ _) (by omega)
  have f1:=F.same ((ap_getk' H _ 1).trans rfl) (by omega)
  have g9:=F.same (i:=H.length+(l.length+1+1)) (by rw[ap_getk',List.getElem?_cons_succ,List.getElem?_cons_succ,ap_get0]) (by omega)
  have hta:∀ k,List.take 160 (cC k)=cC k:=fun k=>List.take_of_length_le (by rw[cC_len];omega)
  have hdr:∀ k,List.drop 160 (cC k)=[]:=fun k=>List.drop_eq_nil_of_le (by rw[cC_len];omega)
  simp(disch:=omega)only[go_sem,simprocAttr,g9]
  refine passK_ex (finish_ex hk F.at_ F.ok zo.to) ?_
  rintro y' K2 ⟨e,rfl,w2,a2,k2,s2,d2,q2⟩
  have f0':=(q2.same _ (List.getElem?_eq_some_iff.1 f0).1 (by omega) (F.at_.sent.ne f0) (F.at_.done.ne f0)).trans f0
  have f1':=(q2.same _ (List.getElem?_eq_some_iff.1 f1).1 (by omega) (F.at_.sent.ne f1) (F.at_.done.ne f1)).trans f1
  have h2:=a2.at_
  unfold cwC at h2
  have hs0:=fun X=>set_at f0' X
  have es:=eqA_own F.at_.sent
  have ed:=eqA_own F.at_.done
  have h2':=fun X=>low_set h2 (show H.length≠b by omega) X
  have stay:∀ X i Y,H[i]?=some Y→i≠b→(K2.set H.length X)[i]?=some Y:=fun X i Y hi hb=>by
   have:=(List.getElem?_eq_some_iff.1 hi).1
   have f2:=F.same (low_app hi _) hb
   rw[List.getElem?_set_ne (by omega)]
   exact(q2.same _ (List.getElem?_eq_some_iff.1 f2).1 hb (ref_new F.kq.s (by simp;omega)) (ref_new F.kq.d (by simp;omega))).trans f2
  by_cases qe:e=0
  ·subst qe
   simp(disch:=omega)only[go_sem,simprocAttr,f0',h2,h2',hs0,es,ed,hta,List.flatten_cons,List.flatten_nil,endK_back]
   exact⟨w2.k,vs,vd,0,w2.sent,w2.done,rfl,k2.k,a2.sent.set (a2.sent.ne f0') _,a2.done.set (a2.done.ne f0') _,k2.sent,k2.done,by rw[s2];exact F.sent,by rw[d2];exact F.done,stay _⟩
  ·simp(disch:=omega)only[go_sem,simprocAttr,bne_yes qe,f0',f1',hs0,hta,List.flatten_cons,List.flatten_nil,endK_back]
   exact⟨k,nilS,nilS,e,[],[],rfl,ko,.inl ⟨rfl,rfl⟩,.inl ⟨rfl,rfl⟩,by simp,by simp,by simp,by simp,stay _⟩
end
def isDone(v:A):Prop:=v=.v (.slice none 0 0)∨∃ l:List Pf,v=.sl l.length (cells cP l)∧(∀ x∈l,x.Ok)∧l.length≤200
theorem cP_fz(H:Heap)(n:Nat):∀ l:List Pf,mapO (freeze H (n+1)) (cells cP l)=some (cells cP l)
 |[]=>rfl
 |x::l=>by
  simp only[cells,List.cons_append,List.nil_append,mapO_cons,fz_v,cP_fz H n l]
section
variable{c h o s y:Int}
theorem owns_ev(hk:OkG c h o s y){id:Int}(hid:0≤id∧id≤255):EvQ Cx 177 [encG c h o s y,I8 id] (Bo (decide (id<c))):=by
 have hR:=gright_yes hk
 have hI:=giscache hk hid.1 hid.2
 refine evQ_of CxB177 rfl (by simp[fn177]) ?_
 simp(disch:=omega)only[go_sem,simprocAttr,QK.use hR,QK.use hI]
theorem found_ex(hk:OkG c h o s y){k:Ca}(ko:k.Ok){l:Int}(l0:0≤l)(l1:l≤255) :
  ∃ x b,EvQ Cx 179 [encG c h o s y,eC k,I8 l] (.tup [eL x,Bo b])∧x.Ok:=by
 have:∃ z,EvQ Cx 179 [encG c h o s y,eC k,I8 l] z∧∃ x b,z=.tup [eL x,Bo b]∧x.Ok:=by
  have hG:=get_ev hk k l0 l1
  have hta:∀ k,List.take 160 (cC k)=cC k:=fun k=>List.take_of_length_le (by rw[cC_len];omega)
  refine evG_of CxB179 rfl (by simp[fn179]) ?_
  cases hf:k.find s y l with
  |none =>
   rw[hf]at hG
   simp only at hG
   simp(disch:=omega)only[go_sem,simprocAttr,hta,QK.use hG]
   exact⟨⟨l,0,0,false,⟨0,0,0,0⟩⟩,_,rfl,⟨⟨l0,by simp;omega⟩,by simp,by simp,⟨by simp,by simp,by simp,by simp⟩⟩⟩
  |some w =>
   rw[hf]at hG
   simp only at hG
   simp(disch:=omega)only[go_sem,simprocAttr,hta,QK.use hG]
   obtain⟨-,hw,-⟩:=findP_lt _ _ _ _ _ hf
   obtain⟨c1,c2,h1,h2,o1,o2,s1,s2,y1,y2⟩:=id hk
   have d2:=Int.emod_lt_of_pos l (show 0<s by omega)
   exact⟨_,_,rfl,ko.W _ _ (by omega) (by omega)⟩
 obtain⟨_,h,x,b,rfl,hx⟩:=this
 exact⟨x,b,h,hx⟩
theorem on_ex'{x:Ln}(xo:x.Ok){m:Mg}(mo:m.Ok):∃ x' v b,EvQ Cx 191 [eL x,eM m] (.tup [eL x',I8 v,Bo b])∧x'.Ok∧(0≤v∧v<256):=by
 obtain⟨x',v,b,h,k,hv,-⟩:=on_ex xo mo
 exact⟨x',v,b,h,k,by omega⟩
theorem cget_ex{t:Tl}(ht:t.Ok)(hk:OkG c h o s y){id:Int}(hid:0≤id∧id<256){k:Ca}(ko:k.Ok){m:Mg}(mo:m.Ok) :
  ∃ k' out done e,EvQ Cx 120 [.agg (cT9 t),encG c h o s y,I8 id,eC k,eM m] (.tup [eC k',out,done,I64 e])∧k'.Ok∧isOut out∧isDone done:=by
 have:∃ z,EvQ Cx 120 [.agg (cT9 t),encG c h o s y,I8 id,eC k,eM m] z∧∃ k' out done e,z=.tup [eC k',out,done,I64 e]∧k'.Ok∧isOut out∧isDone done:=by
  have hO:=owns_ev hk (id:=id) ⟨hid.1,by omega⟩
  have hL:=glines hk
  have ml:=mo.line
  obtain⟨x,b1,hF,xo⟩:=found_ex hk ko (l:=m.line) ml.1 (by omega)
  obtain⟨x1,v,b2,hN,x1o,hv⟩:=on_ex' xo mo
  have h1:=cT_one t
  have hlen:=cT_size ht
  have hta:∀ k,List.take 160 (cC k)=cC k:=fun k=>List.take_of_length_le (by rw[cC_len];omega)
  have hdr:∀ k,List.drop 160 (cC k)=[]:=fun k=>List.drop_eq_nil_of_le (by rw[cC_len];omega)
  refine evG_of CxB120 rfl (by simp[fn120]) ?_
  by_cases q0:id<c
  case neg =>
   simp(disch:=omega)only[go_sem,simprocAttr,h1,hta,List.flatten_cons,List.flatten_nil,QK.use hO]
   exact⟨k,_,_,_,rfl,ko,.inl rfl,.inl rfl⟩
  by_cases q1:m.dst=id
  case neg =>
   simp(disch:=omega)only[go_sem,simprocAttr,h1,hta,List.flatten_cons,List.flatten_nil,QK.use hO,bne_yes q1]
   exact⟨k,_,_,_,rfl,ko,.inl rfl,.inl rfl⟩
  subst q1
  by_cases q2:5/o+1≤m.line
  case pos =>
   simp(disch:=omega)only[go_sem,simprocAttr,h1,hta,List.flatten_cons,List.flatten_nil,QK.use hO,QK.use hL]
   exact⟨k,_,_,_,rfl,ko,.inl rfl,.inl rfl⟩
  cases b2 with
  |false =>
   simp(disch:=omega)only[go_sem,simprocAttr,h1,hta,List.flatten_cons,List.flatten_nil,QK.use hO,QK.use hL,QK.use hF,QK.use hN]
   exact⟨k,_,_,_,rfl,ko,.inl rfl,.inl rfl⟩
  |true =>
   simp(disch:=omega)only[go_sem,simprocAttr,h1,hta,List.flatten_cons,List.flatten_nil,QK.use hO,QK.use hL,QK.use hF,QK.use hN,passK_in CxB185 CxP185]
   refine passK_ex (trans_ex ht hk mo hid hv (tb:=0) (b:=9) rfl ko x1o ⟨rfl,.inl ⟨rfl,rfl⟩,.inl ⟨rfl,rfl⟩⟩) ?_
   rintro y' K ⟨k2,vs,vd,e,sent,done,rfl,ko2,os,od,so,dn,ls,ld,st⟩
   have g4:=st 4 _ rfl (by decide)
   have s4:=fun X=>set_at g4 X
   rcases os with⟨h0,rfl⟩|⟨h0,q,hq,rfl,hqk⟩<;>rcases od with⟨d0,rfl⟩|⟨d0,p,hp,rfl,hpk⟩
   ·simp(disch:=omega)only[go_sem,simprocAttr,g4,s4,hta,List.flatten_cons,List.flatten_nil]
    exact⟨k2,_,_,_,rfl,ko2,.inl rfl,.inl rfl⟩
   ·have sp:=fun X=>low_set hpk (show 4≠p by omega) X
    simp(disch:=omega)only[go_sem,simprocAttr,g4,s4,sp,hta,List.flatten_cons,List.flatten_nil,cP_len,cP_take,cP_fz]
    exact⟨k2,_,_,_,rfl,ko2,.inl rfl,.inr ⟨_,rfl,dn,by omega⟩⟩
   ·have sq:=fun X=>low_set hqk (show 4≠q by omega) X
    simp(disch:=omega)only[go_sem,simprocAttr,g4,s4,sq,hta,List.flatten_cons,List.flatten_nil,cM_len,cM_take,cM_fz]
    exact⟨k2,_,_,_,rfl,ko2,.inr ⟨_,rfl,so,by omega⟩,.inl rfl⟩
   ·have sp:=fun X=>low_set hpk (show 4≠p by omega) X
    have sq:=fun X=>low_set hqk (show 4≠q by omega) X
    simp(disch:=omega)only[go_sem,simprocAttr,g4,s4,sp,sq,hta,List.flatten_cons,List.flatten_nil,cM_len,cM_take,cM_fz,cP_len,cP_take,cP_fz]
    exact⟨k2,_,_,_,rfl,ko2,.inr ⟨_,rfl,so,by omega⟩,.inr ⟨_,rfl,dn,by omega⟩⟩
 obtain⟨_,h,k',out,done,e,rfl,hd⟩:=this
 exact⟨k',out,done,e,h,hd⟩
def noMg:Mg:=⟨0,0,0,0,0,0,false,⟨0,0,0,0⟩⟩
theorem noMg_ok:noMg.Ok:=by constructor<;>first|decide|(constructor<;>decide)
theorem cevict_ex{t:Tl}(ht:t.Ok)(hk:OkG c h o s y){id:Int}(hid:0≤id∧id<256){k:Ca}(ko:k.Ok){l:Int}(hl:0≤l∧l≤255) :
  ∃ k' out e,EvQ Cx 115 [.agg (cT9 t),encG c h o s y,I8 id,eC k,I8 l] (.tup [eC k',out,I64 e])∧k'.Ok∧isOut out:=by
 have:∃ z,EvQ Cx 115 [.agg (cT9 t),encG c h o s y,I8 id,eC k,I8 l] z∧∃ k' out e,z=.tup [eC k',out,I64 e]∧k'.Ok∧isOut out:=by
  have hO:=owns_ev hk (id:=id) ⟨hid.1,by omega⟩
  have hL:=glines hk
  obtain⟨x,b1,hF,xo⟩:=found_ex hk ko (l:=l) hl.1 hl.2
  have h1:=cT_one t
  have hlen:=cT_size ht
  have hta:∀ k,List.take 160 (cC k)=cC k:=fun k=>List.take_of_length_le (by rw[cC_len];omega)
  have hdr:∀ k,List.drop 160 (cC k)=[]:=fun k=>List.drop_eq_nil_of_le (by rw[cC_len];omega)
  refine evG_of CxB115 rfl (by simp[fn115]) ?_
  by_cases q0:id<c
  case neg =>
   simp(disch:=omega)only[go_sem,simprocAttr,h1,hta,List.flatten_cons,List.flatten_nil,QK.use hO]
   exact⟨k,_,_,rfl,ko,.inl rfl⟩
  by_cases q2:5/o+1≤l
  case pos =>
   simp(disch:=omega)only[go_sem,simprocAttr,h1,hta,List.flatten_cons,List.flatten_nil,QK.use hO,QK.use hL]
   exact⟨k,_,_,rfl,ko,.inl rfl⟩
  simp(disch:=omega)only[go_sem,simprocAttr,h1,hta,List.flatten_cons,List.flatten_nil,QK.use hO,QK.use hL,QK.use hF,passK_in CxB185 CxP185]
  refine passK_ex (trans_ex (m:=noMg) (told:=false) ht hk noMg_ok hid (by decide) (tb:=0) (b:=8) rfl ko xo ⟨rfl,.inl ⟨rfl,rfl⟩,.inl ⟨rfl,rfl⟩⟩) ?_
  rintro y' K ⟨k2,vs,vd,e,sent,done,rfl,ko2,os,od,so,dn,ls,ld,st⟩
  have g3:=st 3 _ rfl (by decide)
  have a3:=fun l=>low_app g3 l
  have s3:=fun X l=>low_app (set_at g3 X) l
  have h3:3<K.length:=(List.getElem?_eq_some_iff.1 g3).1
  rcases os with⟨h0,rfl⟩|⟨h0,q,hq,rfl,hqk⟩
  ·simp(disch:=omega)only[go_sem,simprocAttr,a3,s3,hta,List.flatten_cons,List.flatten_nil]
   exact⟨k2,_,_,rfl,ko2,.inl rfl⟩
  ·have sq:=fun X l=>low_app (low_set hqk (show 3≠q by omega) X) l
   simp(disch:=omega)only[go_sem,simprocAttr,a3,s3,sq,hta,List.flatten_cons,List.flatten_nil,cM_len,cM_take,cM_fz]
   exact⟨k2,_,_,rfl,ko2,.inr ⟨_,rfl,so,by omega⟩⟩
 obtain⟨_,h,k',out,e,rfl,hd⟩:=this
 exact⟨k',out,e,h,hd⟩
end
end Go.Proofs.YtpdphobnchajbaaGreatDoor.Ev
