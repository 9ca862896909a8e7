/- cache: Try. -/
import Derived.Test.YtpdphobnchajbaaGreatDoorQ37
set_option linter.unusedSimpArgs false
set_option linter.unusedVariables false
namespace Go.Proofs.YtpdphobnchajbaaGreatDoor.Ev
open Go Go.RowKit
set_option maxRecDepth 100000
set_option maxHeartbeats 16000000
section
variable{c h o s y:Int}
theorem aFq(ag:aIr){t:Tl}(ht:t.Ok)(hk:OkG c h o s y){id:Int}(hid:0≤id∧id<256){k:Ca}(ko:k.Ok) :
  ∃ k' out done e,EvQ Cx 112 [.agg (cT9 t),fR c h o s y,I8 id,eC k] (.tup [eC k',out,done,I64 e])∧k'.Ok∧mM out∧mW done:=by
 have:∃ z,EvQ Cx 112 [.agg (cT9 t),fR c h o s y,I8 id,eC k] z∧∃ k' out done e,z=.tup [eC k',out,done,I64 e]∧k'.Ok∧mM out∧mW done:=by
  have hO:=EZ hk (id:=id) ⟨hid.1,by omega⟩
  have h1:=oJ t
  have hlen:=d7 ht
  have hta:∀ k,List.take 160 (cC k)=cC k:=fun k=>List.take_of_length_le (by rw[aY];omega)
  have hdr:∀ k,List.drop 160 (cC k)=[]:=fun k=>List.drop_eq_nil_of_le (by rw[aY];omega)
  have hop:=B8 k
  have hop1:List.drop 157 (cC k)=[I8 k.op.loc,I8 k.op.a,I8 k.op.b]:=by
   rw[show 157=156+1 from rfl,← List.drop_drop,B8];rfl
  have hol:=ko.op.loc
  refine cA a1Y rfl (by simp[xA]) ?_
  by_cases q0:id<c
  case neg =>
   simp(disch:=omega)only[go_sem,simprocAttr,h1,hta,List.flatten_cons,List.flatten_nil,QK.use hO]
   exact⟨k,_,_,_,rfl,ko,.inl rfl,.inl rfl⟩
  by_cases q1:k.op.kind=0
  case pos =>
   simp(disch:=omega)only[go_sem,simprocAttr,h1,hta,hop,q1,List.flatten_cons,List.flatten_nil,QK.use hO]
   exact⟨k,_,_,_,rfl,ko,.inl rfl,.inl rfl⟩
  by_cases q2:6≤k.op.loc
  case pos =>
   simp(disch:=omega)only[go_sem,simprocAttr,h1,hta,hop,hop1,cZ q1,List.flatten_cons,List.flatten_nil,QK.use hO]
   exact⟨k,_,_,_,rfl,ko,.inl rfl,.inl rfl⟩
  have hL:=MC hk (l:=k.op.loc) hol.1 (by omega)
  have hdl:0≤k.op.loc/o∧k.op.loc/o≤255:=by
   obtain⟨c1,c2,h1,h2,o1,o2,s1,s2,y1,y2⟩:=hk
   have:=Int.ediv_nonneg hol.1 (show 0≤o by omega)
   have:=Int.ediv_le_self o hol.1
   omega
  obtain⟨x,there,hF,xo⟩:=y5 hk ko (l:=k.op.loc/o) hdl.1 hdl.2
  have hN:=JO hk k (l:=k.op.loc/o) hdl.1 hdl.2
  obtain⟨ev,hev,hee⟩:∃ ev:Int,(0≤ev∧ev<256)∧(k.op.kind=1∧ev=0∨¬ k.op.kind=1∧ev=1):=by
   by_cases q:k.op.kind=1
   ·exact⟨0,by decide,.inl ⟨q,rfl⟩⟩
   ·exact⟨1,by decide,.inr ⟨q,rfl⟩⟩
  have hgo:bG Cx [.code xA.body] ⟨iR 0 [.agg (cT9 t),fR c h o s y,I8 id,eC k],[]⟩ (QM Cx.T xA.mode xA.res fun z=>∃ k' out done e,z=.tup [eC k',out,done,I64 e]∧k'.Ok∧mM out∧mW done):=by
   rcases hee with⟨q3,rfl⟩|⟨q3,rfl⟩
   ·simp(disch:=omega)only[go_sem,simprocAttr,h1,hta,hop,hop1,List.flatten_cons,List.flatten_nil,QK.use hO,q3,QK.use hL,QK.use hF]
    refine aM (vU ht (tb:=0) rfl xo.state hev) ?_
    rintro y' K ⟨z,e,L,rfl,zo,rfl⟩
    by_cases qe:e=0
    case neg =>
     simp(disch:=omega)only[go_sem,simprocAttr,hta,List.flatten_cons,List.flatten_nil,List.cons_append,eH qe]
     exact⟨k,_,_,_,rfl,ko,.inl rfl,.inl rfl⟩
    subst qe
    have hac:=zo.acts
    simp(disch:=omega)only[go_sem,simprocAttr,hta,List.flatten_cons,List.flatten_nil,List.cons_append,QK.use hN]
    repeat' (((first|refine bD (fun hb=>?_) (fun hb=>?_)|refine bY (fun hb=>?_) (fun hb=>?_))<;>(first|subst hb|(have hc:=hb;simp only[beq_iff_eq,bne_iff_ne,beq_eq_false_iff_ne,bne_eq_false_iff_eq,Bool.not_eq_eq_eq_not,Bool.not_true,Bool.not_false,ne_eq]at hc)|skip))<;>(first|simp(disch:=omega)only[go_sem,simprocAttr,hb,go_sem,simprocAttr,hta,List.flatten_cons,List.flatten_nil,List.cons_append]|simp(disch:=omega)only[go_sem,simprocAttr,go_sem,simprocAttr,h1,hlen,hta,hdr,List.flatten_cons,List.flatten_nil,List.append_assoc,List.cons_append,QK.use hN,QK.use hO]))
    next =>
     refine aM (B1 ag hk ht (tb:=0) rfl ko hdl.1 hdl.2) ?_
     rintro y' K ⟨xv,ok,L2,rfl,xvo,rfl⟩
     cases ok with
     |false =>
      simp(disch:=omega)only[go_sem,simprocAttr,hta,List.flatten_cons,List.flatten_nil,List.append_assoc,List.cons_append]
      exact⟨k,_,_,_,rfl,ko,.inl rfl,.inl rfl⟩
     |true =>
      simp(disch:=omega)only[go_sem,simprocAttr,hta,List.flatten_cons,List.flatten_nil,List.append_assoc,List.cons_append,aK vM uV]
      refine aM (nC (m:=Y6) (dZ:=false) ht hk uP hid (show(0:Int)≤2∧(2:Int)<256 by decide) (tb:=0) rfl ko xvo ⟨by
       simp(disch:=omega)only[go_sem,simprocAttr,cwC,aZ,List.getElem?_cons_succ]
       first|done|rfl,.inl ⟨rfl,rfl⟩,.inl ⟨rfl,rfl⟩⟩) ?_
      rintro y' K ⟨k2,vs,vd,e,sent,done,rfl,ko2,os,od,so,dn,ls,ld,st⟩
      have g3:=st 3 _ rfl (by omega)
      have s3:=fun X=>bU g3 X
      rcases os with⟨h0,rfl⟩|⟨h0,q,hq,rfl,hqk⟩<;>rcases od with⟨d0,rfl⟩|⟨d0,p,hp,rfl,hpk⟩
      ·simp(disch:=omega)only[go_sem,simprocAttr,g3,s3,hta,List.flatten_cons,List.flatten_nil]
       exact⟨k2,_,_,_,rfl,ko2,.inl rfl,.inl rfl⟩
      ·have sp:=fun X=>aO hpk (show 3≠p by omega) X
       simp(disch:=omega)only[go_sem,simprocAttr,g3,s3,sp,hta,List.flatten_cons,List.flatten_nil,iE,jA,qA]
       exact⟨k2,_,_,_,rfl,ko2,.inl rfl,.inr ⟨_,rfl,dn,by omega⟩⟩
      ·have sq:=fun X=>aO hqk (show 3≠q by omega) X
       simp(disch:=omega)only[go_sem,simprocAttr,g3,s3,sq,hta,List.flatten_cons,List.flatten_nil,cY,dG,jI]
       exact⟨k2,_,_,_,rfl,ko2,.inr ⟨_,rfl,so,by omega⟩,.inl rfl⟩
      ·have sp:=fun X=>aO hpk (show 3≠p by omega) X
       have sq:=fun X=>aO hqk (show 3≠q by omega) X
       simp(disch:=omega)only[go_sem,simprocAttr,g3,s3,sp,sq,hta,List.flatten_cons,List.flatten_nil,cY,dG,jI,iE,jA,qA]
       exact⟨k2,_,_,_,rfl,ko2,.inr ⟨_,rfl,so,by omega⟩,.inr ⟨_,rfl,dn,by omega⟩⟩
    all_goals
     simp(disch:=omega)only[go_sem,simprocAttr,hta,List.flatten_cons,List.flatten_nil,List.append_assoc,List.cons_append,aK vM uV]
     refine aM (nC (m:=Y6) (dZ:=false) ht hk uP hid hev (tb:=0) rfl ko xo ⟨by
       simp(disch:=omega)only[go_sem,simprocAttr,cwC,aZ,List.getElem?_cons_succ]
       first|done|rfl,.inl ⟨rfl,rfl⟩,.inl ⟨rfl,rfl⟩⟩) ?_
     rintro y' K ⟨k2,vs,vd,e,sent,done,rfl,ko2,os,od,so,dn,ls,ld,st⟩
     have g3:=st 3 _ rfl (by omega)
     have s3:=fun X=>bU g3 X
     rcases os with⟨h0,rfl⟩|⟨h0,q,hq,rfl,hqk⟩<;>rcases od with⟨d0,rfl⟩|⟨d0,p,hp,rfl,hpk⟩
     ·simp(disch:=omega)only[go_sem,simprocAttr,g3,s3,hta,List.flatten_cons,List.flatten_nil]
      exact⟨k2,_,_,_,rfl,ko2,.inl rfl,.inl rfl⟩
     ·have sp:=fun X=>aO hpk (show 3≠p by omega) X
      simp(disch:=omega)only[go_sem,simprocAttr,g3,s3,sp,hta,List.flatten_cons,List.flatten_nil,iE,jA,qA]
      exact⟨k2,_,_,_,rfl,ko2,.inl rfl,.inr ⟨_,rfl,dn,by omega⟩⟩
     ·have sq:=fun X=>aO hqk (show 3≠q by omega) X
      simp(disch:=omega)only[go_sem,simprocAttr,g3,s3,sq,hta,List.flatten_cons,List.flatten_nil,cY,dG,jI]
      exact⟨k2,_,_,_,rfl,ko2,.inr ⟨_,rfl,so,by omega⟩,.inl rfl⟩
     ·have sp:=fun X=>aO hpk (show 3≠p by omega) X
      have sq:=fun X=>aO hqk (show 3≠q by omega) X
      simp(disch:=omega)only[go_sem,simprocAttr,g3,s3,sp,sq,hta,List.flatten_cons,List.flatten_nil,cY,dG,jI,iE,jA,qA]
      exact⟨k2,_,_,_,rfl,ko2,.inr ⟨_,rfl,so,by omega⟩,.inr ⟨_,rfl,dn,by omega⟩⟩
   ·simp(disch:=omega)only[go_sem,simprocAttr,h1,hta,hop,hop1,cZ q1,List.flatten_cons,List.flatten_nil,QK.use hO,cZ q3,QK.use hL,QK.use hF]
    refine aM (vU ht (tb:=0) rfl xo.state hev) ?_
    rintro y' K ⟨z,e,L,rfl,zo,rfl⟩
    by_cases qe:e=0
    case neg =>
     simp(disch:=omega)only[go_sem,simprocAttr,hta,List.flatten_cons,List.flatten_nil,List.cons_append,eH qe]
     exact⟨k,_,_,_,rfl,ko,.inl rfl,.inl rfl⟩
    subst qe
    have hac:=zo.acts
    simp(disch:=omega)only[go_sem,simprocAttr,hta,List.flatten_cons,List.flatten_nil,List.cons_append,QK.use hN]
    repeat' (((first|refine bD (fun hb=>?_) (fun hb=>?_)|refine bY (fun hb=>?_) (fun hb=>?_))<;>(first|subst hb|(have hc:=hb;simp only[beq_iff_eq,bne_iff_ne,beq_eq_false_iff_ne,bne_eq_false_iff_eq,Bool.not_eq_eq_eq_not,Bool.not_true,Bool.not_false,ne_eq]at hc)|skip))<;>(first|simp(disch:=omega)only[go_sem,simprocAttr,hb,go_sem,simprocAttr,hta,List.flatten_cons,List.flatten_nil,List.cons_append]|simp(disch:=omega)only[go_sem,simprocAttr,go_sem,simprocAttr,h1,hlen,hta,hdr,List.flatten_cons,List.flatten_nil,List.append_assoc,List.cons_append,QK.use hN,QK.use hO]))
    next =>
     refine aM (B1 ag hk ht (tb:=0) rfl ko hdl.1 hdl.2) ?_
     rintro y' K ⟨xv,ok,L2,rfl,xvo,rfl⟩
     cases ok with
     |false =>
      simp(disch:=omega)only[go_sem,simprocAttr,hta,List.flatten_cons,List.flatten_nil,List.append_assoc,List.cons_append]
      exact⟨k,_,_,_,rfl,ko,.inl rfl,.inl rfl⟩
     |true =>
      simp(disch:=omega)only[go_sem,simprocAttr,hta,List.flatten_cons,List.flatten_nil,List.append_assoc,List.cons_append,aK vM uV]
      refine aM (nC (m:=Y6) (dZ:=false) ht hk uP hid (show(0:Int)≤2∧(2:Int)<256 by decide) (tb:=0) rfl ko xvo ⟨by
       simp(disch:=omega)only[go_sem,simprocAttr,cwC,aZ,List.getElem?_cons_succ]
       first|done|rfl,.inl ⟨rfl,rfl⟩,.inl ⟨rfl,rfl⟩⟩) ?_
      rintro y' K ⟨k2,vs,vd,e,sent,done,rfl,ko2,os,od,so,dn,ls,ld,st⟩
      have g3:=st 3 _ rfl (by omega)
      have s3:=fun X=>bU g3 X
      rcases os with⟨h0,rfl⟩|⟨h0,q,hq,rfl,hqk⟩<;>rcases od with⟨d0,rfl⟩|⟨d0,p,hp,rfl,hpk⟩
      ·simp(disch:=omega)only[go_sem,simprocAttr,g3,s3,hta,List.flatten_cons,List.flatten_nil]
       exact⟨k2,_,_,_,rfl,ko2,.inl rfl,.inl rfl⟩
      ·have sp:=fun X=>aO hpk (show 3≠p by omega) X
       simp(disch:=omega)only[go_sem,simprocAttr,g3,s3,sp,hta,List.flatten_cons,List.flatten_nil,iE,jA,qA]
       exact⟨k2,_,_,_,rfl,ko2,.inl rfl,.inr ⟨_,rfl,dn,by omega⟩⟩
      ·have sq:=fun X=>aO hqk (show 3≠q by omega) X
       simp(disch:=omega)only[go_sem,simprocAttr,g3,s3,sq,hta,List.flatten_cons,List.flatten_nil,cY,dG,jI]
       exact⟨k2,_,_,_,rfl,ko2,.inr ⟨_,rfl,so,by omega⟩,.inl rfl⟩
      ·have sp:=fun X=>aO hpk (show 3≠p by omega) X
       have sq:=fun X=>aO hqk (show 3≠q by omega) X
       simp(disch:=omega)only[go_sem,simprocAttr,g3,s3,sp,sq,hta,List.flatten_cons,List.flatten_nil,cY,dG,jI,iE,jA,qA]
       exact⟨k2,_,_,_,rfl,ko2,.inr ⟨_,rfl,so,by omega⟩,.inr ⟨_,rfl,dn,by omega⟩⟩
    all_goals
     simp(disch:=omega)only[go_sem,simprocAttr,hta,List.flatten_cons,List.flatten_nil,List.append_assoc,List.cons_append,aK vM uV]
     refine aM (nC (m:=Y6) (dZ:=false) ht hk uP hid hev (tb:=0) rfl ko xo ⟨by
       simp(disch:=omega)only[go_sem,simprocAttr,cwC,aZ,List.getElem?_cons_succ]
       first|done|rfl,.inl ⟨rfl,rfl⟩,.inl ⟨rfl,rfl⟩⟩) ?_
     rintro y' K ⟨k2,vs,vd,e,sent,done,rfl,ko2,os,od,so,dn,ls,ld,st⟩
     have g3:=st 3 _ rfl (by omega)
     have s3:=fun X=>bU g3 X
     rcases os with⟨h0,rfl⟩|⟨h0,q,hq,rfl,hqk⟩<;>rcases od with⟨d0,rfl⟩|⟨d0,p,hp,rfl,hpk⟩
     ·simp(disch:=omega)only[go_sem,simprocAttr,g3,s3,hta,List.flatten_cons,List.flatten_nil]
      exact⟨k2,_,_,_,rfl,ko2,.inl rfl,.inl rfl⟩
     ·have sp:=fun X=>aO hpk (show 3≠p by omega) X
      simp(disch:=omega)only[go_sem,simprocAttr,g3,s3,sp,hta,List.flatten_cons,List.flatten_nil,iE,jA,qA]
      exact⟨k2,_,_,_,rfl,ko2,.inl rfl,.inr ⟨_,rfl,dn,by omega⟩⟩
     ·have sq:=fun X=>aO hqk (show 3≠q by omega) X
      simp(disch:=omega)only[go_sem,simprocAttr,g3,s3,sq,hta,List.flatten_cons,List.flatten_nil,cY,dG,jI]
      exact⟨k2,_,_,_,rfl,ko2,.inr ⟨_,rfl,so,by omega⟩,.inl rfl⟩
     ·have sp:=fun X=>aO hpk (show 3≠p by omega) X
      have sq:=fun X=>aO hqk (show 3≠q by omega) X
      simp(disch:=omega)only[go_sem,simprocAttr,g3,s3,sp,sq,hta,List.flatten_cons,List.flatten_nil,cY,dG,jI,iE,jA,qA]
      exact⟨k2,_,_,_,rfl,ko2,.inr ⟨_,rfl,so,by omega⟩,.inr ⟨_,rfl,dn,by omega⟩⟩
  exact hgo
 obtain⟨_,h,k',out,done,e,rfl,hd⟩:=this
 exact⟨k',out,done,e,h,hd⟩
end
end Go.Proofs.YtpdphobnchajbaaGreatDoor.Ev
