/- cache: a cell; a transition's end. -/
import Derived.Test.YtpdphobnchajbaaGreatDoorQ31
set_option linter.unusedSimpArgs false
set_option linter.unusedVariables false
namespace Go.Proofs.YtpdphobnchajbaaGreatDoor.Ev
open Go Go.RowKit
set_option maxRecDepth 100000
set_option maxHeartbeats 16000000
theorem UE{t:Tl}(ht:t.Ok){i j:Nat}(hi:i<12)(hj:j<14):∃(z:Ce) (r:List A),List.drop (1+i*42+j*3) (cT9 t)=cE z++r∧z.Ok:=by
 have hl:=ht.c
 obtain⟨z,hz⟩:∃ z,t.C[i*14+j]?=some z:=⟨_,List.getElem?_eq_getElem (by omega)⟩
 obtain⟨r,hr⟩:=jE cE 3 (fun _=>rfl) (cells cE t.H) hz
 refine⟨z,r,?_,ht.cs z (List.mem_of_getElem? hz)⟩
 rw[← hr,cT9,show 1+i*42+j*3=(i*14+j)*3+1 by omega,List.drop_succ_cons]
theorem aIL{t:Tl}(ht:t.Ok){H:aG}{tb:Nat}(hH:H[tb]?=some (some ⟨42,cT9 t,true⟩)){st ev:Int}(hs:0≤st∧st<256)(he:0≤ev∧ev<256) :
  ∃ y',(∃ z e,y'=.tup [.agg (cE z),I64 e]∧z.Ok)∧dI Cx 180 [.ptr tb 0,I8 st,I8 ev] H y':=by
 refine dI.of ?_
 obtain⟨i,rfl⟩:∃ i:Nat,st=i:=⟨st.toNat,by omega⟩
 obtain⟨j,rfl⟩:∃ j:Nat,ev=j:=⟨ev.toNat,by omega⟩
 have z0:(Ce.mk 0 0 0).Ok:=⟨by simp,by simp,by simp⟩
 rw[aP aWQ aRY];refine⟨by simp[zN],?_⟩
 by_cases q1:12≤(i:Int)
 ·simp(disch:=omega)only[go_sem,simprocAttr,aE]
  exact⟨⟨⟨0,0,0⟩,_,rfl,z0⟩,_,rfl⟩
 by_cases q2:14≤(j:Int)
 ·simp(disch:=omega)only[go_sem,simprocAttr,aE]
  exact⟨⟨⟨0,0,0⟩,_,rfl,z0⟩,_,rfl⟩
 obtain⟨z,r,hz,zo⟩:=UE ht (i:=i) (j:=j) (by omega) (by omega)
 have hlen:=d7 ht
 have hl:=fun l=>aI hH l
 simp(disch:=omega)only[go_sem,simprocAttr,hl,hz]
 repeat' (((first|refine bD (fun hb=>?_) (fun hb=>?_)|refine bY (fun hb=>?_) (fun hb=>?_))<;>(first|subst hb|(have hc:=hb;simp only[beq_iff_eq,beq_eq_false_iff_ne,ne_eq]at hc)|skip))<;>(first|simp(disch:=omega)only[go_sem,simprocAttr,hb,aE]|simp(disch:=omega)only[go_sem,simprocAttr,hH,hl,hlen,hz,aW,aE]))
 all_goals first|exact⟨⟨⟨0,0,0⟩,_,rfl,z0⟩,_,rfl⟩|exact⟨⟨z,_,rfl,zo⟩,_,rfl⟩|done
section
variable{c h o s y:Int}
theorem yY(hk:OkG c h o s y){k:Ca}(ko:k.Ok){x:Ln}(xo:x.Ok):∃ k' e,EvQ Cx 299 [fR c h o s y,eC k,eL x] (.tup [eC k',I64 e])∧k'.Ok:=⟨_,_,aSF hk ko xo,ko.put hk xo⟩
theorem lZ(hk:OkG c h o s y){k:Ca}(ko:k.Ok){l:Int}(l0:0≤l∧l<256):∃ k',EvQ Cx 300 [fR c h o s y,eC k,I8 l] (eC k')∧k'.Ok:=by
 have hu:=aP1 hk ko (l:=l) (by omega) (by omega)
 obtain⟨-,-,-,-,-,-,s1,s2,-⟩:=hk
 have d1:=Int.emod_nonneg l (show s≠0 by omega)
 have d2:=Int.emod_lt_of_pos l (show 0<s by omega)
 split at hu
 ·exact⟨_,hu,ko.setN (YW (ko.N _ (by omega)) _)⟩
 ·exact⟨_,hu,ko⟩
theorem FQ:EX.Ok:=⟨by decide,by decide,by decide,⟨by decide,by decide,by decide,by decide⟩⟩
theorem gX(hk:OkG c h o s y){k:Ca}(ko:k.Ok){l:Int}(l0:0≤l∧l<256):∃ k',EvQ Cx 301 [fR c h o s y,eC k,I8 l] (eC k')∧k'.Ok:=by
 have hu:=aLn hk k (l:=l) (by omega) (by omega)
 split at hu
 ·exact⟨_,hu,ko.setW FQ⟩
 ·exact⟨_,hu,ko⟩
end
section
variable{c h o s y id ev:Int}{m:Mg}{dZ:Bool}{b:Nat}
theorem Y3(hk:OkG c h o s y){H:aG}{w:Cw}{vs vd:A}(a:CAt c h o s y id ev m dZ b H w vs vd)(k:w.Ok){to:Int}(hto:0≤to∧to<256) :
  bW Cx 228 [.ptr b 0,I8 to] H fun y' K=>∃ e,y'=I64 e∧∃ w',CAt c h o s y id ev m dZ b K w' vs vd∧w'.Ok∧w'.sent=w.sent∧w'.done=w.done∧Kq H K b vs vd vs vd:=by
 obtain⟨ca,x,gone,used,sent,done⟩:=w
 have hU:=a.at_
 unfold cwC at hU
 have hbH:b<H.length:=(List.getElem?_eq_some_iff.1 hU).1
 have hxl:=k.x.line
 have kk:=k.k
 simp only at hxl kk
 have hS:∀ X,(H.set b X)[b]?=some X:=fun X=>bU hU X
 have hsa:∀ X l,(H.set b X++l)[b]?=some X:=fun X l=>aI (bU hU X) l
 have hsb:∀(X Y:Option Blk) (l:aG),(H.set b X++l).set b Y=H.set b Y++l:=fun X Y l=>by
  rw[List.set_append_left _ _ (by rw[List.length_set];exact hbH),set_set]
 have hta:∀ k,List.take 160 (cC k)=cC k:=fun k=>List.take_of_length_le (by rw[aY];omega)
 rw[aP a0j a2r];refine⟨by simp[JL],?_⟩
 by_cases q0:to=0
 ·subst q0
  cases used
  ·obtain⟨cD,hD,kD⟩:=gX hk kk hxl
   simp(disch:=omega)only[go_sem,simprocAttr,hU,hS,set_set,List.flatten_cons,List.flatten_nil,QK.use hD,aE]
   first|exact⟨_,a.set cD ⟨x.line,0,x.need,x.has,x.d⟩ true false,⟨kD,⟨hxl,by simp,k.x.need,k.x.d⟩,k.sent,k.done⟩,rfl,rfl,Kq.set _⟩|done
  ·obtain⟨cU,hUs,kU⟩:=lZ hk kk hxl
   obtain⟨cD,hD,kD⟩:=gX hk kU hxl
   simp(disch:=omega)only[go_sem,simprocAttr,hU,hS,set_set,List.flatten_cons,List.flatten_nil,QK.use hUs,QK.use hD,aE]
   first|exact⟨_,a.set cD ⟨x.line,0,x.need,x.has,x.d⟩ true true,⟨kD,⟨hxl,by simp,k.x.need,k.x.d⟩,k.sent,k.done⟩,rfl,rfl,Kq.set _⟩|done
 by_cases q1:to=1∨to=2∨to=3∨to=4
 ·rcases q1 with rfl|rfl|rfl|rfl
  ·skip
   cases gone
   ·obtain⟨c1,e1,hP,k1⟩:=yY hk kk (x:=⟨x.line,1,0,false,x.d⟩) ⟨hxl,by simp,by simp,k.x.d⟩
    by_cases qe:e1=0
    ·subst qe
     cases used
     ·skip
      simp(disch:=omega)only[go_sem,simprocAttr,hU,hS,hsa,hsb,set_set,hta,List.flatten_cons,List.flatten_nil,QK.use hP,aE]
      first|exact⟨_,CAt.app (a.set c1 ⟨x.line,1,0,false,x.d⟩ false false) _,⟨k1,⟨hxl,by simp,by simp,k.x.d⟩,k.sent,k.done⟩,rfl,rfl,(Kq.set _).trans (Kq.app _)⟩|done
     ·obtain⟨cU,hUs,kU⟩:=lZ hk k1 hxl
      simp(disch:=omega)only[go_sem,simprocAttr,hU,hS,hsa,hsb,set_set,hta,List.flatten_cons,List.flatten_nil,QK.use hP,QK.use hUs,aE]
      first|exact⟨_,CAt.app (a.set cU ⟨x.line,1,0,false,x.d⟩ false true) _,⟨kU,⟨hxl,by simp,by simp,k.x.d⟩,k.sent,k.done⟩,rfl,rfl,(Kq.set _).trans (Kq.app _)⟩|done
    ·skip
     simp(disch:=omega)only[go_sem,simprocAttr,hU,hS,set_set,List.flatten_cons,List.flatten_nil,QK.use hP,eH qe,aE]
     first|exact⟨_,CAt.app (a.set ca ⟨x.line,1,0,false,x.d⟩ false used) _,⟨kk,⟨hxl,by simp,by simp,k.x.d⟩,k.sent,k.done⟩,rfl,rfl,(Kq.set _).trans (Kq.app _)⟩|done
   ·skip
    cases used
    ·obtain⟨cD,hD,kD⟩:=gX hk kk hxl
     simp(disch:=omega)only[go_sem,simprocAttr,hU,hS,set_set,List.flatten_cons,List.flatten_nil,QK.use hD,aE]
     first|exact⟨_,a.set cD ⟨x.line,1,0,false,x.d⟩ true false,⟨kD,⟨hxl,by simp,by simp,k.x.d⟩,k.sent,k.done⟩,rfl,rfl,Kq.set _⟩|done
    ·obtain⟨cU,hUs,kU⟩:=lZ hk kk hxl
     obtain⟨cD,hD,kD⟩:=gX hk kU hxl
     simp(disch:=omega)only[go_sem,simprocAttr,hU,hS,set_set,List.flatten_cons,List.flatten_nil,QK.use hUs,QK.use hD,aE]
     first|exact⟨_,a.set cD ⟨x.line,1,0,false,x.d⟩ true true,⟨kD,⟨hxl,by simp,by simp,k.x.d⟩,k.sent,k.done⟩,rfl,rfl,Kq.set _⟩|done
  ·skip
   cases gone
   ·obtain⟨c1,e1,hP,k1⟩:=yY hk kk (x:=⟨x.line,2,0,false,x.d⟩) ⟨hxl,by simp,by simp,k.x.d⟩
    by_cases qe:e1=0
    ·subst qe
     cases used
     ·skip
      simp(disch:=omega)only[go_sem,simprocAttr,hU,hS,hsa,hsb,set_set,hta,List.flatten_cons,List.flatten_nil,QK.use hP,aE]
      first|exact⟨_,CAt.app (a.set c1 ⟨x.line,2,0,false,x.d⟩ false false) _,⟨k1,⟨hxl,by simp,by simp,k.x.d⟩,k.sent,k.done⟩,rfl,rfl,(Kq.set _).trans (Kq.app _)⟩|done
     ·obtain⟨cU,hUs,kU⟩:=lZ hk k1 hxl
      simp(disch:=omega)only[go_sem,simprocAttr,hU,hS,hsa,hsb,set_set,hta,List.flatten_cons,List.flatten_nil,QK.use hP,QK.use hUs,aE]
      first|exact⟨_,CAt.app (a.set cU ⟨x.line,2,0,false,x.d⟩ false true) _,⟨kU,⟨hxl,by simp,by simp,k.x.d⟩,k.sent,k.done⟩,rfl,rfl,(Kq.set _).trans (Kq.app _)⟩|done
    ·skip
     simp(disch:=omega)only[go_sem,simprocAttr,hU,hS,set_set,List.flatten_cons,List.flatten_nil,QK.use hP,eH qe,aE]
     first|exact⟨_,CAt.app (a.set ca ⟨x.line,2,0,false,x.d⟩ false used) _,⟨kk,⟨hxl,by simp,by simp,k.x.d⟩,k.sent,k.done⟩,rfl,rfl,(Kq.set _).trans (Kq.app _)⟩|done
   ·skip
    cases used
    ·obtain⟨cD,hD,kD⟩:=gX hk kk hxl
     simp(disch:=omega)only[go_sem,simprocAttr,hU,hS,set_set,List.flatten_cons,List.flatten_nil,QK.use hD,aE]
     first|exact⟨_,a.set cD ⟨x.line,2,0,false,x.d⟩ true false,⟨kD,⟨hxl,by simp,by simp,k.x.d⟩,k.sent,k.done⟩,rfl,rfl,Kq.set _⟩|done
    ·obtain⟨cU,hUs,kU⟩:=lZ hk kk hxl
     obtain⟨cD,hD,kD⟩:=gX hk kU hxl
     simp(disch:=omega)only[go_sem,simprocAttr,hU,hS,set_set,List.flatten_cons,List.flatten_nil,QK.use hUs,QK.use hD,aE]
     first|exact⟨_,a.set cD ⟨x.line,2,0,false,x.d⟩ true true,⟨kD,⟨hxl,by simp,by simp,k.x.d⟩,k.sent,k.done⟩,rfl,rfl,Kq.set _⟩|done
  ·skip
   cases gone
   ·obtain⟨c1,e1,hP,k1⟩:=yY hk kk (x:=⟨x.line,3,0,false,x.d⟩) ⟨hxl,by simp,by simp,k.x.d⟩
    by_cases qe:e1=0
    ·subst qe
     cases used
     ·skip
      simp(disch:=omega)only[go_sem,simprocAttr,hU,hS,hsa,hsb,set_set,hta,List.flatten_cons,List.flatten_nil,QK.use hP,aE]
      first|exact⟨_,CAt.app (a.set c1 ⟨x.line,3,0,false,x.d⟩ false false) _,⟨k1,⟨hxl,by simp,by simp,k.x.d⟩,k.sent,k.done⟩,rfl,rfl,(Kq.set _).trans (Kq.app _)⟩|done
     ·obtain⟨cU,hUs,kU⟩:=lZ hk k1 hxl
      simp(disch:=omega)only[go_sem,simprocAttr,hU,hS,hsa,hsb,set_set,hta,List.flatten_cons,List.flatten_nil,QK.use hP,QK.use hUs,aE]
      first|exact⟨_,CAt.app (a.set cU ⟨x.line,3,0,false,x.d⟩ false true) _,⟨kU,⟨hxl,by simp,by simp,k.x.d⟩,k.sent,k.done⟩,rfl,rfl,(Kq.set _).trans (Kq.app _)⟩|done
    ·skip
     simp(disch:=omega)only[go_sem,simprocAttr,hU,hS,set_set,List.flatten_cons,List.flatten_nil,QK.use hP,eH qe,aE]
     first|exact⟨_,CAt.app (a.set ca ⟨x.line,3,0,false,x.d⟩ false used) _,⟨kk,⟨hxl,by simp,by simp,k.x.d⟩,k.sent,k.done⟩,rfl,rfl,(Kq.set _).trans (Kq.app _)⟩|done
   ·skip
    cases used
    ·obtain⟨cD,hD,kD⟩:=gX hk kk hxl
     simp(disch:=omega)only[go_sem,simprocAttr,hU,hS,set_set,List.flatten_cons,List.flatten_nil,QK.use hD,aE]
     first|exact⟨_,a.set cD ⟨x.line,3,0,false,x.d⟩ true false,⟨kD,⟨hxl,by simp,by simp,k.x.d⟩,k.sent,k.done⟩,rfl,rfl,Kq.set _⟩|done
    ·obtain⟨cU,hUs,kU⟩:=lZ hk kk hxl
     obtain⟨cD,hD,kD⟩:=gX hk kU hxl
     simp(disch:=omega)only[go_sem,simprocAttr,hU,hS,set_set,List.flatten_cons,List.flatten_nil,QK.use hUs,QK.use hD,aE]
     first|exact⟨_,a.set cD ⟨x.line,3,0,false,x.d⟩ true true,⟨kD,⟨hxl,by simp,by simp,k.x.d⟩,k.sent,k.done⟩,rfl,rfl,Kq.set _⟩|done
  ·skip
   cases gone
   ·obtain⟨c1,e1,hP,k1⟩:=yY hk kk (x:=⟨x.line,4,0,false,x.d⟩) ⟨hxl,by simp,by simp,k.x.d⟩
    by_cases qe:e1=0
    ·subst qe
     cases used
     ·skip
      simp(disch:=omega)only[go_sem,simprocAttr,hU,hS,hsa,hsb,set_set,hta,List.flatten_cons,List.flatten_nil,QK.use hP,aE]
      first|exact⟨_,CAt.app (a.set c1 ⟨x.line,4,0,false,x.d⟩ false false) _,⟨k1,⟨hxl,by simp,by simp,k.x.d⟩,k.sent,k.done⟩,rfl,rfl,(Kq.set _).trans (Kq.app _)⟩|done
     ·obtain⟨cU,hUs,kU⟩:=lZ hk k1 hxl
      simp(disch:=omega)only[go_sem,simprocAttr,hU,hS,hsa,hsb,set_set,hta,List.flatten_cons,List.flatten_nil,QK.use hP,QK.use hUs,aE]
      first|exact⟨_,CAt.app (a.set cU ⟨x.line,4,0,false,x.d⟩ false true) _,⟨kU,⟨hxl,by simp,by simp,k.x.d⟩,k.sent,k.done⟩,rfl,rfl,(Kq.set _).trans (Kq.app _)⟩|done
    ·skip
     simp(disch:=omega)only[go_sem,simprocAttr,hU,hS,set_set,List.flatten_cons,List.flatten_nil,QK.use hP,eH qe,aE]
     first|exact⟨_,CAt.app (a.set ca ⟨x.line,4,0,false,x.d⟩ false used) _,⟨kk,⟨hxl,by simp,by simp,k.x.d⟩,k.sent,k.done⟩,rfl,rfl,(Kq.set _).trans (Kq.app _)⟩|done
   ·skip
    cases used
    ·obtain⟨cD,hD,kD⟩:=gX hk kk hxl
     simp(disch:=omega)only[go_sem,simprocAttr,hU,hS,set_set,List.flatten_cons,List.flatten_nil,QK.use hD,aE]
     first|exact⟨_,a.set cD ⟨x.line,4,0,false,x.d⟩ true false,⟨kD,⟨hxl,by simp,by simp,k.x.d⟩,k.sent,k.done⟩,rfl,rfl,Kq.set _⟩|done
    ·obtain⟨cU,hUs,kU⟩:=lZ hk kk hxl
     obtain⟨cD,hD,kD⟩:=gX hk kU hxl
     simp(disch:=omega)only[go_sem,simprocAttr,hU,hS,set_set,List.flatten_cons,List.flatten_nil,QK.use hUs,QK.use hD,aE]
     first|exact⟨_,a.set cD ⟨x.line,4,0,false,x.d⟩ true true,⟨kD,⟨hxl,by simp,by simp,k.x.d⟩,k.sent,k.done⟩,rfl,rfl,Kq.set _⟩|done
 have q11:¬ to=1:=fun e=>q1 (.inl e)
 have q12:¬ to=2:=fun e=>q1 (.inr (.inl e))
 have q13:¬ to=3:=fun e=>q1 (.inr (.inr (.inl e)))
 have q14:¬ to=4:=fun e=>q1 (.inr (.inr (.inr e)))
 cases gone
 ·obtain⟨c1,e1,hP,k1⟩:=yY hk kk (x:=⟨x.line,to,x.need,x.has,x.d⟩) ⟨hxl,hto,k.x.need,k.x.d⟩
  by_cases qe:e1=0
  ·subst qe
   cases used
   ·skip
    simp(disch:=omega)only[go_sem,simprocAttr,hU,hS,hsa,hsb,hta,List.flatten_cons,List.flatten_nil,QK.use hP,aE]
    first|exact⟨_,CAt.app (a.set c1 ⟨x.line,to,x.need,x.has,x.d⟩ false false) _,⟨k1,⟨hxl,hto,k.x.need,k.x.d⟩,k.sent,k.done⟩,rfl,rfl,(Kq.set _).trans (Kq.app _)⟩|done
   ·obtain⟨cU,hUs,kU⟩:=lZ hk k1 hxl
    simp(disch:=omega)only[go_sem,simprocAttr,hU,hS,hsa,hsb,hta,List.flatten_cons,List.flatten_nil,QK.use hP,QK.use hUs,aE]
    first|exact⟨_,CAt.app (a.set cU ⟨x.line,to,x.need,x.has,x.d⟩ false true) _,⟨kU,⟨hxl,hto,k.x.need,k.x.d⟩,k.sent,k.done⟩,rfl,rfl,(Kq.set _).trans (Kq.app _)⟩|done
  ·skip
   simp(disch:=omega)only[go_sem,simprocAttr,hU,hS,List.flatten_cons,List.flatten_nil,QK.use hP,eH qe,aE]
   first|exact⟨_,CAt.app (a.set ca ⟨x.line,to,x.need,x.has,x.d⟩ false used) _,⟨kk,⟨hxl,hto,k.x.need,k.x.d⟩,k.sent,k.done⟩,rfl,rfl,(Kq.set _).trans (Kq.app _)⟩|done
 ·skip
  cases used
  ·obtain⟨cD,hD,kD⟩:=gX hk kk hxl
   simp(disch:=omega)only[go_sem,simprocAttr,hU,hS,set_set,List.flatten_cons,List.flatten_nil,QK.use hD,aE]
   first|exact⟨_,a.set cD ⟨x.line,to,x.need,x.has,x.d⟩ true false,⟨kD,⟨hxl,hto,k.x.need,k.x.d⟩,k.sent,k.done⟩,rfl,rfl,Kq.set _⟩|done
  ·obtain⟨cU,hUs,kU⟩:=lZ hk kk hxl
   obtain⟨cD,hD,kD⟩:=gX hk kU hxl
   simp(disch:=omega)only[go_sem,simprocAttr,hU,hS,set_set,List.flatten_cons,List.flatten_nil,QK.use hUs,QK.use hD,aE]
   first|exact⟨_,a.set cD ⟨x.line,to,x.need,x.has,x.d⟩ true true,⟨kD,⟨hxl,hto,k.x.need,k.x.d⟩,k.sent,k.done⟩,rfl,rfl,Kq.set _⟩|done
end
end Go.Proofs.YtpdphobnchajbaaGreatDoor.Ev
