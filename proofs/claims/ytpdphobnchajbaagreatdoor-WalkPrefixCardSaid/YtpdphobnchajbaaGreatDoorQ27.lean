/- cache: small functions. -/
import Derived.Test.YtpdphobnchajbaaGreatDoorQ23
import Derived.Test.YtpdphobnchajbaaGreatDoorQ25
set_option linter.unusedSimpArgs false
set_option linter.unusedVariables false
namespace Go.Proofs.YtpdphobnchajbaaGreatDoor.Ev
open Go Go.RowKit
set_option maxRecDepth 100000
set_option maxHeartbeats 8000000
abbrev eM(m:Mg):A:=.agg (cM m)
abbrev eO(r:Rq):A:=.agg (cO r)
attribute [go_sem] eM eO
theorem aEs(n:Int):-128≤IntKind.i8.wrap n∧IntKind.i8.wrap n<128:=by
 have h:IntKind.i8.wrap n=if n % 256 ≥ 128 then n % 256-256 else n % 256:=by
  simp[IntKind.wrap,IntKind.bits,IntKind.signed]
 rw[h]
 split<;>omega
theorem aBb(n:Int):0≤IntKind.u8.wrap n∧IntKind.u8.wrap n<256:=by
 rw[IntKind.wrap_u8]
 omega
theorem aA8{r:Rq}(hr:r.Ok){old:Int}(ho:0≤old∧old<256):∃ v:Int,(0≤v∧v<256)∧EvQ Cx 334 [eO r,I8 old] (I8 v):=by
 have:∃ y,EvQ Cx 334 [eO r,I8 old] y∧∃ v:Int,(0≤v∧v<256)∧y=I8 v:=by
  have h1:=aBb (old+r.a)
  have h2:=hr.a
  have h3:=hr.b
  refine cA a0y rfl (by simp[KM]) ?_
  simp(disch:=omega)only[go_sem,simprocAttr]
  repeat' (((first|refine bD (fun hb=>?_) (fun hb=>?_)|refine bY (fun hb=>?_) (fun hb=>?_))<;>(first|subst hb|(have hc:=hb;simp only[beq_iff_eq,beq_eq_false_iff_ne,ne_eq]at hc)|skip))<;>(first|simp(disch:=omega)only[go_sem,simprocAttr,hb,true_and]|simp(disch:=omega)only[go_sem,simprocAttr,true_and]))
  all_goals first|exact⟨_,h2,rfl⟩|exact⟨_,h3,rfl⟩|exact⟨_,ho,rfl⟩|exact⟨_,h1,rfl⟩|exact⟨_,by omega,rfl⟩|done
 obtain⟨_,h,v,hv,rfl⟩:=this
 exact⟨v,hv,h⟩
theorem aUL(x:Ln)(m:Mg):∃ v:Int,(0≤v∧v<14)∧EvQ Cx 232 [eL x,eM m] (I8 v):=by
 have:∃ y,EvQ Cx 232 [eL x,eM m] y∧∃ v:Int,(0≤v∧v<14)∧y=I8 v:=by
  refine cA aYN rfl (by simp[HU]) ?_
  simp(disch:=omega)only[go_sem,simprocAttr]
  repeat' (((first|refine bD (fun hb=>?_) (fun hb=>?_)|refine bY (fun hb=>?_) (fun hb=>?_))<;>(first|subst hb|(have hc:=hb;simp only[beq_iff_eq,beq_eq_false_iff_ne,ne_eq]at hc)|skip))<;>(first|simp(disch:=omega)only[go_sem,simprocAttr,hb,true_and]|simp(disch:=omega)only[go_sem,simprocAttr,true_and]))
  all_goals first|exact⟨_,by decide,rfl⟩|done
 obtain⟨_,h,v,hv,rfl⟩:=this
 exact⟨v,hv,h⟩
theorem aFr{k:Ca}(ko:k.Ok){r:Rq}(ro:r.Ok):∃ k' e,EvQ Cx 174 [eC k,eO r] (.tup [eC k',I64 e])∧k'.Ok:=by
 have:∃ y,EvQ Cx 174 [eC k,eO r] y∧∃ k' e,y=.tup [eC k',I64 e]∧k'.Ok:=by
  have hta:∀ k,List.take 160 (cC k)=cC k:=fun k=>List.take_of_length_le (by rw[aY];omega)
  have hop:=B8 k
  have hso:=WQ k r
  have hdr:∀ k,List.drop 160 (cC k)=[]:=fun k=>List.drop_eq_nil_of_le (by rw[aY];omega)
  simp only[cO]at hop hso
  refine cA aWS rfl (by simp[L9]) ?_
  simp(disch:=omega)only[go_sem,simprocAttr,List.flatten_cons,List.flatten_nil]
  repeat' (((first|refine bD (fun hb=>?_) (fun hb=>?_)|refine bY (fun hb=>?_) (fun hb=>?_))<;>(first|subst hb|(have hc:=hb;simp only[decide_eq_true_eq,decide_eq_false_iff_not,beq_iff_eq,bne_iff_ne,beq_eq_false_iff_ne,bne_eq_false_iff_eq,ne_eq,Int.not_le,ge_iff_le]at hc)|skip))<;>(first|simp(disch:=omega)only[go_sem,simprocAttr,hb,hta,List.flatten_cons,List.flatten_nil,hop,hso,hdr]|simp(disch:=omega)only[go_sem,simprocAttr,hta,List.flatten_cons,List.flatten_nil,hop,hso,hdr]))
  all_goals first|exact⟨_,_,rfl,ko⟩|exact⟨_,_,rfl,ko.setO ro⟩|done
 obtain⟨_,h,k',e,rfl,hk⟩:=this
 exact⟨k',e,h,hk⟩
theorem a99{x:Ln}(xo:x.Ok){m:Mg}(mo:m.Ok):∃ x' v b,EvQ Cx 191 [eL x,eM m] (.tup [eL x',I8 v,Bo b])∧x'.Ok∧(0≤v∧v<14)∧x'.line=x.line:=by
 have:∃ y,EvQ Cx 191 [eL x,eM m] y∧∃ x' v b,y=.tup [eL x',I8 v,Bo b]∧x'.Ok∧(0≤v∧v<14)∧x'.line=x.line:=by
  have h1:=aEs (x.need+IntKind.i8.wrap m.acks)
  have h2:=aEs (x.need-1)
  obtain⟨v,hv,ha⟩:=aUL ⟨x.line,x.state,IntKind.i8.wrap (x.need+IntKind.i8.wrap m.acks),true,x.d⟩ m
  have o1:(Ln.mk x.line x.state (IntKind.i8.wrap (x.need+IntKind.i8.wrap m.acks)) true x.d).Ok:=⟨xo.line,xo.state,h1,xo.d⟩
  have o2:∀ b,(Ln.mk x.line x.state (IntKind.i8.wrap (x.need-1)) b x.d).Ok:=fun b=>⟨xo.line,xo.state,h2,xo.d⟩
  refine cA aQd rfl (by simp[JE]) ?_
  simp(disch:=omega)only[go_sem,simprocAttr]
  repeat' (((first|refine bD (fun hb=>?_) (fun hb=>?_)|refine bY (fun hb=>?_) (fun hb=>?_))<;>(first|subst hb|(have hc:=hb;simp only[beq_iff_eq,beq_eq_false_iff_ne,ne_eq]at hc)|skip))<;>(first|simp(disch:=omega)only[go_sem,simprocAttr,hb,QK.use ha]|simp(disch:=omega)only[go_sem,simprocAttr,QK.use ha]))
  all_goals first|exact⟨_,_,_,rfl,xo,by decide,rfl⟩|exact⟨_,_,_,rfl,o1,hv,rfl⟩|exact⟨⟨x.line,x.state,_,x.has,x.d⟩,_,_,rfl,o2 _,by decide,rfl⟩|exact⟨⟨x.line,x.state,_,true,x.d⟩,_,_,rfl,o2 _,by decide,rfl⟩|exact⟨⟨x.line,x.state,_,false,x.d⟩,_,_,rfl,o2 _,by decide,rfl⟩|done
 obtain⟨_,h,x',v,b,rfl,hk⟩:=this
 exact⟨x',v,b,h,hk⟩
end Go.Proofs.YtpdphobnchajbaaGreatDoor.Ev
