/- check: a condition, whatever its tree. -/
import Derived.Test.YtpdphobnchajbaaGreatDoorP24
set_option linter.unusedSimpArgs false
set_option linter.unusedVariables false
namespace Go.Proofs.YtpdphobnchajbaaGreatDoor.Ev
open Go Go.RowKit
set_option maxRecDepth 100000
set_option maxHeartbeats 16000000
inductive Cd where
 |mk (k t n v:Int) (l:List Cd)
mutual
def cCd:Cd→List A
 |.mk k t n v l=>[I8 k,I8 t,I8 n,I8 v,.sl l.length (cCds l)]
def cCds:List Cd→List A
 |[]=>[]
 |x::l=>cCd x++cCds l
end
mutual
def okCd:Cd→Prop
 |.mk k t n v l=>(0≤k∧k<256)∧(0≤t∧t<256)∧(0≤n∧n<256)∧(0≤v∧v<256)∧l.length≤140737488351232∧okCds l
def okCds:List Cd→Prop
 |[]=>True
 |x::l=>okCd x∧okCds l
end
theorem cCd_len(x:Cd):(cCd x).length=5:=by
 cases x
 rw[cCd]
 rfl
theorem cCds_len:∀ l:List Cd,(cCds l).length=l.length*5
 |[]=>by rw[cCds];rfl
 |x::l=>by rw[cCds,List.length_append,cCd_len,cCds_len l,List.length_cons];omega
theorem cCds_drop:∀{l:List Cd} {i:Nat} {x:Cd},l[i]?=some x→∃ r,(cCds l).drop (i*5)=cCd x++r
 |[],i,x,h=>by simp at h
 |y::l,0,x,h=>by
  simp only[List.getElem?_cons_zero,Option.some.injEq]at h
  subst h
  rw[cCds]
  exact⟨_,rfl⟩
 |y::l,i+1,x,h=>by
  obtain⟨r,hr⟩:=cCds_drop (l:=l) (i:=i) (x:=x) (by simpa using h)
  refine⟨r,?_⟩
  rw[cCds,show(i+1)*5=5+i*5 by omega,← List.drop_drop,List.drop_left' (cCd_len y),hr]
theorem okCds_at:∀{l:List Cd} {i:Nat} {x:Cd},okCds l→l[i]?=some x→okCd x
 |[],i,x,_,h=>by simp at h
 |y::l,0,x,ho,h=>by
  simp only[List.getElem?_cons_zero,Option.some.injEq]at h
  subst h
  rw[okCds]at ho
  exact ho.1
 |y::l,i+1,x,ho,h=>by
  rw[okCds]at ho
  exact okCds_at (l:=l) (i:=i) ho.2 (by simpa using h)
def CondGo(p:A)(th lo d:Int)(H:Heap):Prop:=CallK Cx 204 [p,I64 th,I64 lo,I64 d] H fun y K=>isBo y∧K=H
theorem cond_zero(p:A)(th lo:Int)(H:Heap):CondGo p th lo 0 H:=by
 unfold CondGo
 rw[callK_in CxB204 CxP204];refine⟨by simp[fn204],?_⟩
 simp(disch:=omega)only[go_sem,simprocAttr,endK_back]
 exact⟨_,rfl⟩
theorem cond_succ(d:Nat)(hd:d<20)(ih:∀(x:Cd) (r:List A) (th lo:Int) (H:Heap),okCd x→CondGo (.fp (cCd x++r)) th lo d H)(x:Cd)(r:List A)(th lo:Int)(H:Heap)(hx:okCd x):CondGo (.fp (cCd x++r)) th lo ((d:Int)+1) H:=by
 obtain⟨k,t,n,v,l⟩:=x
 rw[okCd]at hx
 obtain⟨hk,ht,hn,hv,hl,ho⟩:=hx
 rw[cCd]
 unfold CondGo at ih
 have loop:∀(m i:Nat),i+m=l.length→RunK Cx (.code (.loop m204_l0)::.blk 1::.code (.seq (.reg [] [⟨some 8,.assign (.const (.bool true)),none⟩] 0) .ret)::[]) ⟨[(0,.fp ([I8 k,I8 t,I8 n,I8 v,.sl l.length (cCds l)]++r)),(1,I64 th),(2,I64 lo),(3,I64 ((d:Int)+1)),(124,I64 l.length),(125,I64 i)],H⟩ (EndK Cx [.tmp 8] fun y K=>isBo y∧K=H):=by
  intro m
  induction m with
  |zero =>
   intro i hi
   rw[runK_loop]
   simp(disch:=omega)only[go_sem,simprocAttr,endK_back]
   exact⟨_,rfl⟩
  |succ m ihm =>
   intro i hi
   obtain⟨x,hx⟩:∃ x,l[i]?=some x:=⟨_,List.getElem?_eq_getElem (by omega)⟩
   obtain⟨r',hr'⟩:=cCds_drop hx
   have hlen:=cCds_len l
   rw[runK_loop]
   simp(disch:=omega)only[go_sem,simprocAttr,hr']
   rw[show(d:Int)+1-1=d by omega]
   refine passK_ex (ih x r' th lo H (okCds_at ho hx)) ?_
   rintro y K ⟨⟨b,rfl⟩,rfl⟩
   cases b
   ·simp(disch:=omega)only[go_sem,simprocAttr,endK_back]
    exact⟨_,rfl⟩
   ·simp(disch:=omega)only[go_sem,simprocAttr]
    rw[loop_norm (l:=[0,1,2,3,124,125]) rfl]
    simp(disch:=omega)only[go_sem,simprocAttr]
    have:=ihm (i+1) (by omega)
    simpa only[Int.natCast_add,Int.natCast_one,List.cons_append,List.nil_append]using this
 unfold CondGo
 rw[callK_in CxB204 CxP204];refine⟨by simp[fn204],?_⟩
 simp(disch:=omega)only[go_sem,simprocAttr]
 repeat' (((first|refine runK_bif (fun hb=>?_) (fun hb=>?_)|refine wantK_bif (fun hb=>?_) (fun hb=>?_))<;>(first|subst hb|(have hc:=hb;simp only[decide_eq_true_eq,decide_eq_false_iff_not,beq_iff_eq,bne_iff_ne,beq_eq_false_iff_ne,bne_eq_false_iff_eq,Bool.not_eq_eq_eq_not,Bool.not_true,Bool.not_false,ne_eq,Int.not_lt]at hc)|skip))<;>(first|simp(disch:=omega)only[go_sem,simprocAttr,hb,endK_back]|simp(disch:=omega)only[go_sem,simprocAttr,endK_go,endK_back]))
 all_goals first|exact⟨⟨_,rfl⟩,trivial⟩|exact⟨_,rfl⟩|(rw[loop_norm (l:=[0,1,2,3,124,125]) rfl];simp(disch:=omega)only[go_sem,simprocAttr];exact loop _ 0 (Nat.zero_add _))|done
theorem cond_all:∀ d:Nat,d≤20→∀(x:Cd) (r:List A) (th lo:Int) (H:Heap),okCd x→CondGo (.fp (cCd x++r)) th lo d H
 |0,_,x,r,th,lo,H,_=>cond_zero _ th lo H
 |d+1,h,x,r,th,lo,H,hx=>by
  have:=cond_succ d (by omega) (cond_all d (by omega)) x r th lo H hx
  simpa only[Int.natCast_add,Int.natCast_one]using this
theorem cond_top(x:Cd)(th lo:Int)(H:Heap)(b:Nat)(hx:okCd x)(hb0:H[b]?=some (some ⟨27,cCd x,true⟩)):CondGo (.ptr b 0) th lo 20 H:=by
 have ih:=cond_all 19 (by decide)
 obtain⟨k,t,n,v,l⟩:=x
 rw[okCd]at hx
 obtain⟨hk,ht,hn,hv,hl,ho⟩:=hx
 rw[cCd]at hb0
 unfold CondGo at ih
 have loop:∀(m i:Nat),i+m=l.length→RunK Cx (.code (.loop m204_l0)::.blk 1::.code (.seq (.reg [] [⟨some 8,.assign (.const (.bool true)),none⟩] 0) .ret)::[]) ⟨[(0,.ptr b 0),(1,I64 th),(2,I64 lo),(3,I64 20),(124,I64 l.length),(125,I64 i)],H⟩ (EndK Cx [.tmp 8] fun y K=>isBo y∧K=H):=by
  intro m
  induction m with
  |zero =>
   intro i hi
   rw[runK_loop]
   simp(disch:=omega)only[go_sem,simprocAttr,endK_back]
   exact⟨_,rfl⟩
  |succ m ihm =>
   intro i hi
   obtain⟨x,hx⟩:∃ x,l[i]?=some x:=⟨_,List.getElem?_eq_getElem (by omega)⟩
   obtain⟨r',hr'⟩:=cCds_drop hx
   have hlen:=cCds_len l
   rw[runK_loop]
   simp(disch:=omega)only[go_sem,simprocAttr,hr',hb0]
   refine passK_ex (ih x r' th lo H (okCds_at ho hx)) ?_
   rintro y K ⟨⟨b',rfl⟩,rfl⟩
   cases b'
   ·simp(disch:=omega)only[go_sem,simprocAttr,endK_back]
    exact⟨_,rfl⟩
   ·simp(disch:=omega)only[go_sem,simprocAttr]
    rw[loop_norm (l:=[0,1,2,3,124,125]) rfl]
    simp(disch:=omega)only[go_sem,simprocAttr]
    have:=ihm (i+1) (by omega)
    simpa only[Int.natCast_add,Int.natCast_one,List.cons_append,List.nil_append]using this
 unfold CondGo
 rw[callK_in CxB204 CxP204];refine⟨by simp[fn204],?_⟩
 simp(disch:=omega)only[go_sem,simprocAttr,hb0]
 repeat' (((first|refine runK_bif (fun hb=>?_) (fun hb=>?_)|refine wantK_bif (fun hb=>?_) (fun hb=>?_))<;>(first|subst hb|(have hc:=hb;simp only[decide_eq_true_eq,decide_eq_false_iff_not,beq_iff_eq,bne_iff_ne,beq_eq_false_iff_ne,bne_eq_false_iff_eq,Bool.not_eq_eq_eq_not,Bool.not_true,Bool.not_false,ne_eq,Int.not_lt]at hc)|skip))<;>(first|simp(disch:=omega)only[go_sem,simprocAttr,hb,hb0,endK_back]|simp(disch:=omega)only[go_sem,simprocAttr,hb0,endK_go,endK_back]))
 all_goals first|exact⟨⟨_,rfl⟩,trivial⟩|exact⟨_,rfl⟩|(rw[loop_norm (l:=[0,1,2,3,124,125]) rfl];simp(disch:=omega)only[go_sem,simprocAttr];exact loop _ 0 (Nat.zero_add _))|done
theorem cond_ex(x:Cd)(th lo:Int)(hx:okCd x):∃ b,EvQ Cx 141 [.agg (cCd x),I64 th,I64 lo] (Bo b):=by
 have:∃ y,EvQ Cx 141 [.agg (cCd x),I64 th,I64 lo] y∧isBo y:=by
  have ht:=fun H h=>cond_top x th lo H 0 hx h
  obtain⟨k,t,n,v,l⟩:=x
  rw[cCd]at ht ⊢
  refine evG_of CxB141 rfl (by simp[fn141]) ?_
  simp(disch:=omega)only[go_sem,simprocAttr]
  refine passK_ex (ht _ rfl) ?_
  rintro y K ⟨⟨b,rfl⟩,rfl⟩
  simp(disch:=omega)only[go_sem,simprocAttr]
  exact⟨_,rfl⟩
 obtain⟨_,h,b,rfl⟩:=this
 exact⟨b,h⟩
end Go.Proofs.YtpdphobnchajbaaGreatDoor.Ev
