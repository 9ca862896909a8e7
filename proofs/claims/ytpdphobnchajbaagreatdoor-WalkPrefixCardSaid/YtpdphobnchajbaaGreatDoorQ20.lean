/- check: a condition, whatever its tree. -/
import Derived.Test.YtpdphobnchajbaaGreatDoorQ19
set_option linter.unusedSimpArgs false
set_option linter.unusedVariables false
namespace Go.Proofs.YtpdphobnchajbaaGreatDoor.Ev
open Go Go.RowKit
set_option maxRecDepth 100000
set_option maxHeartbeats 16000000
inductive Cd where
 |mk (k t n v:Int) (l:List Cd)
mutual
def cCd:Cd→List A
 |.mk k t n v l=>[I8 k,I8 t,I8 n,I8 v,.sl l.length (eP l)]
def eP:List Cd→List A
 |[]=>[]
 |x::l=>cCd x++eP l
end
mutual
def nG:Cd→Prop
 |.mk k t n v l=>(0≤k∧k<256)∧(0≤t∧t<256)∧(0≤n∧n<256)∧(0≤v∧v<256)∧l.length≤140737488351232∧nR l
def nR:List Cd→Prop
 |[]=>True
 |x::l=>nG x∧nR l
end
theorem tX(x:Cd):(cCd x).length=5:=by
 cases x
 rw[cCd]
 rfl
theorem nI:∀ l:List Cd,(eP l).length=l.length*5
 |[]=>by rw[eP];rfl
 |x::l=>by rw[eP,List.length_append,tX,nI l,List.length_cons];omega
theorem qU:∀{l:List Cd} {i:Nat} {x:Cd},l[i]?=some x→∃ r,(eP l).drop (i*5)=cCd x++r
 |[],i,x,h=>by simp at h
 |y::l,0,x,h=>by
  simp only[List.getElem?_cons_zero,Option.some.injEq]at h
  subst h
  rw[eP]
  exact⟨_,rfl⟩
 |y::l,i+1,x,h=>by
  obtain⟨r,hr⟩:=qU (l:=l) (i:=i) (x:=x) (by simpa using h)
  refine⟨r,?_⟩
  rw[eP,show(i+1)*5=5+i*5 by omega,← List.drop_drop,List.drop_left' (tX y),hr]
theorem yQ:∀{l:List Cd} {i:Nat} {x:Cd},nR l→l[i]?=some x→nG x
 |[],i,x,_,h=>by simp at h
 |y::l,0,x,ho,h=>by
  simp only[List.getElem?_cons_zero,Option.some.injEq]at h
  subst h
  rw[nR]at ho
  exact ho.1
 |y::l,i+1,x,ho,h=>by
  rw[nR]at ho
  exact yQ (l:=l) (i:=i) ho.2 (by simpa using h)
def nA(p:A)(th lo d:Int)(H:aG):Prop:=bW Cx 204 [p,I64 th,I64 lo,I64 d] H fun y K=>hJ y∧K=H
theorem ZO(p:A)(th lo:Int)(H:aG):nA p th lo 0 H:=by
 unfold nA
 rw[aP NP OA];refine⟨by simp[yU],?_⟩
 simp(disch:=omega)only[go_sem,simprocAttr,aE]
 exact⟨_,rfl⟩
theorem XM(d:Nat)(hd:d<20)(ih:∀(x:Cd) (r:List A) (th lo:Int) (H:aG),nG x→nA (.fp (cCd x++r)) th lo d H)(x:Cd)(r:List A)(th lo:Int)(H:aG)(hx:nG x):nA (.fp (cCd x++r)) th lo ((d:Int)+1) H:=by
 obtain⟨k,t,n,v,l⟩:=x
 rw[nG]at hx
 obtain⟨hk,ht,hn,hv,hl,ho⟩:=hx
 rw[cCd]
 unfold nA at ih
 have loop:∀(m i:Nat),i+m=l.length→bG Cx (.code (.loop EP)::.blk 1::.code (.seq (.reg [] [⟨some 8,.assign (.const (.bool true)),none⟩] 0) .ret)::[]) ⟨[(0,.fp ([I8 k,I8 t,I8 n,I8 v,.sl l.length (eP l)]++r)),(1,I64 th),(2,I64 lo),(3,I64 ((d:Int)+1)),(124,I64 l.length),(125,I64 i)],H⟩ (lB Cx [.tmp 8] fun y K=>hJ y∧K=H):=by
  intro m
  induction m with
  |zero =>
   intro i hi
   rw[aA]
   simp(disch:=omega)only[go_sem,simprocAttr,aE]
   exact⟨_,rfl⟩
  |succ m ihm =>
   intro i hi
   obtain⟨x,hx⟩:∃ x,l[i]?=some x:=⟨_,List.getElem?_eq_getElem (by omega)⟩
   obtain⟨r',hr'⟩:=qU hx
   have hlen:=nI l
   rw[aA]
   simp(disch:=omega)only[go_sem,simprocAttr,hr']
   rw[show(d:Int)+1-1=d by omega]
   refine aM (ih x r' th lo H (yQ ho hx)) ?_
   rintro y K ⟨⟨b,rfl⟩,rfl⟩
   cases b
   ·simp(disch:=omega)only[go_sem,simprocAttr,aE]
    exact⟨_,rfl⟩
   ·simp(disch:=omega)only[go_sem,simprocAttr]
    rw[aB (l:=[0,1,2,3,124,125]) rfl]
    simp(disch:=omega)only[go_sem,simprocAttr]
    have:=ihm (i+1) (by omega)
    simpa only[Int.natCast_add,Int.natCast_one,List.cons_append,List.nil_append]using this
 unfold nA
 rw[aP NP OA];refine⟨by simp[yU],?_⟩
 simp(disch:=omega)only[go_sem,simprocAttr]
 repeat' (((first|refine bD (fun hb=>?_) (fun hb=>?_)|refine bY (fun hb=>?_) (fun hb=>?_))<;>(first|subst hb|(have hc:=hb;simp only[decide_eq_true_eq,decide_eq_false_iff_not,beq_iff_eq,bne_iff_ne,beq_eq_false_iff_ne,bne_eq_false_iff_eq,Bool.not_eq_eq_eq_not,Bool.not_true,Bool.not_false,ne_eq,Int.not_lt]at hc)|skip))<;>(first|simp(disch:=omega)only[go_sem,simprocAttr,hb,aE]|simp(disch:=omega)only[go_sem,simprocAttr,aW,aE]))
 all_goals first|exact⟨⟨_,rfl⟩,trivial⟩|exact⟨_,rfl⟩|(rw[aB (l:=[0,1,2,3,124,125]) rfl];simp(disch:=omega)only[go_sem,simprocAttr];exact loop _ 0 (Nat.zero_add _))|done
theorem HL:∀ d:Nat,d≤20→∀(x:Cd) (r:List A) (th lo:Int) (H:aG),nG x→nA (.fp (cCd x++r)) th lo d H
 |0,_,x,r,th,lo,H,_=>ZO _ th lo H
 |d+1,h,x,r,th,lo,H,hx=>by
  have:=XM d (by omega) (HL d (by omega)) x r th lo H hx
  simpa only[Int.natCast_add,Int.natCast_one]using this
theorem aFh(x:Cd)(th lo:Int)(H:aG)(b:Nat)(hx:nG x)(hb0:H[b]?=some (some ⟨27,cCd x,true⟩)):nA (.ptr b 0) th lo 20 H:=by
 have ih:=HL 19 (by decide)
 obtain⟨k,t,n,v,l⟩:=x
 rw[nG]at hx
 obtain⟨hk,ht,hn,hv,hl,ho⟩:=hx
 rw[cCd]at hb0
 unfold nA at ih
 have loop:∀(m i:Nat),i+m=l.length→bG Cx (.code (.loop EP)::.blk 1::.code (.seq (.reg [] [⟨some 8,.assign (.const (.bool true)),none⟩] 0) .ret)::[]) ⟨[(0,.ptr b 0),(1,I64 th),(2,I64 lo),(3,I64 20),(124,I64 l.length),(125,I64 i)],H⟩ (lB Cx [.tmp 8] fun y K=>hJ y∧K=H):=by
  intro m
  induction m with
  |zero =>
   intro i hi
   rw[aA]
   simp(disch:=omega)only[go_sem,simprocAttr,aE]
   exact⟨_,rfl⟩
  |succ m ihm =>
   intro i hi
   obtain⟨x,hx⟩:∃ x,l[i]?=some x:=⟨_,List.getElem?_eq_getElem (by omega)⟩
   obtain⟨r',hr'⟩:=qU hx
   have hlen:=nI l
   rw[aA]
   simp(disch:=omega)only[go_sem,simprocAttr,hr',hb0]
   refine aM (ih x r' th lo H (yQ ho hx)) ?_
   rintro y K ⟨⟨b',rfl⟩,rfl⟩
   cases b'
   ·simp(disch:=omega)only[go_sem,simprocAttr,aE]
    exact⟨_,rfl⟩
   ·simp(disch:=omega)only[go_sem,simprocAttr]
    rw[aB (l:=[0,1,2,3,124,125]) rfl]
    simp(disch:=omega)only[go_sem,simprocAttr]
    have:=ihm (i+1) (by omega)
    simpa only[Int.natCast_add,Int.natCast_one,List.cons_append,List.nil_append]using this
 unfold nA
 rw[aP NP OA];refine⟨by simp[yU],?_⟩
 simp(disch:=omega)only[go_sem,simprocAttr,hb0]
 repeat' (((first|refine bD (fun hb=>?_) (fun hb=>?_)|refine bY (fun hb=>?_) (fun hb=>?_))<;>(first|subst hb|(have hc:=hb;simp only[decide_eq_true_eq,decide_eq_false_iff_not,beq_iff_eq,bne_iff_ne,beq_eq_false_iff_ne,bne_eq_false_iff_eq,Bool.not_eq_eq_eq_not,Bool.not_true,Bool.not_false,ne_eq,Int.not_lt]at hc)|skip))<;>(first|simp(disch:=omega)only[go_sem,simprocAttr,hb,hb0,aE]|simp(disch:=omega)only[go_sem,simprocAttr,hb0,aW,aE]))
 all_goals first|exact⟨⟨_,rfl⟩,trivial⟩|exact⟨_,rfl⟩|(rw[aB (l:=[0,1,2,3,124,125]) rfl];simp(disch:=omega)only[go_sem,simprocAttr];exact loop _ 0 (Nat.zero_add _))|done
theorem aJh(x:Cd)(th lo:Int)(hx:nG x):∃ b,EvQ Cx 141 [.agg (cCd x),I64 th,I64 lo] (Bo b):=by
 have:∃ y,EvQ Cx 141 [.agg (cCd x),I64 th,I64 lo] y∧hJ y:=by
  have ht:=fun H h=>aFh x th lo H 0 hx h
  obtain⟨k,t,n,v,l⟩:=x
  rw[cCd]at ht ⊢
  refine cA aZ1 rfl (by simp[LC]) ?_
  simp(disch:=omega)only[go_sem,simprocAttr]
  refine aM (ht _ rfl) ?_
  rintro y K ⟨⟨b,rfl⟩,rfl⟩
  simp(disch:=omega)only[go_sem,simprocAttr]
  exact⟨_,rfl⟩
 obtain⟨_,h,b,rfl⟩:=this
 exact⟨b,h⟩
end Go.Proofs.YtpdphobnchajbaaGreatDoor.Ev
