/- net: which messages are next. -/
import Derived.Test.YtpdphobnchajbaaGreatDoorQ26
import Derived.Test.YtpdphobnchajbaaGreatDoorQ29
set_option linter.unusedSimpArgs false
set_option linter.unusedVariables false
namespace Go.Proofs.YtpdphobnchajbaaGreatDoor.Ev
open Go Go.RowKit
set_option maxRecDepth 100000
set_option maxHeartbeats 16000000
def aJs(k:Int):Int:=if k≤0 then 0 else if k≤3 then 1 else if k≤5 then 3 else if k≤9 then 2 else if k≤12 then 3 else 0
theorem aFD{k:Int}(hk:0≤k∧k<256):EvQ Cx 154 [I8 k] (I8 (aJs k)):=by
 by_cases h:k<13
 ·have h13:k=0∨k=1∨k=2∨k=3∨k=4∨k=5∨k=6∨k=7∨k=8∨k=9∨k=10∨k=11∨k=12:=by omega
  rcases h13 with rfl|rfl|rfl|rfl|rfl|rfl|rfl|rfl|rfl|rfl|rfl|rfl|rfl<;>exact bI 100 (by kernel_rfl)
 ·have hc:aJs k=0:=by unfold aJs;split<;>(try split)<;>(try split)<;>(try split)<;>(try split)<;>omega
  rw[hc]
  refine aX aQz rfl (by simp[IA]) ?_
  simp(disch:=omega)only[go_sem,simprocAttr]
def qcN(md:Int)(m:Mg):Int:=if md=3 then aJs m.kind else 0
theorem aCG{m:Mg}(mo:m.Ok)(md:Int):EvQ Cx 199 [eM m,I8 md] (.agg [I8 m.src,I8 m.dst,I8 (qcN md m)]):=by
 have hc:=aFD mo.kind
 refine aX aU7 rfl (by simp[MF]) ?_
 unfold qcN
 by_cases h:md=3
 ·rw[if_pos h]
  simp(disch:=omega)only[go_sem,simprocAttr,QK.use hc]
 ·rw[if_neg h]
  simp(disch:=omega)only[go_sem,simprocAttr]
theorem aAG(md:Int):EvQ Cx 126 [I8 md] (Bo (decide (1≤md∧md≤3))):=by
 refine aX aYB rfl (by simp[KC]) ?_
 by_cases h1:1≤md
 ·by_cases h2:md≤3
  ·rw[decide_eq_true ⟨h1,h2⟩]
   simp(disch:=omega)only[go_sem,simprocAttr]
  ·rw[decide_eq_false (fun h=>h2 h.2)]
   simp(disch:=omega)only[go_sem,simprocAttr]
 ·rw[decide_eq_false (fun h=>h1 h.1)]
  simp(disch:=omega)only[go_sem,simprocAttr]
structure En where
 a:Int
 b:Int
 c:Int
 n:Int
abbrev cN(e:En):List A:=[.v (.agg #[.int .u8 e.a,.int .u8 e.b,.int .u8 e.c]),I64 e.n]
def En.hit(a b c:Int)(e:En):Bool:=decide (a=e.a∧b=e.b∧c=e.c)
def fN(a b c:Int):List En→Nat→Option (Nat×A)
 |[],_=>none
 |e::es,i=>bif e.hit a b c then some (i,I64 e.n)else fN a b c es (i+1)
theorem aT4(a b c:Int)(e:En):eqT Cx.T 20 163 [I8 a,I8 b,I8 c] [I8 e.a,I8 e.b,I8 e.c]=some (e.hit a b c):=by
 unfold En.hit
 by_cases h1:a=e.a
 ·by_cases h2:b=e.b
  ·by_cases h3:c=e.c
   ·rw[decide_eq_true ⟨h1,h2,h3⟩]
    simp(disch:=omega)only[go_sem,simprocAttr,h1,h2,h3]
   ·rw[decide_eq_false (fun h=>h3 h.2.2)]
    simp(disch:=omega)only[go_sem,simprocAttr,h1,h2,cZ h3]
  ·rw[decide_eq_false (fun h=>h2 h.2.1)]
   simp(disch:=omega)only[go_sem,simprocAttr,h1,cZ h2]
 ·rw[decide_eq_false (fun h=>h1 h.1)]
  simp(disch:=omega)only[go_sem,simprocAttr,cZ h1]
theorem kW(a b c:Int):∀(es:List En) (i:Nat),pQ Cx.T 163 [I8 a,I8 b,I8 c] (cells cN es) i=some (fN a b c es i)
 |[],_=>rfl
 |e::es,i=>by
  have h:=aT4 a b c e
  show pQ Cx.T 163 [I8 a,I8 b,I8 c] (.v (.agg #[.int .u8 e.a,.int .u8 e.b,.int .u8 e.c])::I64 e.n::cells cN es) i=_
  rw[pQ]
  show(match eqT Cx.T 20 163 [I8 a,I8 b,I8 c] [I8 e.a,I8 e.b,I8 e.c]with
   |some true=>some (some (i,I64 e.n))
   |some false=>pQ Cx.T 163 [I8 a,I8 b,I8 c] (cells cN es) (i+1)
   |none=>none)=_
  rw[h,fN]
  cases e.hit a b c with
  |true=>rfl
  |false=>exact kW a b c es (i+1)
theorem RB{a b c:Int}:∀{es:List En} {i k:Nat} {x:A},fN a b c es i=some (k,x)→∃(j:Nat) (e:En),k=i+j∧es[j]?=some e∧(e.a=a∧e.b=b∧e.c=c)∧x=I64 e.n∧∀ n' i',fN a b c (es.set j ⟨a,b,c,n'⟩) i'=some (i'+j,I64 n')
 |[],_,_,_,h=>by cases h
 |e::es,i,k,x,h=>by
  rw[fN]at h
  cases hh:e.hit a b c with
  |true =>
   rw[hh]at h
   simp only[cond_true,Option.some.injEq,Prod.mk.injEq]at h
   obtain⟨rfl,rfl⟩:=h
   have:=of_decide_eq_true hh
   refine⟨0,e,rfl,rfl,⟨this.1.symm,this.2.1.symm,this.2.2.symm⟩,rfl,fun n' i'=>?_⟩
   rw[List.set_cons_zero,fN]
   have:(⟨a,b,c,n'⟩:En).hit a b c=true:=decide_eq_true ⟨rfl,rfl,rfl⟩
   rw[this]
   rfl
  |false =>
   rw[hh]at h
   obtain⟨j,e',h1,h2,h3,h4,h5⟩:=RB (es:=es) (by simpa using h)
   refine⟨j+1,e',by omega,by simpa using h2,h3,h4,fun n' i'=>?_⟩
   rw[List.set_cons_succ,fN,hh,cond_false,h5]
   congr 2
   omega
theorem FI{a b c:Int}(n:Int):∀{es:List En} {i:Nat},fN a b c es i=none→fN a b c (es++[⟨a,b,c,n⟩]) i=some (i+es.length,I64 n)
 |[],i,_=>by
  rw[List.nil_append,fN]
  have:(⟨a,b,c,n⟩:En).hit a b c=true:=decide_eq_true ⟨rfl,rfl,rfl⟩
  rw[this]
  rfl
 |e::es,i,h=>by
  rw[fN]at h
  cases hh:e.hit a b c with
  |true=>rw[hh]at h;cases h
  |false =>
   rw[hh]at h
   rw[List.cons_append,fN,hh,cond_false,FI n (by simpa using h),List.length_cons]
   congr 2
   omega
theorem oF(es:List En):(cells cN es).length=es.length*2:=eE cN 2 (fun _=>rfl) es
theorem PL(n':Int):∀{es:List En} {j:Nat} {e:En},es[j]?=some e→(cells cN es).set (2*j+1) (I64 n')=cells cN (es.set j ⟨e.a,e.b,e.c,n'⟩)
 |[],j,e,h=>by simp at h
 |e0::es,0,e,h=>by
  simp only[List.getElem?_cons_zero,Option.some.injEq]at h
  subst h
  rfl
 |e0::es,j+1,e,h=>by
  have:=PL n' (es:=es) (j:=j) (e:=e) (by simpa using h)
  rw[List.set_cons_succ,cells,cells,← this]
  show(.v (.agg #[.int .u8 e0.a,.int .u8 e0.b,.int .u8 e0.c])::I64 e0.n::cells cN es).set (2*j+1+1+1) (I64 n')=_
  rw[List.set_cons_succ,List.set_cons_succ]
  rfl
theorem aDC:∀{es:List En} {j:Nat} {e:En},es[j]?=some e→pJ (.agg #[.int .u8 e.a,.int .u8 e.b,.int .u8 e.c]) (cells cN es)[2*j]?=true
 |[],j,e,h=>by simp at h
 |e0::es,0,e,h=>by
  simp only[List.getElem?_cons_zero,Option.some.injEq]at h
  subst h
  show pJ _ (some (.v (.agg #[.int .u8 e0.a,.int .u8 e0.b,.int .u8 e0.c])))=true
  simp[pJ,m7]
 |e0::es,j+1,e,h=>by
  have:=aDC (es:=es) (j:=j) (e:=e) (by simpa using h)
  show pJ _ (.v (.agg #[.int .u8 e0.a,.int .u8 e0.b,.int .u8 e0.c])::I64 e0.n::cells cN es)[2*j+1+1]?=true
  rw[List.getElem?_cons_succ,List.getElem?_cons_succ]
  exact this
theorem xM(es:List En)(a b c n:Int):cells cN es++[.v (.agg #[.int .u8 a,.int .u8 b,.int .u8 c]),I64 n]=cells cN (es++[⟨a,b,c,n⟩]):=by
 rw[dP]
 rfl
theorem WU(n:Nat):n*2/2=n:=Nat.mul_div_cancel _ (by omega)
abbrev cJ(i:Nat):List A:=[I64 i]
def K7(T:aG)(v:A)(os:List Nat):Prop:=(os=[]∧v=.v (.slice none 0 0))∨(os≠[]∧∃ j,v=.ref (j+5) 0 os.length 1∧T[j]?=some (some ⟨3,cells cJ os,false⟩))
theorem vD(os:List Nat):(cells cJ os).length=os.length:=by
 have:=eE cJ 1 (fun _=>rfl) os
 omega
theorem sY(os:List Nat):(cells cJ os).take os.length=cells cJ os:=List.take_of_length_le (by rw[vD];omega)
theorem yH(os:List Nat)(i:Nat):cells cJ os++[I64 i]=cells cJ (os++[i]):=by
 rw[dP]
 rfl
theorem K7.app{T:aG}{v:A}{os:List Nat}(h:K7 T v os)(l:aG):K7 (T++l) v os:=by
 rcases h with h|⟨h0,j,h1,h2⟩
 ·exact .inl h
 ·exact .inr ⟨h0,j,h1,aI h2 l⟩
theorem PT{l:List Mg}(ml:∀ m∈l,m.Ok)(hl:l.length≤64){md:Int}{KK:List It}{Q:Ex→Ev.St→Prop}
  (hE:∀(T:aG) (v:A) (os:List Nat) (es:List En) (e:Env),K7 T v os→(∀ i∈os,i<l.length)→os.length≤64→dN Cx (.out 0) KK ⟨e,some ⟨75,[v],true⟩::some ⟨56,[.sl l.length (cells cM l)],true⟩::some ⟨5,[I8 md],true⟩::some ⟨0,[.lrec 19 [13] [5] EQ FU,I64 0,I64 0,.ptr 0 0],true⟩::some ⟨318,cells cN es,true⟩::T⟩ Q) :
  ∀(m i:Nat) (T:aG) (v:A) (os:List Nat) (es:List En),i+m=l.length→K7 T v os→(∀ k∈os,k<l.length)→os.length≤i→(∀ e∈es,0≤e.n∧e.n≤i)→es.length≤i →
   bG Cx (.code (.loop FO)::KK) ⟨[(0,.yl 3),(2,.ptr 2 0),(4,.mp 4),(9,.sl l.length (cells cM l)),(10,I64 l.length),(11,I64 i)],some ⟨75,[v],true⟩::some ⟨56,[.sl l.length (cells cM l)],true⟩::some ⟨5,[I8 md],true⟩::some ⟨0,[.lrec 19 [13] [5] EQ FU,I64 0,I64 0,.ptr 0 0],true⟩::some ⟨318,cells cN es,true⟩::T⟩ Q:=by
 intro m
 induction m with
 |zero =>
  intro i T v os es hi hO ho hol he hel
  obtain rfl:i=l.length:=by omega
  rw[aA]
  simp(disch:=omega)only[go_sem,simprocAttr,Int.lt_irrefl]
  exact hE _ _ _ _ _ hO ho (by omega)
 |succ m ih =>
  intro i T v os es hi hO ho hol he hel
  obtain⟨x,hx⟩:∃ x,l[i]?=some x:=⟨_,List.getElem?_eq_getElem (by omega)⟩
  have xo:=ml x (List.mem_of_getElem? hx)
  obtain⟨r,hr⟩:=jE cM 11 (fun _=>rfl) [] hx
  rw[List.append_nil]at hr
  have hq:=aCG xo md
  have hil:i<l.length:=by omega
  have nx:∀(T:aG) (v:A) (os:List Nat) (es:List En),K7 T v os→(∀ k∈os,k<l.length)→os.length≤i+1→(∀ e∈es,0≤e.n∧e.n≤(i:Int)+1)→es.length≤i+1 →
    bG Cx (.code (.loop FO)::KK) ⟨[(0,.yl 3),(2,.ptr 2 0),(4,.mp 4),(9,.sl l.length (cells cM l)),(10,I64 l.length),(11,I64 ((i:Int)+1))],some ⟨75,[v],true⟩::some ⟨56,[.sl l.length (cells cM l)],true⟩::some ⟨5,[I8 md],true⟩::some ⟨0,[.lrec 19 [13] [5] EQ FU,I64 0,I64 0,.ptr 0 0],true⟩::some ⟨318,cells cN es,true⟩::T⟩ Q:=fun T v os es h1 h2 h3 h4 h5=>by
   have:=ih (i+1) T v os es (by omega) h1 h2 h3 (fun e he=>by have:=h4 e he;omega) h5
   simpa only[Int.natCast_add,Int.natCast_one]using this
  rw[aA]
  have own1:∀(b:Option Blk) (b1:Option Blk) (b2:Option Blk),K7 (T++[b,b1,b2,some ⟨3,[I64 i],false⟩]) (.ref (T.length+3+1+1+1+1+1) 0 1 1) [i]:=fun b b1 b2=>.inr ⟨by simp,T.length+3,rfl,aZ T _ 3⟩
  have own2:∀(j:Nat) (b:Option Blk) (b1:Option Blk) (b2:Option Blk),K7 ((T++[b,b1,b2]).set j none++[some ⟨3,cells cJ (os++[i]),false⟩]) (.ref (T.length+3+1+1+1+1+1) 0 (os.length+1) 1) (os++[i]):=fun j b b1 b2=>.inr ⟨by simp,T.length+3,by rw[List.length_append];rfl,by rw[List.getElem?_append_right (by simp)];simp⟩
  have ho1:∀ k∈[i],k<l.length:=fun k h=>by rw[List.mem_singleton.1 h];exact hil
  have ho2:∀ k∈os++[i],k<l.length:=fun k h=>(List.mem_append.1 h).elim (ho k) fun h=>by rw[List.mem_singleton.1 h];exact hil
  have hl2:(os++[i]).length≤i+1:=by simp;omega
  cases hf:fN x.src x.dst (qcN md x) es 0 with
  |none =>
   have f2:=FI 0 hf
   have f3:=FI 1 hf
   rw[Nat.zero_add]at f2 f3
   have hs:(cells cN (es++[⟨x.src,x.dst,qcN md x,0⟩])).set (2*es.length+1) (I64 1)=cells cN (es++[⟨x.src,x.dst,qcN md x,1⟩]):=by
    rw[PL 1 (j:=es.length) (e:=⟨x.src,x.dst,qcN md x,0⟩) (by simp)]
    simp
   have hb3:∀ e∈es++[⟨x.src,x.dst,qcN md x,1⟩],0≤e.n∧e.n≤(i:Int)+1:=fun e h=>by
    rcases List.mem_append.1 h with h|h
    ·have:=he e h
     omega
    ·rw[List.mem_singleton.1 h]
     simp only
     omega
   have hl3:(es++[(⟨x.src,x.dst,qcN md x,1⟩:En)]).length≤i+1:=by simp;omega
   by_cases hb:md=1
   ·subst hb
    generalize qcN 1 x=qq at *
    rcases hO with⟨rfl,rfl⟩|⟨h0,j,rfl,hj⟩
    ·simp(disch:=omega)only[go_sem,simprocAttr,dC,eU,bP,dK,bX,dM,bS,fK.blk,dY,bN,hr,QK.use hq,kB,jP,tB,kY,nH,List.size_toArray,kW,hf,hs,oF,WU,maxLen,Nat.mul_one,f2,xM]
     rw[aB (l:=[0,2,4,9,10,11]) rfl];simp(disch:=omega)only[go_sem,simprocAttr]
     exact nx _ _ _ _ (own1 _ _ _) ho1 (by simp) hb3 hl3
    ·simp(disch:=omega)only[go_sem,simprocAttr,dC,eU,bP,dK,bX,dM,bS,fK.blk,dY,bN,hr,QK.use hq,kB,jP,tB,kY,nH,List.size_toArray,kW,hf,hs,oF,vD,sY,yH,WU,maxLen,Nat.mul_one,f2,xM,aI hj]
     rw[aB (l:=[0,2,4,9,10,11]) rfl];simp(disch:=omega)only[go_sem,simprocAttr]
     exact nx _ _ _ _ (own2 _ _ _ _) ho2 hl2 hb3 hl3
   ·generalize qcN md x=qq at *
    rcases hO with⟨rfl,rfl⟩|⟨h0,j,rfl,hj⟩
    ·simp(disch:=omega)only[go_sem,simprocAttr,dC,eU,bP,dK,bX,dM,bS,fK.blk,dY,bN,hr,QK.use hq,kB,jP,tB,kY,nH,List.size_toArray,kW,hf,f3,hs,oF,WU,maxLen,Nat.mul_one,f2,xM]
     rw[aB (l:=[0,2,4,9,10,11]) rfl];simp(disch:=omega)only[go_sem,simprocAttr]
     exact nx _ _ _ _ (own1 _ _ _) ho1 (by simp) hb3 hl3
    ·simp(disch:=omega)only[go_sem,simprocAttr,dC,eU,bP,dK,bX,dM,bS,fK.blk,dY,bN,hr,QK.use hq,kB,jP,tB,kY,nH,List.size_toArray,kW,hf,f3,hs,oF,vD,sY,yH,WU,maxLen,Nat.mul_one,f2,xM,aI hj]
     rw[aB (l:=[0,2,4,9,10,11]) rfl];simp(disch:=omega)only[go_sem,simprocAttr]
     exact nx _ _ _ _ (own2 _ _ _ _) ho2 hl2 hb3 hl3
  |some r =>
   obtain⟨k,y⟩:=r
   obtain⟨j,e,rfl,hej,⟨ea,eb,ec⟩,rfl,hset⟩:=RB hf
   rw[Nat.zero_add]at hf
   have f3:=hset (e.n+1) 0
   rw[Nat.zero_add]at f3
   have hs:=PL (e.n+1) hej
   have hk:=aDC hej
   rw[ea,eb,ec]at hs hk
   obtain⟨n1,n2⟩:=he e (List.mem_of_getElem? hej)
   have hjl:j<es.length:=(List.getElem?_eq_some_iff.1 hej).1
   have hb3:∀ e'∈es.set j ⟨x.src,x.dst,qcN md x,e.n+1⟩,0≤e'.n∧e'.n≤(i:Int)+1:=fun e' h=>by
    rcases List.mem_or_eq_of_mem_set h with h|h
    ·have:=he e' h
     omega
    ·rw[h]
     simp only
     omega
   have hl3:(es.set j (⟨x.src,x.dst,qcN md x,e.n+1⟩:En)).length≤i+1:=by simp;omega
   by_cases hb:md=1
   ·subst hb
    generalize qcN 1 x=qq at *
    rcases hO with⟨rfl,rfl⟩|⟨h0,j',rfl,hj⟩
    ·simp(disch:=omega)only[go_sem,simprocAttr,dC,eU,bP,dK,bX,dM,bS,fK.blk,dY,bN,hr,QK.use hq,kB,jP,tB,kY,nH,List.size_toArray,kW,hf,hs,oF,maxLen,Nat.mul_one,hk]
     rw[aB (l:=[0,2,4,9,10,11]) rfl];simp(disch:=omega)only[go_sem,simprocAttr]
     exact nx _ _ _ _ (own1 _ _ _) ho1 (by simp) hb3 hl3
    ·simp(disch:=omega)only[go_sem,simprocAttr,dC,eU,bP,dK,bX,dM,bS,fK.blk,dY,bN,hr,QK.use hq,kB,jP,tB,kY,nH,List.size_toArray,kW,hf,hs,oF,vD,sY,yH,maxLen,Nat.mul_one,hk,aI hj]
     rw[aB (l:=[0,2,4,9,10,11]) rfl];simp(disch:=omega)only[go_sem,simprocAttr]
     exact nx _ _ _ _ (own2 _ _ _ _) ho2 hl2 hb3 hl3
   ·generalize qcN md x=qq at *
    by_cases hz:e.n=0
    ·rcases hO with⟨rfl,rfl⟩|⟨h0,j',rfl,hj⟩
     ·simp(disch:=omega)only[go_sem,simprocAttr,dC,eU,bP,dK,bX,dM,bS,fK.blk,dY,bN,hr,QK.use hq,kB,jP,tB,kY,nH,List.size_toArray,kW,hf,f3,hs,oF,maxLen,Nat.mul_one,hk]
      rw[aB (l:=[0,2,4,9,10,11]) rfl];simp(disch:=omega)only[go_sem,simprocAttr]
      exact nx _ _ _ _ (own1 _ _ _) ho1 (by simp) hb3 hl3
     ·simp(disch:=omega)only[go_sem,simprocAttr,dC,eU,bP,dK,bX,dM,bS,fK.blk,dY,bN,hr,QK.use hq,kB,jP,tB,kY,nH,List.size_toArray,kW,hf,f3,hs,oF,vD,sY,yH,maxLen,Nat.mul_one,hk,aI hj]
      rw[aB (l:=[0,2,4,9,10,11]) rfl];simp(disch:=omega)only[go_sem,simprocAttr]
      exact nx _ _ _ _ (own2 _ _ _ _) ho2 hl2 hb3 hl3
    ·simp(disch:=omega)only[go_sem,simprocAttr,hr,QK.use hq,kB,jP,tB,kY,nH,List.size_toArray,kW,hf,f3,hs,oF,hk]
     rw[aB (l:=[0,2,4,9,10,11]) rfl];simp(disch:=omega)only[go_sem,simprocAttr]
     exact nx _ _ _ _ (hO.app _) ho (by omega) hb3 hl3
theorem aOt(H:aG)(n:Nat):∀ l:List Nat,bQ (freeze H (n+1)) (cells cJ l)=some (cells cJ l)
 |[]=>rfl
 |x::l=>by
  simp only[cells,List.cons_append,List.nil_append,cV,qY,aOt H n l]
theorem aAU:∀ l:List Nat,fA (cells cJ l)=cells cJ l
 |[]=>rfl
 |x::l=>by
  simp only[cells,List.cons_append,List.nil_append,fA,nrm,aAU l]
theorem aDi{l:List Mg}(ml:∀ m∈l,m.Ok)(hl:l.length≤64){md:Int}(h1:1≤md)(h3:md≤3) :
  ∃ os:List Nat,EvQ Cx 64 [.sl l.length (cells cM l),I8 md] (.sl os.length (cells cJ os))∧(∀ i∈os,i<l.length)∧os.length≤64:=by
 have:∃ y,EvQ Cx 64 [.sl l.length (cells cM l),I8 md] y∧∃ os:List Nat,y=.sl os.length (cells cJ os)∧(∀ i∈os,i<l.length)∧os.length≤64:=by
  have hk:=aAG md
  rw[decide_eq_true ⟨h1,h3⟩]at hk
  refine cA a7i rfl (by simp[aBw]) ?_
  simp(disch:=omega)only[go_sem,simprocAttr,lM,oI,gP,QK.use hk,aK a0T aT0]
  rw[aP aTM a2N]
  refine⟨by simp[II],?_⟩
  simp(disch:=omega)only[go_sem,simprocAttr]
  rw[aB (l:=[0,2,4,9,10,11]) rfl]
  simp(disch:=omega)only[go_sem,simprocAttr]
  refine PT ml hl ?_ l.length 0 [] (.v (.slice none 0 0)) [] [] (by omega) (.inl ⟨rfl,rfl⟩) (by simp) (by simp) (by simp) (by simp)
  intro T v os es e hO ho hol
  rcases hO with⟨rfl,rfl⟩|⟨h0,j,rfl,hj⟩
  ·simp(disch:=omega)only[go_sem,simprocAttr,aW,kO,cX,bN,pending,exOfN]
   exact⟨[],rfl,by simp,by simp⟩
  ·simp(disch:=omega)only[go_sem,simprocAttr,aW,kO,cX,bN,pending,exOfN,hj,vD,sY,aOt,aAU,Nat.mul_one]
   exact⟨os,rfl,ho,hol⟩
 obtain⟨_,h,os,rfl,h2⟩:=this
 exact⟨os,h,h2⟩
end Go.Proofs.YtpdphobnchajbaaGreatDoor.Ev
