/- Lexing: all tokens. -/
import Derived.Test.YtpdphobnchajbaaGreatDoorQ12
import Derived.Test.YtpdphobnchajbaaGreatDoorQ09
set_option linter.unusedSimpArgs false
set_option linter.unusedVariables false
namespace Go.Proofs.YtpdphobnchajbaaGreatDoor.Ev
open Go Go.RowKit
set_option maxRecDepth 100000
set_option maxHeartbeats 8000000
structure Tok where
 k:Int
 t:ByteArray
 p:Int
abbrev cT(x:Tok):List A:=[I8 x.k,Sv x.t,I64 x.p]
def M1(K:aG)(v:A)(l:List Tok):Prop:=(l=[]∧v=.v (.slice none 0 0))∨(l≠[]∧∃ j,v=.ref (j+6) 0 l.length 3∧K[j]?=some (some ⟨325,cells cT l,false⟩))
theorem BZ{α:Type}(c:α→List A)(n:Nat)(h:∀ x,(c x).length=n):∀ l:List α,(cells c l).length=l.length*n
 |[]=>by simp[cells]
 |x::l=>by rw[cells,List.length_append,h,BZ c n h l,List.length_cons,Nat.add_mul];omega
theorem NG(l:List Tok):(cells cT l).length=l.length*3:=BZ cT 3 (fun _=>rfl) l
theorem SO(l:List Tok):(cells cT l).take (l.length*3)=cells cT l:=List.take_of_length_le (by rw[NG];omega)
theorem aM0(l:List Tok)(k:Int)(t:ByteArray)(p:Int):cells cT l++[I8 k,Sv t,I64 p]=cells cT (l++[⟨k,t,p⟩]):=by
 rw[dP]
 rfl
theorem aA9{α:Type}{K:List α}{a b c d e f:α}(h0:K[0]?=some a)(h1:K[1]?=some b)(h2:K[2]?=some c)(h3:K[3]?=some d)(h4:K[4]?=some e)(h5:K[5]?=some f):∃ T,K=a::b::c::d::e::f::T:=by
 match K,h0,h1,h2,h3,h4,h5 with
 |a'::b'::c'::d'::e'::f'::T,h0,h1,h2,h3,h4,h5 =>
  cases h0;cases h1;cases h2;cases h3;cases h4;cases h5
  exact⟨T,rfl⟩
theorem M1.move{T T1:aG}{v:A}{l:List Tok}(h:M1 T v l){c:Nat}{e:TypeId}{cs:List A}(hc:T[c]?=some (some ⟨e,cs,true⟩))(hT:∀ i,i<T.length→T1[i]?=T[i]?)(x:Option Blk):M1 (T1.set c x) v l:=by
 rcases h with h|⟨h0,j,h1,h2⟩
 ·exact .inl h
 ·refine .inr ⟨h0,j,h1,?_⟩
  have hj:=(List.getElem?_eq_some_iff.1 h2).1
  have hne:c≠j:=by
   rintro rfl
   rw[hc]at h2
   cases h2
  rw[List.getElem?_set_ne hne,hT j hj]
  exact h2
section
variable{s:ByteArray}
theorem Y2(hs:s.size≤16384){KK:List It}{Q:Ex→Ev.St→Prop}
  (hE:∀(T:aG) (v:A) (l:List Tok) (p:Nat) (o:Bool) (e:Env),M1 T v l→l.length≤50000→dN Cx (.out 0) KK ⟨e,some ⟨320,[v],true⟩::some ⟨3,[I64 0],true⟩::some ⟨69,[I64 0],true⟩::scB s p o::some ⟨400,[.ptr 3 0],true⟩::some ⟨0,[.lrec 27 [15,16] [2,3,4] qL qS,I64 0,I64 0,.ptr 0 0,.ptr 1 0,.ptr 2 0],true⟩::T⟩ Q)
  (hX:∀(T:aG) (p:Nat) (o:Bool) (e:Env) (pl er:Int),dN Cx .back KK ⟨e,some ⟨320,[.v (.slice none 0 0)],true⟩::some ⟨3,[I64 pl],true⟩::some ⟨69,[I64 er],true⟩::scB s p o::some ⟨400,[.ptr 3 0],true⟩::some ⟨0,[.lrec 27 [15,16] [2,3,4] qL qS,I64 2,I64 1,.ptr 0 0,.ptr 1 0,.ptr 2 0],true⟩::T⟩ Q) :
  ∀(n:Nat) (T:aG) (v:A) (l:List Tok) (p:Nat) (o:Bool) (y:List A) (ok:Bool) (j:Nat),(ok=true→mu s p o<n)→M1 T v l→l.length≤50000→(ok=true→l.length+mu s p o≤40000)→(∃ M,aSr s y ok M p o)→T[j]?=some (some ⟨325,y,true⟩) →
   bG Cx (.code (.loop xR)::KK) ⟨[(0,.yl 5),(1,.ptr 4 0),(3,.ptr (j+6) 0),(4,Bo ok)],some ⟨320,[v],true⟩::some ⟨3,[I64 0],true⟩::some ⟨69,[I64 0],true⟩::scB s p o::some ⟨400,[.ptr 3 0],true⟩::some ⟨0,[.lrec 27 [15,16] [2,3,4] qL qS,I64 0,I64 0,.ptr 0 0,.ptr 1 0,.ptr 2 0],true⟩::T⟩ Q:=by
 have stop:∀(T:aG) (v:A) (l:List Tok) (p:Nat) (o:Bool) (j:Nat),M1 T v l→l.length≤50000→bG Cx (.code (.loop xR)::KK) ⟨[(0,.yl 5),(1,.ptr 4 0),(3,.ptr (j+6) 0),(4,Bo false)],some ⟨320,[v],true⟩::some ⟨3,[I64 0],true⟩::some ⟨69,[I64 0],true⟩::scB s p o::some ⟨400,[.ptr 3 0],true⟩::some ⟨0,[.lrec 27 [15,16] [2,3,4] qL qS,I64 0,I64 0,.ptr 0 0,.ptr 1 0,.ptr 2 0],true⟩::T⟩ Q:=fun T v l p o j hO hb=>by
  rw[aA]
  simp(disch:=omega)only[go_sem,simprocAttr]
  exact hE _ _ _ _ _ _ hO hb
 intro n
 induction n with
 |zero =>
  intro T v l p o y ok j hn hO hb
  cases ok with
  |true=>exact absurd (hn rfl) (by omega)
  |false=>exact fun _ _ _=>stop _ _ _ _ _ _ hO hb
 |succ n ih =>
  intro T v l p o y ok j hn hO hb hl hT hj
  cases ok with
  |false=>exact stop _ _ _ _ _ _ hO hb
  |true =>
   obtain⟨M,hT⟩:=hT
   obtain⟨k,t,a,rfl,hk,ht,h0,ha⟩:=hT.tok
   have hn:=hn rfl
   have hl:=hl rfl
   have hle:=hT.le
   clear hT
   have jT:=(List.getElem?_eq_some_iff.1 hj).1
   rw[aA]
   obtain⟨e,he⟩:=aDt k t a ht (hk rfl) h0
   have fin:∀(T2:aG) (c:Nat) (v:A) (l:List Tok) (cs:List A),cs.length=3→T2[c]?=some (some ⟨325,cs,true⟩)→M1 T2 v l→l.length+mu s p o≤40001 →
     bB Cx 309 [.ptr 3 0] (some 13) [⟨some 11,.move (.tmp 13),none⟩,⟨some 14,.extract (.tmp 11) 0,none⟩,⟨some 15,.extract (.tmp 11) 1,none⟩,⟨none,.store 325 (.tmp 3) (.tmp 14),none⟩,⟨some 4,.assign (.tmp 15),none⟩]
      ⟨[(12,.ptr 3 0),(0,.yl 5),(1,.ptr 4 0),(3,.ptr (c+6) 0)],some ⟨320,[v],true⟩::some ⟨3,[I64 0],true⟩::some ⟨69,[I64 0],true⟩::scB s p o::some ⟨400,[.ptr 3 0],true⟩::some ⟨0,[.lrec 27 [15,16] [2,3,4] qL qS,I64 0,I64 0,.ptr 0 0,.ptr 1 0,.ptr 2 0],true⟩::T2⟩ (.lp xR::KK) Q:=by
    intro T2 c v l cs hcs hc hO hl
    obtain⟨x0,x1,x2,rfl⟩:∃ x0 x1 x2,cs=[x0,x1,x2]:=by
     match cs,hcs with
     |[x0,x1,x2],_=>exact⟨_,_,_,rfl⟩
    refine aM (S6 hs hle rfl) ?_
    rintro x K ⟨y',ok',p',o',rfl,hT',h3,hG⟩
    have g:=hG.2
    obtain⟨T1,rfl⟩:=aA9 ((g 0 (by simp) (by decide)).trans rfl) ((g 1 (by simp) (by decide)).trans rfl) ((g 2 (by simp) (by decide)).trans rfl) h3 ((g 4 (by simp) (by decide)).trans rfl) ((g 5 (by simp) (by decide)).trans rfl)
    have gT:∀ i,i<T2.length→T1[i]?=T2[i]?:=fun i hi=>by
     have:=g (i+6) (by simp;omega) (by omega)
     simpa using this
    have cT2:=(List.getElem?_eq_some_iff.1 hc).1
    have hc1:=(gT c cT2).trans hc
    obtain⟨k',t',a',rfl,-⟩:=hT'.tok
    simp(disch:=omega)only[go_sem,simprocAttr,hc1]
    rw[aB (l:=[0,1,3,4]) rfl]
    simp(disch:=omega)only[go_sem,simprocAttr]
    refine ih (T1.set c _) v l p' o' _ ok' c (fun h=>?_) (hO.move hc gT _) (by omega) (fun h=>?_) ⟨_,hT'⟩ (bU hc1 _)
    ·have:=hT'.less h
     omega
    ·have:=hT'.less h
     omega
   by_cases hz:e=0
   ·subst hz
    rcases hO with⟨rfl,rfl⟩|⟨hl0,i,rfl,hbk⟩
    ·simp(disch:=omega)only[go_sem,simprocAttr,dC,eU,bP,dK,bX,dM,bS,fK.blk,dY,hj,aI hj,QK.use he,bN,maxLen]
     refine fin _ (T.length+3) _ [⟨k,t,a⟩] _ rfl (aZ T _ 3) (.inr ⟨by simp,T.length+2,rfl,aZ T _ 2⟩) (by simp at hl ⊢;omega)
    ·have iT:=(List.getElem?_eq_some_iff.1 hbk).1
     have hij:i≠j:=by
      rintro rfl
      rw[hj]at hbk
      simp at hbk
     have hjs:=fun l=>aI (aO hj hij none) l
     simp(disch:=omega)only[go_sem,simprocAttr,dC,eU,bP,dK,bX,dM,bS,fK.blk,dY,hj,hjs,QK.use he,bN,aI hbk,NG,SO,aM0,maxLen]
     refine fin _ (T.length+3) _ (l++[⟨k,t,a⟩]) _ rfl (d8 T _ _ _ 3) (.inr ⟨by simp,T.length+2,by rw[List.length_append];rfl,d8 T _ _ _ 2⟩) (by simp at hl ⊢;omega)
   ·simp(disch:=omega)only[go_sem,simprocAttr,dC,eU,bP,dK,bX,nF,bS,fK.blk,dY,hj,QK.use he,bN,eH hz]
    exact hX _ _ _ _ _ _
theorem aOQ(H:aG)(n:Nat):∀ l:List Tok,bQ (freeze H (n+1)) (cells cT l)=some (cells cT l)
 |[]=>rfl
 |x::l=>by
  simp only[cells,List.cons_append,List.nil_append,cV,qY,aOQ H n l]
def a9K(x:A):Prop:=∃(v:A) (p e:Int),x=.tup [v,I64 p,I64 e]∧(v=.v (.slice none 0 0)∨∃ l:List Tok,v=.sl l.length (cells cT l)∧l.length≤4611686018427387904)
theorem aQK(s:ByteArray):∃ y,EvQ Cx 200 [Sv s] y∧a9K y:=by
 refine cA aRk rfl (by simp[KY]) ?_
 by_cases hs:s.size≤16384
 ·simp(disch:=omega)only[go_sem,simprocAttr,lM,oI,gP,aK aXJ aPc]
  rw[aP aU4 aV0]
  refine⟨by simp[KV],?_⟩
  simp(disch:=omega)only[go_sem,simprocAttr]
  refine aM (S6 hs (p:=0) (o:=false) (Nat.zero_le _) rfl) ?_
  rintro x K ⟨y',ok',p',o',rfl,hT',h3,hG⟩
  have g:=hG.2
  obtain⟨T,rfl⟩:=aA9 ((g 0 (by simp) (by decide)).trans rfl) ((g 1 (by simp) (by decide)).trans rfl) ((g 2 (by simp) (by decide)).trans rfl) h3 ((g 4 (by simp) (by decide)).trans rfl) ((g 5 (by simp) (by decide)).trans rfl)
  clear g hG
  have hm:mu s 0 false≤32768:=by unfold mu;simp;omega
  obtain⟨k',t',a',rfl,-⟩:=hT'.tok
  simp(disch:=omega)only[go_sem,simprocAttr]
  rw[aB (l:=[0,1,3,4]) rfl]
  simp(disch:=omega)only[go_sem,simprocAttr]
  refine Y2 hs ?_ ?_ 40000 _ (.v (.slice none 0 0)) [] p' o' _ ok' T.length (fun h=>?_) (.inl ⟨rfl,rfl⟩) (by simp) (fun h=>?_) ⟨_,hT'⟩ (e9 T _ [])
  ·intro T v l p o e hO hb
   rcases hO with⟨rfl,rfl⟩|⟨hl0,i,rfl,hbk⟩
   ·simp(disch:=omega)only[go_sem,simprocAttr,aW,kO,cX,bN,pending,exOfN]
    exact⟨_,_,_,rfl,.inl rfl⟩
   ·simp(disch:=omega)only[go_sem,simprocAttr,aW,kO,cX,bN,pending,exOfN,hbk,NG,SO,aOQ]
    exact⟨_,_,_,rfl,.inr ⟨l,rfl,by omega⟩⟩
  ·intro T p o e pl er
   simp(disch:=omega)only[go_sem,simprocAttr,aE,qF,cX,bN,pending,exOfN]
   exact⟨_,_,_,rfl,.inl rfl⟩
  ·have:=hT'.less h
   omega
  ·have:=hT'.less h
   simp
   omega
 ·simp(disch:=omega)only[go_sem,simprocAttr]
  exact⟨_,_,_,rfl,.inl rfl⟩
theorem ZF(s:ByteArray):∃ b,EvQ Cx 131 [Sv s] (Bo b):=by
 have:∃ y,EvQ Cx 131 [Sv s] y∧∃ b,y=Bo b:=by
  obtain⟨x,hx,v,p,e,rfl,hv⟩:=aQK s
  refine cA aWt rfl (by simp[HV]) ?_
  by_cases he:e=0
  ·rcases hv with rfl|⟨l,rfl,hl⟩
   ·simp(disch:=omega)only[go_sem,simprocAttr,QK.use hx]
    exact⟨_,rfl⟩
   ·match l with
    |[] =>
     simp(disch:=omega)only[go_sem,simprocAttr,QK.use hx,cells]
     exact⟨_,rfl⟩
    |[x] =>
     simp(disch:=omega)only[go_sem,simprocAttr,QK.use hx,cells]
     exact⟨_,rfl⟩
    |[x,y] =>
     by_cases hk:x.k=1
     ·simp(disch:=omega)only[go_sem,simprocAttr,QK.use hx,cells]
      exact⟨_,rfl⟩
     ·simp(disch:=omega)only[go_sem,simprocAttr,QK.use hx,cells]
      exact⟨_,rfl⟩
    |x::y::z::l =>
     simp only[List.length_cons]at hl
     simp(disch:=omega)only[go_sem,simprocAttr,QK.use hx,cells]
     exact⟨_,rfl⟩
  ·rcases hv with rfl|⟨l,rfl,hl⟩
   ·simp(disch:=omega)only[go_sem,simprocAttr,QK.use hx]
    exact⟨_,rfl⟩
   ·simp(disch:=omega)only[go_sem,simprocAttr,QK.use hx]
    exact⟨_,rfl⟩
 obtain⟨_,h,b,rfl⟩:=this
 exact⟨b,h⟩
end
def hJ(x:A):Prop:=∃ b,x=Bo b
theorem aMf(s:ByteArray):∃ b,EvQ Cx 251 [Sv s] (Bo b):=by
 have:∃ y,EvQ Cx 251 [Sv s] y∧hJ y:=by
  refine cA aRa rfl (by simp[HZ]) ?_
  simp(disch:=omega)only[go_sem,simprocAttr]
  repeat' (first|(((first|refine bD (fun hb=>?_) (fun hb=>?_)|refine bY (fun hb=>?_) (fun hb=>?_))<;>(first|subst hb|(have hc:=hb;simp only[beq_iff_eq,beq_eq_false_iff_ne,ne_eq]at hc)|skip))<;>(first|simp(disch:=omega)only[go_sem,simprocAttr,hb]|simp(disch:=omega)only[go_sem,simprocAttr,true_and]))|(rw[aA];simp(disch:=omega)only[go_sem,simprocAttr,true_and]))
  all_goals first|exact⟨_,rfl⟩|done
 obtain⟨_,h,b,rfl⟩:=this
 exact⟨b,h⟩
theorem WY(c:UInt8):∃ b,EvQ Cx 252 [I8 c.toNat] (Bo b):=by
 have:∃ y,EvQ Cx 252 [I8 c.toNat] y∧hJ y:=by
  have hc:=gL c
  generalize gC c=n at hc
  refine cA aPr rfl (by simp[GP]) ?_
  simp(disch:=omega)only[go_sem,simprocAttr,QK.use hc]
  repeat' (first|(((first|refine bD (fun hb=>?_) (fun hb=>?_)|refine bY (fun hb=>?_) (fun hb=>?_))<;>(first|subst hb|(have hc:=hb;simp only[beq_iff_eq,beq_eq_false_iff_ne,Bool.not_eq_eq_eq_not,Bool.not_true,Bool.not_false,ne_eq]at hc)|skip))<;>(first|simp(disch:=omega)only[go_sem,simprocAttr]|simp(disch:=omega)only[go_sem,simprocAttr,true_and]))|(rw[aA];simp(disch:=omega)only[go_sem,simprocAttr,true_and]))
  all_goals first|exact⟨_,rfl⟩|done
 obtain⟨_,h,b,rfl⟩:=this
 exact⟨b,h⟩
theorem aE8{s:ByteArray}{i:Nat}(h:i<s.size):∃ c:UInt8,s[i]?=some c:=⟨_,getElem?_pos s i h⟩
theorem XL{s:ByteArray}(hs:s.size≤16){KK:List It}{Q:Ex→Ev.St→Prop}
  (hE:∀(d:Nat) (e:Env),cI e 0=some (Sv s)→cI e 3=some (I64 d)→d≤16→dN Cx (.out 0) KK ⟨e,[]⟩ Q)
  (hX:∀ e:Env,cI e 2=some (Bo false)→dN Cx .back KK ⟨e,[]⟩ Q) :
  ∀(n i d:Nat),i+n=s.size→d≤i→bG Cx (.code (.loop RS)::KK) ⟨[(0,Sv s),(3,I64 d),(4,I64 i)],[]⟩ Q:=by
 intro n
 induction n with
 |zero =>
  intro i d hi hd
  rw[aA]
  simp(disch:=omega)only[go_sem,simprocAttr]
  exact hE d _ rfl rfl (by omega)
 |succ n ih =>
  intro i d hi hd
  obtain⟨c,hc⟩:=aE8 (s:=s) (i:=i) (by omega)
  obtain⟨b,hb⟩:=WY c
  have hk:=gL c
  rw[aA]
  cases b with
  |false =>
   simp(disch:=omega)only[go_sem,simprocAttr,hc,QK.use hb]
   exact hX _ rfl
  |true =>
   by_cases h4:gC c=4
   ·rw[h4]at hk
    simp(disch:=omega)only[go_sem,simprocAttr,hc,QK.use hb,QK.use hk]
    rw[aB (l:=[0,3,4]) rfl]
    simp(disch:=omega)only[go_sem,simprocAttr]
    have:=ih (i+1) (d+1) (by omega) (by omega)
    simpa only[Int.natCast_add,Int.natCast_one]using this
   ·generalize gC c=k at hk h4
    simp(disch:=omega)only[go_sem,simprocAttr,hc,QK.use hb,QK.use hk]
    rw[aB (l:=[0,3,4]) rfl]
    simp(disch:=omega)only[go_sem,simprocAttr]
    have:=ih (i+1) d (by omega) (by omega)
    simpa only[Int.natCast_add,Int.natCast_one]using this
theorem aLV(s:ByteArray):∃ b,EvQ Cx 201 [Sv s] (Bo b):=by
 have:∃ y,EvQ Cx 201 [Sv s] y∧hJ y:=by
  refine cA aP6 rfl (by simp[MA]) ?_
  by_cases h1:s.size<1
  ·simp(disch:=omega)only[go_sem,simprocAttr]
   exact⟨_,rfl⟩
  by_cases h16:16<s.size
  ·simp(disch:=omega)only[go_sem,simprocAttr]
   exact⟨_,rfl⟩
  obtain⟨c,hc⟩:=aE8 (s:=s) (i:=0) (by omega)
  obtain⟨b,hb⟩:=aMf s
  have hk:=gL c
  generalize gC c=k at hk
  by_cases h3:k=3
  ·subst h3
   cases b with
   |true =>
    simp(disch:=omega)only[go_sem,simprocAttr,hc,QK.use hb,QK.use hk]
    exact⟨_,rfl⟩
   |false =>
    simp(disch:=omega)only[go_sem,simprocAttr,hc,QK.use hb,QK.use hk]
    rw[aB (l:=[0,3,4]) rfl]
    simp(disch:=omega)only[go_sem,simprocAttr]
    refine XL (by omega) ?_ ?_ (s.size-1) 1 0 (by omega) (by omega)
    ·intro d e e0 e3 hd
     simp(disch:=omega)only[go_sem,simprocAttr,e0,e3,hc]
     repeat' (first|(((first|refine bD (fun hb=>?_) (fun hb=>?_)|refine bY (fun hb=>?_) (fun hb=>?_))<;>(first|subst hb|(have hc:=hb;simp only[beq_iff_eq,bne_iff_ne,beq_eq_false_iff_ne,bne_eq_false_iff_eq,Bool.not_eq_eq_eq_not,Bool.not_true,Bool.not_false,ne_eq]at hc)|skip))<;>(first|simp(disch:=omega)only[go_sem,simprocAttr]|simp(disch:=omega)only[go_sem,simprocAttr,true_and]))|(rw[aA];simp(disch:=omega)only[go_sem,simprocAttr,true_and]))
     all_goals first|exact⟨_,rfl⟩|done
    ·intro e e2
     simp(disch:=omega)only[go_sem,simprocAttr,e2]
     exact⟨_,rfl⟩
  ·simp(disch:=omega)only[go_sem,simprocAttr,hc,QK.use hk]
   exact⟨_,rfl⟩
 obtain⟨_,h,b,rfl⟩:=this
 exact⟨b,h⟩
end Go.Proofs.YtpdphobnchajbaaGreatDoor.Ev
