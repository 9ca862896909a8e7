/- What the law WalkPrefix asks beside: sizes, lists, traces. -/
import Derived.Test.YtpdphobnchajbaaGreatDoorQ47
import Derived.Test.YtpdphobnchajbaaGreatDoorQ28
import Derived.Test.YtpdphobnchajbaaGreatDoorQ08
set_option linter.unusedSimpArgs false
set_option linter.unusedVariables false
namespace Go.Proofs.YtpdphobnchajbaaGreatDoor.Ev
open Go Go.RowKit
set_option maxRecDepth 100000
set_option maxHeartbeats 16000000
theorem aMv(s:Sy):eqT Cx.T 20 55 s.dirs s.dirs=some true:=U4 (by kernel_rfl)
theorem aNK{s:Sy}(c1:s.cores.length≤100000)(c2:s.caches.length≤100000)(c3:s.net.length≤100000)(hb:∀ c∈s.cores,c.buf.length≤100000):EvQ Cx 48 [.agg (cSy s),.agg (cSy s)] (Bo true):=by
 have h1:=XU c1 hb
 have h2:=NS c2
 have h3:=aCZ c3
 have hd:=aMv s
 have l2:=@fQ s
 have o2:=@fJ s
 have tS:List.take 69 (cSy s)=cSy s:=List.take_of_length_le (by omega)
 have s0:=@s0 s
 have s1:=@s1 s
 have s2:List.drop 2 (cSy s)=s.dirs++[.sl s.net.length (cells cM s.net)]:=rfl
 have td:List.take 66 (s.dirs++[.sl s.net.length (cells cM s.net)])=s.dirs:=rfl
 have s68:=@s68 s
 have dl:s.dirs.length=66:=rfl
 generalize cSy s=SS at *
 refine aX a6Q rfl (by simp[aCk]) ?_
 simp(disch:=omega)only[go_sem,simprocAttr,l2,o2,s0,s1,s2,td,dl,s68,QK.use h1,QK.use h2,QK.use h3,↓ hd]
theorem s9(t:Tra):(cTr t).length=72:=rfl
theorem xV(t:Tra):dE (cTr t)=true:=by
 unfold cTr
 rw[dE]
 show dE (cSy t.last++_)=true
 exact fC _ _ fJ rfl
structure Tra.Ok(t:Tra):Prop where
 steps:t.steps.length≤100000
 perfs:t.perfs.length≤100000
 cores:t.last.cores.length≤100000
 caches:t.last.caches.length≤100000
 net:t.last.net.length≤100000
 buf:∀ c∈t.last.cores,c.buf.length≤100000
theorem aBG{t:Tra}(k:t.Ok):EvQ Cx 18 [.agg (cTr t),.agg (cTr t)] (Bo true):=by
 have h1:=CZ k.steps
 have h2:=aNK k.cores k.caches k.net k.buf
 have h3:=YJ k.perfs
 have l2:=s9 t
 have o2:=xV t
 have tT:List.take 72 (cTr t)=cTr t:=List.take_of_length_le (by omega)
 have s0:(cTr t)[0]?=some (.sl t.steps.length (cells cS t.steps)):=rfl
 have s1:List.take 69 (List.drop 1 (cTr t))=cSy t.last:=rfl
 have ld:(List.drop 1 (cTr t)).length=71:=rfl
 have s70:List.drop 70 (cTr t)=[.sl t.perfs.length (cells cP t.perfs),I64 t.err]:=rfl
 have s71:List.drop 71 (cTr t)=[I64 t.err]:=rfl
 have z3:∀ H,bQ (freeze H 19) (cSy t.last)=some (cSy t.last):=fun H=>eK H 18 _ (gO t.last)
 have z4:=dJ _ (gO t.last)
 generalize cTr t=TT at *
 generalize cSy t.last=SS at *
 refine aX a8N rfl (by simp[aDv]) ?_
 simp(disch:=omega)only[go_sem,simprocAttr,l2,o2,s0,s1,ld,s70,s71,z3,z4,QK.use h1,QK.use h2,QK.use h3]
theorem KS{l:List Sp}(hl:l.length≤1000)(x:Sp):EvQ Cx 20 [.sl l.length (cells cS l),eS x] (Bo (l.any fun y=>y.eqB x)):=by
 have loop:∀(d j:Nat),j+d=l.length→bG Cx [.code (.loop aAB),.blk 0,.code (.seq (.reg [] [⟨some 4,.assign (.const (.bool false)),none⟩] 0) .ret)] ⟨[(0,.sl l.length (cells cS l)),(3,.ptr 0 0),(5,I64 j)],[some ⟨62,cS x,true⟩]⟩ (rE Cx.T .shut [.tmp 4] (Bo ((l.drop j).any fun y=>y.eqB x))):=by
  intro d
  induction d with
  |zero =>
   intro j hj
   obtain rfl:j=l.length:=by omega
   rw[List.drop_length]
   rw[aA]
   simp(disch:=omega)only[go_sem,simprocAttr,Int.lt_irrefl,List.any_nil]
  |succ d ih =>
   intro j hj
   obtain⟨y,hy⟩:∃ y,l[j]?=some y:=⟨_,List.getElem?_eq_getElem (by omega)⟩
   have hd:l.drop j=y::l.drop (j+1):=eJ hy
   obtain⟨rr,hr⟩:=c8 (c:=cS) (n:=14) (fun _=>rfl) hy
   have nx:=ih (j+1) (by omega)
   rw[Int.natCast_add,Int.natCast_one]at nx
   have he:=a1G y x
   simp only[cS]at he
   rw[hd,List.any_cons]
   rw[aA]
   cases hb:y.eqB x with
   |true =>
    rw[hb]at he
    simp(disch:=omega)only[↓ he,go_sem,simprocAttr,hr]
   |false =>
    rw[hb]at he
    simp(disch:=omega)only[↓ he,go_sem,simprocAttr,hr]
    rw[aB (l:=[0,3,5]) rfl]
    simp(disch:=omega)only[go_sem,simprocAttr]
    exact nx
 refine aX a5b rfl (by simp[aES]) ?_
 simp(disch:=omega)only[go_sem,simprocAttr]
 rw[aB (l:=[0,3,5]) rfl]
 simp(disch:=omega)only[go_sem,simprocAttr]
 have:=loop l.length 0 (by omega)
 rw[List.drop_zero]at this
 exact this
section
variable{w:Wo}
theorem NY(wo:w.Ok):∃ y,EvQ Cx 15 [.agg (cW w)] y∧∃ b,y=Bo b:=by
 have h1:=iP w
 have hlen:=iO wo
 have tw:List.take 585 (cW w)=cW w:=List.take_of_length_le (by omega)
 obtain⟨_,hP,k,rfl,hk⟩:=aDQ wo.P
 have lP:(cPg w.P).length=10:=TY w.P
 have tP:List.take 10 (cW w)=cPg w.P:=by
  unfold cW
  exact List.take_left' lP
 have vP:(cPg w.P).all vs=true:=by
  have:=gY w
  unfold cW at this
  rw[List.all_append,Bool.and_eq_true]at this
  exact this.1
 have z1:∀ H,bQ (freeze H 19) (cPg w.P)=some (cPg w.P):=fun H=>eK H 18 _ vP
 have z2:shut.shutL (cPg w.P)=true:=dJ _ vP
 generalize cPg w.P=PP at *
 generalize cW w=WW at *
 refine cA a8u rfl (by simp[aDL]) ?_
 simp(disch:=omega)only[go_sem,simprocAttr,h1,hlen,tP,z1,z2,QK.use hP]
 exact⟨_,rfl⟩
theorem aLr(wo:w.Ok)(hR:EvQ Cx 9 [.agg (cW w)] (Bo false)){P:List Int}:EvQ Cx 16 [.agg (cW w),.sl P.length (P.map fun p=>I64 p)] (.agg (cTr ⟨[],zSy,[],310⟩)):=by
 have hN:=aAu wo hR
 have h1:=iP w
 have hlen:=iO wo
 have z1:∀ H,bQ (freeze H 19) (cW w)=some (cW w):=fun H=>eK H 18 _ (gY w)
 have z2:=dJ _ (gY w)
 have tw:List.take 585 (cW w)=cW w:=List.take_of_length_le (by omega)
 generalize cW w=WW at *
 have l2:=@fQ zSy
 have tS:List.take 69 (cSy zSy)=cSy zSy:=rfl
 have o2:=@fJ zSy
 refine aX aOz rfl (by simp[XR]) ?_
 simp(disch:=omega)only[go_sem,simprocAttr,h1,hlen,tw,List.flatten_cons,List.flatten_nil]
 simp only[aK aOP aN7]
 simp(disch:=omega)only[go_sem,simprocAttr,h1,hlen,z1,z2,tw,l2,o2,List.flatten_cons,List.flatten_nil,QK.use hN]
 rfl
end
def stuck(w:Wo)(n:Nat)(t:Tra):Prop:=t.err≠0∨stR w n t.last=[]
open Classical in
noncomputable def tW(w:Wo)(n:Nat)(t:Tra)(p:Int):Tra:=if t.err≠0 then t else match(stR w n t.last)[pk p (stR w n t.last).length]? with
 |none=>t
 |some x=>t.next x (doR w n t.last x).s (doR w n t.last x).d (doR w n t.last x).e
section
variable{w:Wo}{n:Nat}
theorem oM{t:Tra}(h:stuck w n t)(p:Int):tW w n t p=t:=by
 unfold tW
 rcases h with h|h
 ·rw[if_pos h]
 ·by_cases he:t.err≠0
  ·rw[if_pos he]
  ·rw[if_neg he,h];rfl
theorem E8{t:Tra}(h:¬ stuck w n t)(p:Int):∃ x∈stR w n t.last,tW w n t p=t.next x (doR w n t.last x).s (doR w n t.last x).d (doR w n t.last x).e:=by
 have h1:¬ t.err≠0:=fun e=>h (.inl e)
 have h2:stR w n t.last≠[]:=fun e=>h (.inr e)
 have l1:0<(stR w n t.last).length:=List.length_pos_iff.2 h2
 have kl:=aDB (p:=p) l1
 refine⟨_,List.getElem_mem kl,?_⟩
 unfold tW
 rw[if_neg h1,List.getElem?_eq_getElem kl]
theorem n8{t:Tra}(h:stuck w n t):∀ ps:List Int,ps.foldl (tW w n) t=t
 |[]=>rfl
 |p::ps=>by rw[List.foldl_cons,oM h,n8 h ps]
theorem zU:∀(ps:List Int) (t:Tra),t.err=0→pG w n ps t=ps.foldl (tW w n) t
 |[],t,_=>rfl
 |p::ps,t,he=>by
  rw[List.foldl_cons,pG]
  unfold tW
  rw[if_neg (by rw[he];simp)]
  cases hx:(stR w n t.last)[pk p (stR w n t.last).length]? with
  |none =>
   simp only
   have hl:stR w n t.last=[]:=by
    rcases hs:stR w n t.last with _|⟨a,l⟩
    ·rfl
    ·have l1:0<(stR w n t.last).length:=by rw[hs];simp
     rw[List.getElem?_eq_getElem (aDB l1)]at hx
     cases hx
   exact(n8 (.inr hl) ps).symm
  |some x =>
   simp only
   by_cases h0:(doR w n t.last x).e=0
   ·rw[if_pos h0,h0]
    exact zU ps _ (by unfold Tra.next;rw[if_pos rfl];exact he)
   ·rw[if_neg h0]
    exact(n8 (.inl (by unfold Tra.next;rw[if_neg h0];exact h0)) ps).symm
theorem l8(t:Tra)(x:Sp)(s:Sy)(d:List Pf)(e:Int):(t.next x s d e).steps=t.steps++[x]:=by
 unfold Tra.next
 split<;>rfl
theorem wX:∀(ps:List Int) (t:Tra),∃ r,(ps.foldl (tW w n) t).steps=t.steps++r
 |[],t=>⟨[],(List.append_nil _).symm⟩
 |p::ps,t=>by
  rw[List.foldl_cons]
  obtain⟨r,hr⟩:=wX ps (tW w n t p)
  by_cases h:stuck w n t
  ·rw[oM h]at hr ⊢
   exact⟨r,hr⟩
  ·obtain⟨x,-,hx⟩:=E8 h p
   rw[hx,l8]at hr
   rw[hx]
   exact⟨x::r,by rw[hr,List.append_assoc];rfl⟩
structure wI(w:Wo)(n k:Nat)(t:Tra):Prop where
 len:t.steps.length≤k
 less:t.steps.length<k→stuck w n t
 typ:t.last.Typ n
 net:t.last.net.length≤64
 perfs:t.perfs.length≤500*k
theorem wI.step(W:w.Run n)(hR:EvQ Cx 9 [.agg (cW w)] (Bo true)){k:Nat}{t:Tra}(a:wI w n k t)(p:Int):wI w n (k+1) (tW w n t p):=by
 by_cases h:stuck w n t
 ·rw[oM h]
  exact⟨by have:=a.len;omega,fun _=>h,a.typ,a.net,by have:=a.perfs;omega⟩
 ·obtain⟨x,hx,he⟩:=E8 h p
  have ok:=((aBI W hR a.typ a.net).each x hx).2
  have hl:t.steps.length=k:=by
   have h1:=a.len
   by_cases h2:t.steps.length<k
   ·exact absurd (a.less h2) h
   ·omega
  rw[he]
  generalize doR w n t.last x=D at ok
  refine⟨by rw[l8];simp;omega,fun h2=>?_,?_,?_,?_⟩
  ·rw[l8]at h2
   simp at h2
   omega
  all_goals unfold Tra.next;split
  ·exact(ok.typ ‹_›).1
  ·exact a.typ
  ·exact(ok.typ ‹_›).2
  ·exact a.net
  ·have:=a.perfs;have:=ok.len;simp only[List.length_append];omega
  ·have:=a.perfs;show t.perfs.length≤_;omega
theorem CQ(W:w.Run n)(hR:EvQ Cx 9 [.agg (cW w)] (Bo true)):∀(ps:List Int) (k:Nat) (t:Tra),wI w n k t→wI w n (k+ps.length) (ps.foldl (tW w n) t)
 |[],k,t,a=>a
 |p::ps,k,t,a=>by
  rw[List.foldl_cons,List.length_cons,show k+(ps.length+1)=k+1+ps.length by omega]
  exact CQ W hR ps (k+1) _ (a.step W hR p)
theorem wI.ok{k:Nat}{t:Tra}(n4:n≤4)(hk:k≤100)(a:wI w n k t):t.Ok :=
 ⟨by have:=a.len;omega,by have:=a.perfs;omega,by have:=a.typ.lc;omega,by have:=a.typ.lk;omega,by have:=a.net;omega,fun c hc=>by have:=(a.typ.core c hc).2;omega⟩
noncomputable def at1(w:Wo)(n:Nat)(P:List Int)(k:Nat):Tra:=(P.take k).foldl (tW w n) ⟨[],pR w n,[],0⟩
theorem V1(P:List Int)(k:Nat):Z4 w n (P.take k)=at1 w n P k:=zU _ _ rfl
theorem aA4(P:List Int):Z4 w n P=at1 w n P P.length:=by rw[← V1,List.take_length]
theorem aBO{P:List Int}{k:Nat}{p:Int}(h:P[k]?=some p):at1 w n P (k+1)=tW w n (at1 w n P k) p:=by
 unfold at1
 rw[List.take_add_one,h,List.foldl_append]
 rfl
theorem vB(W:w.Run n)(hR:EvQ Cx 9 [.agg (cW w)] (Bo true)){P:List Int}{k:Nat}(hk:k≤P.length):wI w n k (at1 w n P k):=by
 obtain⟨hN,hty,hne⟩:=OK W hR
 have:=CQ W hR (P.take k) 0 ⟨[],pR w n,[],0⟩ ⟨Nat.le_refl _,fun h=>absurd h (by simp),hty,by rw[hne];simp,Nat.le_refl _⟩
 rwa [List.length_take,Nat.min_eq_left hk,Nat.zero_add]at this
theorem CU{P:List Int}{k:Nat}(h:stuck w n (at1 w n P k)):at1 w n P P.length=at1 w n P k:=by
 unfold at1 at h ⊢
 rw[List.take_length]
 conv=>lhs;rw[← List.take_append_drop k P]
 rw[List.foldl_append,n8 h]
theorem zB{P:List Int}(k:Nat):(at1 w n P P.length).steps.take (at1 w n P k).steps.length=(at1 w n P k).steps:=by
 obtain⟨r,hr⟩:=wX (w:=w) (n:=n) (P.drop k) (at1 w n P k)
 have e:(P.drop k).foldl (tW w n) (at1 w n P k)=at1 w n P P.length:=by
  unfold at1
  rw[← List.foldl_append,List.take_append_drop,List.take_length]
 rw[e]at hr
 rw[hr]
 exact List.take_left' rfl
theorem aNS{P:List Int}(k:Nat):(at1 w n P k).steps.length≤(at1 w n P P.length).steps.length:=by
 have:=congrArg List.length (zB (w:=w) (n:=n) (P:=P) k)
 rw[List.length_take]at this
 omega
theorem aEe(W:w.Run n)(hR:EvQ Cx 9 [.agg (cW w)] (Bo true)){P:List Int}{k:Nat}(hk:k<P.length)(hl:(at1 w n P (k+1)).steps.length=k+1):∃ x∈stR w n (at1 w n P k).last,(at1 w n P (k+1)).steps[k]?=some x:=by
 have a:=vB W hR (P:=P) (k:=k) (by omega)
 have hs:=aBO (w:=w) (n:=n) (List.getElem?_eq_getElem hk)
 by_cases h:stuck w n (at1 w n P k)
 ·rw[hs,oM h]at hl
  have:=a.len
  omega
 ·obtain⟨x,hx,he⟩:=E8 h P[k]
  refine⟨x,hx,?_⟩
  rw[hs,he,l8]
  have:(at1 w n P k).steps.length=k:=by
   rw[hs,he,l8]at hl
   simpa using hl
  rw[List.getElem?_append_right (by omega),this]
  simp
end
noncomputable def XP(CW:Ctx):FuncId→List A→Option A:=XE CW [14] (XE Cx [15,16,17,8,18,19,20] fun _ _=>none)
theorem a6J{CW:Ctx}(h:kG Tryz.prog CW)(hT:CW.T=Cx.T):QOk Cx.T Tryz.prog (XP CW):=aOC h hT (aOC aCX rfl Z1)
theorem rD{CW:Ctx}{f:FuncId}{l:List A}{r:A}(hf:f∈([15,16,17,8,18,19,20]:List FuncId))(h0:f ∉ ([14]:List FuncId))(h:EvQ Cx f l r):EvQ (CA (XP CW)) f l r:=xP (by
 show XP CW f l=some r
 unfold XP
 rw[FD h0]
 exact aFa hf h)
theorem aNn{CW:Ctx}(l:List A):XP CW 4 l=none:=by
 unfold XP
 rw[FD (by decide),FD (by decide)]
theorem FK(t:Tra):(cTr t).all vs=true:=rfl
theorem Y0{l r:List Sp}(h:r.take l.length=l):List.take (l.length*14) (cells cS r)=cells cS l:=by
 have e:=dP cS (r.take l.length) (r.drop l.length)
 rw[List.take_append_drop,h]at e
 rw[e]
 exact List.take_left' (rS l)
theorem LS{CW:Ctx}{w:Wo}{n:Nat}(W:w.Run n)(hR:EvQ Cx 9 [.agg (cW w)] (Bo true)){P:List Int}(hP:P.length≤60)(hr:∀ p∈P,-9223372036854775808≤p∧p<9223372036854775808){WW AA:List A}(eW:cW w=WW)(eA:cTr (at1 w n P P.length)=AA)
  (h1:dE WW=true) (hlen:WW.length=585) (z1:∀ H,bQ (freeze H 19) WW=some WW) (z2:shut.shutL WW=true) (tw:List.take 585 WW=WW) {KK:List It} {Q:Ex→Ev.St→Prop}
  (hE:∀(SS:List A) (T:aG),dN (CA (XP CW)) (.out 0) KK ⟨[(47,Bo false),(46,I64 P.length),(45,.sl P.length (P.map fun p=>I64 p)),(44,I64 P.length),(1,.sl P.length (P.map fun p=>I64 p)),(2,.ptr 0 0),(5,.ptr 1 0),(6,.ptr 2 0),(8,I64 P.length)],some ⟨44,WW,true⟩::some ⟨77,AA,true⟩::some ⟨58,SS,true⟩::T⟩ Q) :
  ∀(m i:Nat) (SS:List A) (T:aG),i+m=P.length→cSy (at1 w n P i).last=SS→bG (CA (XP CW)) (.code (.loop aOG)::KK) ⟨[(1,.sl P.length (P.map fun p=>I64 p)),(2,.ptr 0 0),(5,.ptr 1 0),(6,.ptr 2 0),(8,I64 i)],some ⟨44,WW,true⟩::some ⟨77,AA,true⟩::some ⟨58,SS,true⟩::T⟩ Q:=by
 intro m
 induction m with
 |zero =>
  intro i SS T hi hS
  obtain rfl:i=P.length:=by omega
  rw[aA]
  simp(disch:=omega)only[FN,go_sem,simprocAttr,Int.lt_irrefl]
  exact hE SS T
 |succ m ih =>
  intro i SS T hi hS
  have nx:=fun SS T=>ih (i+1) SS T (by omega)
  simp only[Int.natCast_add,Int.natCast_one]at nx
  have n4:=W.n4
  have hPl:=rD (CW:=CW) (by simp) (by decide) (MV W hR (P:=P.take (i+1)) (by simp;omega) (fun p hp=>hr p (List.mem_of_mem_take hp)))
  rw[V1,List.length_take,Nat.min_eq_left (by omega),List.map_take]at hPl
  have ka:=vB W hR (P:=P) (k:=i+1) (by omega)
  have kE:=rD (CW:=CW) (by simp) (by decide) (aBG (ka.ok n4 (by omega)))
  have kS:=rD (CW:=CW) (by simp) (by decide) (CZ (l:=(at1 w n P (i+1)).steps) (by have:=ka.len;omega))
  have kL:=aNS (w:=w) (n:=n) (P:=P) (i+1)
  have kt:=Y0 (zB (w:=w) (n:=n) (P:=P) (i+1))
  have kl:=ka.len
  have ks:=fun h=>CU (P:=P) (ka.less h)
  have ke:(at1 w n P (i+1)).err≠0→_:=fun h=>CU (P:=P) (.inl h)
  have k0:=vB W hR (P:=P) (k:=i) (by omega)
  have hst:=aBI W hR k0.typ k0.net
  have hSt:=rD (CW:=CW) (by simp) (by decide) hst.ev
  have hx:=fun h=>aEe W hR (P:=P) (k:=i) (by omega) h
  have hli:=fun x=>rD (CW:=CW) (by simp) (by decide) (KS (l:=stR w n (at1 w n P i).last) (by have:=hst.len;omega) x)
  have am:=fun x=>(aNh (stR w n (at1 w n P i).last) x).2
  have dS:=@fJ (at1 w n P i).last
  have dL:=@fQ (at1 w n P i).last
  have dt:List.take 69 (cSy (at1 w n P i).last)=cSy (at1 w n P i).last:=rfl
  have dd:List.drop 69 (cSy (at1 w n P i).last)=[]:=rfl
  have y1:∀ H,bQ (freeze H 19) (cSy (at1 w n P i).last)=some (cSy (at1 w n P i).last):=fun H=>eK H 18 _ (gO _)
  have y2:=dJ _ (gO (at1 w n P i).last)
  have aL:=s9 (at1 w n P P.length)
  have aT:List.take 72 (cTr (at1 w n P P.length))=cTr (at1 w n P P.length):=rfl
  have a0:(cTr (at1 w n P P.length))[0]?=some (.sl (at1 w n P P.length).steps.length (cells cS (at1 w n P P.length).steps)):=rfl
  have az:∀ H,bQ (freeze H 19) (cTr (at1 w n P P.length))=some (cTr (at1 w n P P.length)):=fun H=>eK H 18 _ (FK _)
  have as2:=dJ _ (FK (at1 w n P P.length))
  have o1:=xV (at1 w n P (i+1))
  have oL:=s9 (at1 w n P (i+1))
  have oT:List.take 72 (cTr (at1 w n P (i+1)))=cTr (at1 w n P (i+1)):=rfl
  have o0:(cTr (at1 w n P (i+1)))[0]?=some (.sl (at1 w n P (i+1)).steps.length (cells cS (at1 w n P (i+1)).steps)):=rfl
  have oz:∀ H,bQ (freeze H 19) (cTr (at1 w n P (i+1)))=some (cTr (at1 w n P (i+1))):=fun H=>eK H 18 _ (FK _)
  have os:=dJ _ (FK (at1 w n P (i+1)))
  have o7:List.take 69 (List.drop 1 (cTr (at1 w n P (i+1))))=cSy (at1 w n P (i+1)).last:=rfl
  have od:(List.drop 1 (cTr (at1 w n P (i+1)))).length=71:=rfl
  have oe:List.drop 71 (cTr (at1 w n P (i+1)))=[I64 (at1 w n P (i+1)).err]:=rfl
  have pS:=@fJ (at1 w n P (i+1)).last
  have pL:=@fQ (at1 w n P (i+1)).last
  have eqA':(at1 w n P P.length)=at1 w n P (i+1)→cTr (at1 w n P (i+1))=AA:=fun h=>by rw[← h,eA]
  rw[eA]at aL aT a0 az as2
  rw[hS]at dS dL dt dd y1 y2 hSt
  rw[eW]at hPl hSt
  have nx':=fun T=>nx _ T rfl
  have tn:((i:Int)+1).toNat=i+1:=by omega
  generalize hU:cSy (at1 w n P (i+1)).last=U at *
  generalize hV:cTr (at1 w n P (i+1))=V at *
  have c9:=rS (at1 w n P P.length).steps
  rw[aA]
  by_cases q:(at1 w n P (i+1)).steps.length=i+1
  ·obtain⟨x,xm,hxi⟩:=hx q
   obtain⟨rr,hrr⟩:=c8 (c:=cS) (n:=14) (fun _=>rfl) hxi
   have hlx:=hli x
   rw[am x xm]at hlx
   rw[q]at kt kS
   by_cases q2:(at1 w n P (i+1)).err=0
   ·simp(disch:=omega)only[FN,aD (C:=CA (XP CW)) (f:=16) rfl,aD (C:=CA (XP CW)) (f:=20) rfl,go_sem,simprocAttr,hlen,z1,z2,tw,tn,dL,dt,dd,y1,y2,aL,a0,o1,oL,o0,o7,od,oe,pS,pL,kt,Nat.mul_one,List.length_map,QK.use hPl,QK.use kS,QK.use hSt,c9,hrr,q,QK.use hlx,q2]
    (rw[aB (l:=[1,2,5,6,8]) rfl];simp(disch:=omega)only[go_sem,simprocAttr];exact nx' _)
   ·have e3:=ke q2
    have e2:=eqA' e3
    subst e2
    rw[e3]at kt a0 kL c9
    simp(disch:=omega)only[FN,aD (C:=CA (XP CW)) (f:=16) rfl,aD (C:=CA (XP CW)) (f:=18) rfl,aD (C:=CA (XP CW)) (f:=20) rfl,go_sem,simprocAttr,hlen,z1,z2,tw,tn,dL,dt,dd,y1,y2,aL,aT,a0,az,as2,o1,o7,od,oe,pS,pL,kt,Nat.mul_one,List.length_map,QK.use hPl,QK.use kE,QK.use kS,QK.use hSt,c9,hrr,q,QK.use hlx,eH q2]
    (rw[aB (l:=[1,2,5,6,8]) rfl];simp(disch:=omega)only[go_sem,simprocAttr];exact nx' _)
  ·have e3:=ks (by omega)
   have e2:=eqA' e3
   subst e2
   rw[e3]at kt a0 kL c9
   by_cases q2:(at1 w n P (i+1)).err=0
   ·simp(disch:=omega)only[FN,aD (C:=CA (XP CW)) (f:=16) rfl,go_sem,simprocAttr,hlen,z1,z2,tw,tn,dL,dd,aL,aT,a0,az,as2,o1,o7,od,oe,pS,pL,kt,Nat.mul_one,List.length_map,QK.use hPl,QK.use kE,QK.use kS,c9,q2]
    (rw[aB (l:=[1,2,5,6,8]) rfl];simp(disch:=omega)only[go_sem,simprocAttr];exact nx' _)
   ·simp(disch:=omega)only[FN,aD (C:=CA (XP CW)) (f:=16) rfl,aD (C:=CA (XP CW)) (f:=18) rfl,go_sem,simprocAttr,hlen,z1,z2,tw,tn,dL,dd,aL,aT,a0,az,as2,o1,o7,od,oe,pS,pL,kt,Nat.mul_one,List.length_map,QK.use hPl,QK.use kE,QK.use kS,c9,eH q2]
    (rw[aB (l:=[1,2,5,6,8]) rfl];simp(disch:=omega)only[go_sem,simprocAttr];exact nx' _)
theorem X8{CW:Ctx}(hA:EvQ CW 14 [] (Bo true)){w:Wo}(wo:w.Ok){P:List Int}(hl:P.length≤140737488351232)(hr:∀ p∈P,-9223372036854775808≤p∧p<9223372036854775808):EvQ (CA (XP CW)) 4 [.agg (cW w),.sl P.length (P.map fun p=>I64 p)] (Bo true):=by
 have h1:=iP w
 have hlen:=iO wo
 have z1:∀ H,bQ (freeze H 19) (cW w)=some (cW w):=fun H=>eK H 18 _ (gY w)
 have z2:=dJ _ (gY w)
 have tw:List.take 585 (cW w)=cW w:=List.take_of_length_le (by omega)
 have hA':EvQ (CA (XP CW)) 14 [] (Bo true):=xP (aFa (by simp) hA)
 obtain⟨_,hLg,bL,rfl⟩:=NY wo
 have hLg':=rD (CW:=CW) (by simp) (by decide) hLg
 refine aX (C:=CA (XP CW)) (m:=fn4) a94 (aNn (CW:=CW) [.agg (cW w),.sl P.length (P.map fun p=>I64 p)]) (by simp[fn4]) ?_
 cases bL with
 |true =>
  generalize cW w=WW at *
  simp(disch:=omega)only[FN,aD (C:=CA (XP CW)) (f:=15) rfl,aD (C:=CA (XP CW)) (f:=14) rfl,go_sem,simprocAttr,h1,hlen,z1,z2,tw,QK.use hA',QK.use hLg']
 |false =>
 by_cases q:60<P.length
 ·generalize cW w=WW at *
  simp(disch:=omega)only[FN,aD (C:=CA (XP CW)) (f:=15) rfl,aD (C:=CA (XP CW)) (f:=14) rfl,go_sem,simprocAttr,h1,hlen,z1,z2,tw,QK.use hA',QK.use hLg']
 obtain⟨bR,hR,gR⟩:=aAR wo
 cases bR with
 |false =>
  have hP:=rD (CW:=CW) (by simp) (by decide) (aLr wo hR (P:=P))
  have hN:=rD (CW:=CW) (by simp) (by decide) (aAu wo hR)
  have c1:=xV ⟨[],zSy,[],310⟩
  have c2:=s9 ⟨[],zSy,[],310⟩
  have c3:List.take 72 (cTr ⟨[],zSy,[],310⟩)=cTr ⟨[],zSy,[],310⟩:=rfl
  have c4:(cTr ⟨[],zSy,[],310⟩)[0]?=some (.sl 0 []):=rfl
  have c5:List.drop 70 (cTr ⟨[],zSy,[],310⟩)=[.sl 0 [],I64 310]:=rfl
  have c6:List.drop 71 (cTr ⟨[],zSy,[],310⟩)=[I64 310]:=rfl
  have d1:=@fJ zSy
  have d2:=@fQ zSy
  have d3:List.take 69 (cSy zSy)=cSy zSy:=rfl
  generalize cTr ⟨[],zSy,[],310⟩=TT at *
  generalize cSy zSy=SS at *
  generalize cW w=WW at *
  simp(disch:=omega)only[FN,aD (C:=CA (XP CW)) (f:=15) rfl,aD (C:=CA (XP CW)) (f:=16) rfl,aD (C:=CA (XP CW)) (f:=17) rfl,aD (C:=CA (XP CW)) (f:=14) rfl,go_sem,simprocAttr,h1,hlen,z1,z2,tw,QK.use hA',QK.use hLg',QK.use hP,QK.use hN,c1,c2,c4,c5,c6,d1,d2]
 |true =>
  have good:=gR rfl
  obtain⟨n,hn⟩:∃ n:Nat,(n:Int)=w.c:=⟨w.c.toNat,by have:=good.geo.1;omega⟩
  have W:w.Run n:=⟨wo,good,hn⟩
  have hP:=rD (CW:=CW) (by simp) (by decide) (MV W hR (P:=P) (by omega) hr)
  rw[aA4]at hP
  have hN:=rD (CW:=CW) (by simp) (by decide) (OK W hR).1
  have c1:=xV (at1 w n P P.length)
  have c2:=s9 (at1 w n P P.length)
  have c3:List.take 72 (cTr (at1 w n P P.length))=cTr (at1 w n P P.length):=rfl
  have d1:=@fJ (pR w n)
  have d2:=@fQ (pR w n)
  have d3:List.take 69 (cSy (pR w n))=cSy (pR w n):=rfl
  have hloop:=fun(WW AA:List A) eW eA h1 hlen z1 z2 tw KK Q=>LS (CW:=CW) W hR (P:=P) (by omega) hr (WW:=WW) (AA:=AA) eW eA h1 hlen z1 z2 tw (KK:=KK) (Q:=Q)
  generalize hA1:cTr (at1 w n P P.length)=AA at *
  have hS:cSy (at1 w n P 0).last=cSy (pR w n):=rfl
  generalize cSy (pR w n)=SS at *
  generalize hW1:cW w=WW at *
  simp(disch:=omega)only[FN,aD (C:=CA (XP CW)) (f:=15) rfl,aD (C:=CA (XP CW)) (f:=16) rfl,aD (C:=CA (XP CW)) (f:=17) rfl,aD (C:=CA (XP CW)) (f:=14) rfl,go_sem,simprocAttr,h1,hlen,z1,z2,tw,QK.use hA',QK.use hLg',QK.use hP,QK.use hN,c1,c2,d1,d2]
  rw[aB (l:=[1,2,5,6,8]) rfl]
  simp(disch:=omega)only[go_sem,simprocAttr]
  refine hloop WW AA rfl rfl h1 hlen z1 z2 tw _ _ (fun SS T=>?_) P.length 0 SS _ (Nat.zero_add _) hS
  simp(disch:=omega)only[go_sem,simprocAttr]
end Go.Proofs.YtpdphobnchajbaaGreatDoor.Ev
namespace Go.Proofs.YtpdphobnchajbaaGreatDoor
open Go Go.RowKit Go.Proofs.YtpdphobnchajbaaGreatDoor.Ev
section
variable{H:Type}{enc:TypeId×Value→H}{w:World}{base:Nat}{spare:Nat→Bool}{held:Bool}{v:Value}{d:DataW H}{p:List MemPlace}
theorem ZA{t:TypeId}{F:List A→Prop}(hr:∀{fuel:Nat} {cs:List Value} {x:DataW H×List MemPlace},DataW.trod enc Tryz.prog w base spare held fuel t cs=some x→jM Tryz.prog t x.1→fX w F cs)(hv:∃ cs,v=.agg cs∧cs.size=Tryz.prog.cellsOf t)(h:DataW.Trod enc Tryz.prog w base spare held t v d p)(hd:jM Tryz.prog t d):∃ l,F l∧R [] (fun _=>False) w (.agg l) v:=by
 obtain⟨cs,rfl,-⟩:=hv
 obtain⟨fuel,hx⟩:=h
 obtain⟨l,h1,h2⟩:=hr hx hd
 refine⟨l,h1,?_⟩
 rw[R]
 exact⟨cs.toList,by simp,by simpa[Value.cells]using h2⟩
theorem N4(hv:∃ cs,v=.agg cs∧cs.size=Tryz.prog.cellsOf 44)(h:DataW.Trod enc Tryz.prog w base spare held 44 v d p)(hd:jM Tryz.prog 44 d):∃ l,(∃ W:Wo,W.Ok∧l=cW W)∧R [] (fun _=>False) w (.agg l) v:=ZA GL hv h hd
end
theorem aKH{a:A}(h:gA (.sl [.sc (.int .i64)]) a):∃ P:List Int,(∀ p∈P,-9223372036854775808≤p∧p<9223372036854775808)∧P.length≤reachBytes∧a=.sl P.length (P.map fun p=>I64 p):=by
 obtain⟨l,rfl,hl,hc⟩:=aNV h
 obtain⟨xs,h1,rfl⟩:=nE (p:=fun p:Int=>-9223372036854775808≤p∧p<9223372036854775808) (f:=fun p=>[I64 p]) fun c hc'=>by
  obtain⟨a,l',rfl,ha,hn⟩:=bJ (hc c hc')
  obtain rfl:=fP hn
  obtain⟨x,rfl,h1,h2⟩:=sC ha
  exact⟨x,⟨h1,by omega⟩,rfl⟩
 refine⟨xs,h1,by simpa using hl,?_⟩
 have:(xs.map fun p=>[I64 p]).flatten=xs.map fun p=>I64 p:=by
  clear h h1 hl hc
  induction xs with
  |nil=>rfl
  |cons x xs ih=>rw[List.map_cons,List.flatten_cons,List.map_cons,ih];rfl
 rw[this,List.length_map]
namespace Ev
noncomputable def CWP:Ctx:=CA (XP (CS Y11))
theorem CWP_ok:kG Tryz.prog CWP:=a4z (a6J (aOu aVb) rfl)
theorem CWP_B:CWP.B 4=some fn4:=a94
theorem WalkPrefix_ev{w:Wo}(wo:w.Ok){P:List Int}(hl:P.length≤reachBytes)(hr:∀ p∈P,-9223372036854775808≤p∧p<9223372036854775808):EvQ CWP 4 [.agg (cW w),.sl P.length (P.map fun p=>I64 p)] (Bo true):=X8 OI wo (Nat.le_trans hl (by decide)) hr
end Ev
end Go.Proofs.YtpdphobnchajbaaGreatDoor
