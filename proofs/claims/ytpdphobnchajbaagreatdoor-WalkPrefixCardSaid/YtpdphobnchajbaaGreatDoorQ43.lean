/- sys: a message is delivered. -/
import Derived.Test.YtpdphobnchajbaaGreatDoorQ42
set_option linter.unusedSimpArgs false
set_option linter.unusedVariables false
namespace Go.Proofs.YtpdphobnchajbaaGreatDoor.Ev
open Go Go.RowKit
set_option maxRecDepth 100000
set_option maxHeartbeats 16000000
def xB(h:Nat→Dr)(i:Nat)(d:Dr):Nat→Dr:=fun j=>if j=i then d else h j
theorem Z8(w:Wo)(vc vk:A):∃ P:List A,(w.T.Ok→P.length=587)∧∀(s:Sy) vn vm vd,eQ w vc vk s vn vm vd=P++(s.dirs++[vn,vm,vd]):=by
 obtain⟨c0,c1,c2,c3,c4,hc⟩:=jU w.P
 refine⟨cW w++[vc,vk],fun ok=>?_,fun s vn vm vd=>?_⟩
 ·have hl:=d7 ok
  unfold cW cPg Pg.low Wo.gr
  rw[hc]
  simp only[List.length_append,List.length_cons,List.length_nil,hl]
 ·unfold eQ iB
  simp only[List.cons_append,List.nil_append,List.append_assoc]
theorem bDd{w:Wo}(ok:w.T.Ok)(vc vk:A)(s:Sy)(vn vm vd:A){i:Nat}(hi:i<6)(d:Dr):List.take (587+i*11) (eQ w vc vk s vn vm vd)++(cD d++List.drop (587+i*11+11) (eQ w vc vk s vn vm vd))=eQ w vc vk ⟨s.cores,s.caches,xB s.homes i d,s.net⟩ vn vm vd:=by
 obtain⟨P,hl,h⟩:=Z8 w vc vk
 have hl:=hl ok
 rw[h s,h]
 have hd:s.dirs.length=66:=F5
 rw[List.take_append,List.take_of_length_le (by omega),hl,show 587+i*11-587=i*11 by omega,show 587+i*11+11=587+(i*11+11)by omega,← List.drop_drop,List.drop_left' hl,List.append_assoc]
 congr 1
 rw[List.take_append_of_le_length (by omega),List.drop_append_of_le_length (by omega)]
 have e:=jK (c:=cD) (n:=11) (fun _=>rfl) d (l:=[s.homes 0,s.homes 1,s.homes 2,s.homes 3,s.homes 4,s.homes 5]) (i:=i) (by simpa using hi)
 have e2:cells cD ([s.homes 0,s.homes 1,s.homes 2,s.homes 3,s.homes 4,s.homes 5].set i d)=(Sy.mk s.cores s.caches (xB s.homes i d) s.net).dirs:=by
  obtain rfl|rfl|rfl|rfl|rfl|rfl:i=0∨i=1∨i=2∨i=3∨i=4∨i=5:=by omega
  all_goals rfl
 rw[e2]at e
 rw[← e]
 unfold Sy.dirs
 simp only[List.append_assoc]
section
variable{w:Wo}{s:Sy}{n:Nat}
theorem CR{k:Nat}{k':Ca}{vo dv:A}(ho:mM vo)(hd:mW dv){rb:Nat}{H:aG} :
  bW Cx 113 [.ptr rb 0,I64 k,eC k',vo,dv] H fun y K=>K=H++[some ⟨101,[.ptr rb 0],true⟩,some ⟨3,[I64 k],true⟩,some ⟨123,cC k',true⟩,some ⟨56,[vo],true⟩,some ⟨68,[dv],true⟩]∧y=.clo 186 [] [.ptr (H.length+2) 0,.ptr H.length 0,.ptr (H.length+1) 0,.ptr (H.length+3) 0,.ptr (H.length+4) 0]:=by
 have hta:∀ k,List.take 160 (cC k)=cC k:=fun k=>List.take_of_length_le (by rw[aY];omega)
 rw[aP aE7 aAw];refine⟨by simp[CV],?_⟩
 rcases ho with rfl|⟨lo,rfl,-⟩
 all_goals rcases hd with rfl|⟨ld,rfl,-⟩
 all_goals simp(disch:=omega)only[go_sem,simprocAttr,aE]
theorem aUB[Kst](W:w.Run n){rb mb:Nat}{vc vk vd:A}{H:aG}(R:Rn true w s rb mb vc vk vd [] H)(ts:s.Typ n){k:Nat}(hk:k<n){k':Ca}(ko:k'.Ok){vo dv:A}(ho:mM vo)(hd:mW dv){rest:List Mg}(ro:∀ m∈rest,m.Ok)(rl:rest.length≤300){rs r2 fp b:Nat}
  (h1:H[rs]?=some (some ⟨56,[.sl rest.length (cells cM rest)],true⟩)) (h2:H[r2]?=some (some ⟨101,[.ptr rb 0],true⟩)) (h3:H[fp]?=some (some ⟨1,[.clo 186 [] [.ptr (b+2) 0,.ptr b 0,.ptr (b+1) 0,.ptr (b+3) 0,.ptr (b+4) 0]],true⟩))
  (b0:H[b]?=some (some ⟨101,[.ptr rb 0],true⟩)) (b1:H[b+1]?=some (some ⟨3,[I64 k],true⟩)) (b2:H[b+2]?=some (some ⟨123,cC k',true⟩)) (b3:H[b+3]?=some (some ⟨56,[vo],true⟩)) (b4:H[b+4]?=some (some ⟨68,[dv],true⟩)) :
  bW Cx 121 [.ptr rs 0,.ptr r2 0,.ptr fp 0] H fun _ K=>∃ s' vc vk vd done,Rn true w s' rb mb vc vk vd done K∧s'.Typ n∧(∀ p∈done,p.Ok)∧done.length≤500:=by
 have wT:=W.ok.T
 have Hb:=R.at_
 obtain⟨out,o1,o2,o3⟩:=u5 ho
 obtain⟨ds,d1,d2,d3⟩:=zF hd
 have R1:=R.net wT rest s.homes R.dn
 have ts1:(Sy.mk s.cores s.caches s.homes rest).Typ n:=⟨ts.lc,ts.lk,by simp only;omega,ts.core,ts.cache,ts.home,ro⟩
 rw[mA w _ _ _ _ _ (show(Sy.mk s.cores s.caches s.homes rest).homes=s.homes from rfl)]at R1
 have f3:=aO h3 (bO Hb h3 rfl)
 rw[aP aYT aWC];refine⟨by simp[MU],?_⟩
 simp(disch:=omega)only[go_sem,simprocAttr,Hb,(mF wT),(lH wT),(tV wT),h1,h2,f3,aO3 wT]
 refine aM (UU W R1 ts1 hk ko (aO b2 (bO Hb b2 rfl) _) (aO b0 (bO Hb b0 rfl) _) (aO b1 (bO Hb b1 rfl) _) (aO b3 (bO Hb b3 rfl) _) (aO b4 (bO Hb b4 rfl) _) o1 o2 o3 rl d1 d2 d3) ?_
 intro y K hG
 simp(disch:=omega)only[go_sem,simprocAttr,aW]
 exact hG
theorem aYq[Kst](W:w.Run n){rb mb:Nat}{vc vk vd:A}{H:aG}(R:Rn true w s rb mb vc vk vd [] H)(ts:s.Typ n){d:Dr}(dk:d.Ok){m:Mg}(mo:m.Ok){i:Nat}(hi:i<6)(hm:m.line=i){vo:A}(ho:mM vo){rest:List Mg}(ro:∀ m∈rest,m.Ok)(rl:rest.length≤300){dp r2 mp rs op:Nat}
  (h0:H[dp]?=some (some ⟨54,cD d,true⟩)) (h1:H[r2]?=some (some ⟨101,[.ptr rb 0],true⟩)) (h2:H[mp]?=some (some ⟨60,cM m,true⟩)) (h3:H[rs]?=some (some ⟨56,[.sl rest.length (cells cM rest)],true⟩)) (h4:H[op]?=some (some ⟨56,[vo],true⟩)) :
  bW Cx 124 [.ptr dp 0,.ptr r2 0,.ptr mp 0,.ptr rs 0,.ptr op 0] H fun _ K=>∃ s' vc vk vd done,Rn true w s' rb mb vc vk vd done K∧s'.Typ n∧(∀ p∈done,p.Ok)∧done.length≤500:=by
 have wT:=W.ok.T
 have Hb:=R.at_
 obtain⟨out,o1,o2,o3⟩:=u5 ho
 have hS:=RA (a:=rest) (b:=out) (.inr rfl) o1 (by omega) (by omega)
 have f1:=aO h1 (bO Hb h1 rfl)
 have f3:=aO h3 (bO Hb h3 rfl)
 have f4:=aO h4 (bO Hb h4 rfl)
 have fb:=fun X=>bU Hb X
 have te:=fun vn=>bDd wT vc vk s vn (.mp mb) vd hi d
 simp only[List.cons_append,List.nil_append]at te
 obtain⟨kind,src,dst,line,asker,acks,alone,data⟩:=m
 simp only at hm
 subst hm
 rw[aP aSW aT8];refine⟨by simp[L7],?_⟩
 have R1:=R.net wT (rest++out) (xB s.homes i d) R.dn
 rw[mA w _ _ _ _ _ (show(Sy.mk s.cores s.caches (xB s.homes i d) (rest++out)).homes=(Sy.mk s.cores s.caches (xB s.homes i d) s.net).homes from rfl)]at R1
 have ts1:(Sy.mk s.cores s.caches (xB s.homes i d) (rest++out)).Typ n:=⟨ts.lc,ts.lk,by simp only[List.length_append];omega,ts.core,ts.cache,fun j hj=>by
  show(xB s.homes i d j).Ok
  unfold xB
  split
  ·exact dk
  ·exact ts.home j hj,fun m hm=>(List.mem_append.1 hm).elim (ro m) (o2 m)⟩
 rcases o1 with⟨rfl,rfl⟩|rfl
 all_goals
  simp(disch:=omega)only[go_sem,simprocAttr,Hb,(mF wT),(lH wT),(tV wT),h0,h1,h2,f1,f3,f4,fb,te,QK.use hS,aO3 wT,List.set_set,aW]
  have e1:=R1
  simp only[List.append_nil,List.length_append]at e1 ts1 ⊢
  exact⟨_,_,_,_,_,e1,ts1,by simp,by simp⟩
end
theorem uW{net:List Mg}{m:Mg}:∀{os:List Nat} {j0 j:Nat},vW net m os j0=some j→∃ d i,j=j0+d∧os[d]?=some i∧net[i]?=some m
 |[],j0,j,h=>by cases h
 |i::os,j0,j,h=>by
  rw[vW]at h
  have step:vW net m os (j0+1)=some j→∃ d i',j=j0+d∧(i::os)[d]?=some i'∧net[i']?=some m:=fun h=>by
   obtain⟨d,i',h1,h2,h3⟩:=uW (os:=os) h
   exact⟨d+1,i',by omega,by simpa using h2,h3⟩
  cases hx:net[i]? with
  |none =>
   simp only[hx,cond_false]at h
   exact step h
  |some x =>
   simp only[hx]at h
   cases hb:x.eqB m with
   |true =>
    simp only[hb,cond_true,Option.some.injEq]at h
    exact⟨0,i,by omega,rfl,by rw[hx,(Mg.eqB_iff _ _).1 hb]⟩
   |false =>
    simp only[hb,cond_false]at h
    exact step h
theorem W4{α:Type}{l:List α}{i:Nat}{x:α}(h:l[i]?=some x):∃ a b,l=a++x::b∧a.length=i:=by
 refine⟨l.take i,l.drop (i+1),?_,?_⟩
 ·rw[← eJ h,List.take_append_drop]
 ·have:=(List.getElem?_eq_some_iff.1 h).1
  rw[List.length_take]
  omega
section
variable{w:Wo}{s:Sy}{n:Nat}
theorem aHv(W:w.Run n)(ts:s.Typ n)(hnl:s.net.length≤64){x:Sp}(xo:x.Ok){os:List Nat}(hN:EvQ Cx 64 [.sl s.net.length (cells cM s.net),I8 w.net] (.sl os.length (cells cJ os)))(hos:∀ i∈os,i<s.net.length)(hol:os.length≤64) :
  ∃ e:Int,(vW s.net x.m os 0=none→e=6)∧∀ [Kst] {ow:Bool} {rb mb:Nat} {vc vk vd:A} {H:aG},Rn ow w s rb mb vc vk vd [] H→bW Cx 62 [.ptr rb 0,eS x] H (pF w n rb mb ow e H):=by
 have wT:=W.ok.T
 have n4:=W.n4
 have mo:=xo.m
 obtain⟨kind,node,line,m⟩:=x
 simp only at mo ⊢
 cases hi:vW s.net m os 0 with
 |none =>
  refine⟨6,fun _=>rfl,?_⟩
  intro _ ow rb mb vc vk vd H R
  have Hb:=R.at_
  rw[aP H6 MM];refine⟨by simp[FH],?_⟩
  simp(disch:=omega)only[go_sem,simprocAttr,r15,(r20 wT),(fT wT),(eX wT),(pI wT),(mF wT),(lH wT),aI Hb,QK.use hN]
  refine aM (vA wT (R.app _) ((aZ H _ 0).trans rfl) ((aZ H _ 2).trans rfl) (by omega) hos hol) ?_
  rintro y K ⟨rfl,rfl⟩
  rw[hi]
  simp(disch:=omega)only[go_sem,simprocAttr,A0,aE]
  exact⟨_,_,rfl,rfl,fun h=>by cases h⟩
 |some j =>
  obtain⟨d,i,rfl,hd,hm⟩:=uW hi
  rw[Nat.zero_add]at hi
  have ml:=mo.line
  by_cases q1:m.line<6
  case neg =>
   refine⟨2,by simp,?_⟩
   intro _ ow rb mb vc vk vd H R
   have Hb:=R.at_
   rw[aP H6 MM];refine⟨by simp[FH],?_⟩
   simp(disch:=omega)only[go_sem,simprocAttr,r15,(r20 wT),(fT wT),(eX wT),(pI wT),(mF wT),(lH wT),aI Hb,QK.use hN]
   refine aM (vA wT (R.app _) ((aZ H _ 0).trans rfl) ((aZ H _ 2).trans rfl) (by omega) hos hol) ?_
   rintro y K ⟨rfl,rfl⟩
   rw[hi]
   simp(disch:=omega)only[go_sem,simprocAttr,A0,aE]
   exact⟨_,_,rfl,rfl,fun h=>by cases h⟩
  obtain⟨rr,hr⟩:=aA0 hd
  obtain⟨a,b,hab,hal⟩:=W4 hm
  have hT:=aMS a b m (by rw[hab]at hnl;simp at hnl;omega) (by rw[hab]at hnl;simp at hnl;omega)
  rw[← hab,hal]at hT
  have ro:∀ m'∈a++b,m'.Ok:=fun m' h=>ts.net m' (by rw[hab];rcases List.mem_append.1 h with h|h<;>simp[h])
  have rl:(a++b).length≤64:=by rw[hab]at hnl;simp at hnl ⊢;omega
  generalize a++b=rest at *
  have hdl:=(List.getElem?_eq_some_iff.1 hd).1
  have md:=mo.dst
  have wg:=W.good.geo
  have wn:=W.n
  have h1:=oJ w.T
  have hTl:=d7 wT
  have htT:=tkT w.T wT
  have hta:∀ k,List.take 160 (cC k)=cC k:=fun k=>List.take_of_length_le (by rw[aY];omega)
  have hC:=LI wg (n:=m.dst) md.1 (by omega)
  have hH:=aJl wg (n:=m.dst) md.1 (by omega)
  by_cases q2:m.dst<w.c
  ·rw[decide_eq_true q2]at hC
   obtain⟨k,hk⟩:∃ k:Nat,m.dst=k:=⟨m.dst.toNat,by omega⟩
   have hkn:k<n:=by omega
   obtain⟨ca,hca⟩:∃ ca,s.caches[k]?=some ca:=⟨_,List.getElem?_eq_getElem (by rw[ts.lk];exact hkn)⟩
   have co:=ts.cache ca (List.mem_of_getElem? hca)
   obtain⟨r,hcr⟩:=c8 aY hca
   have htl:List.take 160 (cC ca++r)=cC ca:=List.take_left' (aY ca)
   have lk:=ts.lk
   obtain⟨k',out,done,e,hG,k'o,ho,hdn⟩:=aHT wT wg (id:=m.dst) md co mo
   refine⟨e,by simp,?_⟩
   intro _ ow rb mb vc vk vd H R
   have Hb:=R.at_
   obtain⟨mk,msrc,mdst,mline,mask,mack,mal,mdd⟩:=m
   simp only at hk hC hG q1 ml
   subst hk
   rw[aP H6 MM];refine⟨by simp[FH],?_⟩
   cases ow with
   |true =>
    obtain⟨jk,rfl,hjk⟩:=R.rk
    simp(disch:=omega)only[go_sem,simprocAttr,r15,(r20 wT),(fT wT),(eX wT),(pI wT),(mF wT),(lH wT),aI Hb,QK.use hN]
    refine aM (vA (m:=⟨mk,msrc,k,mline,mask,mack,mal,mdd⟩) wT (R.app _) ((aZ H _ 0).trans rfl) ((aZ H _ 2).trans rfl) (by omega) hos hol) ?_
    rintro y K ⟨rfl,rfl⟩
    rw[hi]
    simp(disch:=omega)only[go_sem,simprocAttr,r10,r15,(r20 wT),(fT wT),(eX wT),(pI wT),(mF wT),(lH wT),qC,lA,A0,aI Hb,hr,Nat.mul_one,QK.use hT,QK.use hC,QK.use hG,hcr,hta,htl,hTl,htT,aI hjk,List.flatten_cons,List.flatten_nil]
    refine aM (CR ho hdn) ?_
    rintro y K ⟨rfl,rfl⟩
    simp(disch:=omega)only[go_sem,simprocAttr,aE]
    refine⟨_,_,rfl,rfl,fun _ _ l=>⟨_,_,rfl,?_⟩⟩
    exact aUB W ((R.app _).app l) ts hkn k'o ho hdn ro (by omega) (b:=H.length+6) (aI ((aZ H _ 3).trans rfl) l) (aI ((aZ H _ 0).trans rfl) l) (aI ((aZ H _ 11).trans rfl) l) (aI ((aZ H _ 6).trans rfl) l) (aI ((aZ H _ 7).trans rfl) l) (aI ((aZ H _ 8).trans rfl) l) (aI ((aZ H _ 9).trans rfl) l) (aI ((aZ H _ 10).trans rfl) l)
   |false =>
    have:=R.rk
    unfold lO at this
    simp only[cond_false]at this
    subst this
    simp(disch:=omega)only[go_sem,simprocAttr,r15,(r20 wT),(fT wT),(eX wT),(pI wT),(mF wT),(lH wT),aI Hb,QK.use hN]
    refine aM (vA (m:=⟨mk,msrc,k,mline,mask,mack,mal,mdd⟩) wT (R.app _) ((aZ H _ 0).trans rfl) ((aZ H _ 2).trans rfl) (by omega) hos hol) ?_
    rintro y K ⟨rfl,rfl⟩
    rw[hi]
    simp(disch:=omega)only[go_sem,simprocAttr,r10,r15,(r20 wT),(fT wT),(eX wT),(pI wT),(mF wT),(lH wT),qC,lA,A0,aI Hb,hr,Nat.mul_one,QK.use hT,QK.use hC,QK.use hG,hcr,hta,htl,hTl,htT,List.flatten_cons,List.flatten_nil]
    refine aM (CR ho hdn) ?_
    rintro y K ⟨rfl,rfl⟩
    simp(disch:=omega)only[go_sem,simprocAttr,aE]
    exact⟨_,_,rfl,rfl,fun _ h=>by cases h⟩
  ·rw[decide_eq_false q2]at hC
   by_cases q3:w.c≤m.dst∧m.dst<w.c+w.h
   case neg =>
    rw[decide_eq_false q3]at hH
    refine⟨2,by simp,?_⟩
    intro _ ow rb mb vc vk vd H R
    have Hb:=R.at_
    rw[aP H6 MM];refine⟨by simp[FH],?_⟩
    simp(disch:=omega)only[go_sem,simprocAttr,r15,(r20 wT),(fT wT),(eX wT),(pI wT),(mF wT),(lH wT),aI Hb,QK.use hN]
    refine aM (vA wT (R.app _) ((aZ H _ 0).trans rfl) ((aZ H _ 2).trans rfl) (by omega) hos hol) ?_
    rintro y K ⟨rfl,rfl⟩
    rw[hi]
    simp(disch:=omega)only[go_sem,simprocAttr,r10,r15,(r20 wT),(fT wT),(eX wT),(pI wT),(mF wT),(lH wT),A0,aI Hb,hr,Nat.mul_one,QK.use hT,QK.use hC,QK.use hH,aE]
    exact⟨_,_,rfl,rfl,fun h=>by cases h⟩
   rw[decide_eq_true q3]at hH
   obtain⟨k,hk⟩:∃ k:Nat,m.line=k:=⟨m.line.toNat,by omega⟩
   have hk6:k<6:=by omega
   obtain⟨d',out,e,hG,d'o,ho⟩:=aGa wT wg (id:=m.dst) md (ts.home k hk6) mo
   refine⟨e,by simp,?_⟩
   intro _ ow rb mb vc vk vd H R
   have Hb:=R.at_
   obtain⟨rd,hrd⟩:=bC5 (vc:=vc) (vk:=vk) (s:=s) (vn:=.sl s.net.length (cells cM s.net)) (vm:=.mp mb) (vd:=vd) wT hk6
   obtain⟨mk,msrc,mdst,mline,mask,mack,mal,mdd⟩:=m
   simp only at hk hC hG hH q1 ml
   subst hk
   have hov:=ho
   rw[aP H6 MM];refine⟨by simp[FH],?_⟩
   simp(disch:=omega)only[go_sem,simprocAttr,r15,(r20 wT),(fT wT),(eX wT),(pI wT),(mF wT),(lH wT),aI Hb,QK.use hN]
   refine aM (vA (m:=⟨mk,msrc,mdst,k,mask,mack,mal,mdd⟩) wT (R.app _) ((aZ H _ 0).trans rfl) ((aZ H _ 2).trans rfl) (by omega) hos hol) ?_
   rintro y K ⟨rfl,rfl⟩
   rw[hi]
   rcases ho with rfl|⟨lo,rfl,-⟩
   all_goals
    simp(disch:=omega)only[go_sem,simprocAttr,r10,r15,(r20 wT),(fT wT),(eX wT),(pI wT),(mF wT),(lH wT),qC,lA,A0,aI Hb,hr,Nat.mul_one,QK.use hT,QK.use hC,QK.use hH,QK.use hG,hrd,hTl,htT,aE]
    refine⟨_,_,rfl,rfl,fun _ h l=>⟨_,_,rfl,?_⟩⟩
    subst h
    exact aYq (m:=⟨mk,msrc,mdst,k,mask,mack,mal,mdd⟩) W ((R.app _).app l) ts d'o mo hk6 rfl hov ro (by omega) (aI ((aZ H _ 5).trans rfl) l) (aI ((aZ H _ 0).trans rfl) l) (aI ((aZ H _ 2).trans rfl) l) (aI ((aZ H _ 3).trans rfl) l) (aI ((aZ H _ 6).trans rfl) l)
end
end Go.Proofs.YtpdphobnchajbaaGreatDoor.Ev
