/- sys: the steps of a cache. -/
import Derived.Test.YtpdphobnchajbaaGreatDoorQ41
set_option linter.unusedSimpArgs false
set_option linter.unusedVariables false
namespace Go.Proofs.YtpdphobnchajbaaGreatDoor.Ev
open Go Go.RowKit
set_option maxRecDepth 100000
set_option maxHeartbeats 16000000
theorem u5{v:A}(h:mM v):∃ l,aE5 v l∧(∀ m∈l,m.Ok)∧l.length≤200:=by
 rcases h with rfl|⟨l,rfl,h1,h2⟩
 ·exact⟨[],.inl ⟨rfl,rfl⟩,by simp,by simp⟩
 ·exact⟨l,.inr rfl,h1,h2⟩
theorem zF{v:A}(h:mW v):∃ l:List Pf,((l=[]∧v=.v (.slice none 0 0))∨v=.sl l.length (cells cP l))∧(∀ p∈l,p.Ok)∧l.length≤200:=by
 rcases h with rfl|⟨l,rfl,h1,h2⟩
 ·exact⟨[],.inl ⟨rfl,rfl⟩,by simp,by simp⟩
 ·exact⟨l,.inr rfl,h1,h2⟩
section
variable{w:Wo}{s:Sy}{n:Nat}
theorem oK[Kst](W:w.Run n)(ts:s.Typ n)(hnl:s.net.length≤300){k:Nat}(hk:k<n){k':Ca}(ko:k'.Ok){vo dv:A}(ho:mM vo)(hd:mW dv){ow:Bool}{rb mb:Nat}{vc vk vd:A}{H:aG}(R:Rn ow w s rb mb vc vk vd [] H) :
  bW Cx 113 [.ptr rb 0,I64 k,eC k',vo,dv] H fun y K=>∃ l,K=H++l∧(ow=true→a3c w n rb mb y K):=by
 have hta:∀ k,List.take 160 (cC k)=cC k:=fun k=>List.take_of_length_le (by rw[aY];omega)
 have ho':=u5 ho
 have hd':=zF hd
 rw[aP aE7 aAw];refine⟨by simp[CV],?_⟩
 have fin:∀ vo dv,(∃ l,aE5 vo l∧(∀ m∈l,m.Ok)∧l.length≤200)→(∃ l:List Pf,((l=[]∧dv=.v (.slice none 0 0))∨dv=.sl l.length (cells cP l))∧(∀ p∈l,p.Ok)∧l.length≤200)→∃ l,H++[some ⟨101,[.ptr rb 0],true⟩,some ⟨3,[I64 k],true⟩,some ⟨123,cC k',true⟩,some ⟨56,[vo],true⟩,some ⟨68,[dv],true⟩]=H++l∧(ow=true→a3c w n rb mb (.clo 186 [] [.ptr (H.length+2) 0,.ptr H.length 0,.ptr (H.length+1) 0,.ptr (H.length+3) 0,.ptr (H.length+4) 0]) (H++[some ⟨101,[.ptr rb 0],true⟩,some ⟨3,[I64 k],true⟩,some ⟨123,cC k',true⟩,some ⟨56,[vo],true⟩,some ⟨68,[dv],true⟩])):=by
  intro vo dv ⟨out,o1,o2,o3⟩ ⟨ds,d1,d2,d3⟩
  refine⟨_,rfl,fun e l=>⟨_,_,rfl,?_⟩⟩
  subst e
  exact UU W ((R.app _).app l) ts hk ko (aI ((aZ H _ 2).trans rfl) l) (aI ((aZ H _ 0).trans rfl) l) (aI ((aZ H _ 1).trans rfl) l) (aI ((aZ H _ 3).trans rfl) l) (aI ((aZ H _ 4).trans rfl) l) o1 o2 o3 hnl d1 d2 d3
 rcases ho with rfl|⟨lo,rfl,-⟩
 all_goals rcases hd with rfl|⟨ld,rfl,-⟩
 all_goals
  simp(disch:=omega)only[go_sem,simprocAttr,aE]
  exact fin _ _ ho' hd'
theorem aKc(W:w.Run n)(ts:s.Typ n)(hnl:s.net.length≤300){k:Nat}(hk:k<n){x:Sp}(hx:x.node=k) :
  ∃ e:Int,∀ [Kst] {ow:Bool} {rb mb:Nat} {vc vk vd:A} {H:aG},Rn ow w s rb mb vc vk vd [] H→bW Cx 60 [.ptr rb 0,eS x] H (pF w n rb mb ow e H):=by
 obtain⟨ca,hca⟩:∃ ca,s.caches[k]?=some ca:=⟨_,List.getElem?_eq_getElem (by rw[ts.lk];exact hk)⟩;have co:=ts.cache ca (List.mem_of_getElem? hca);obtain⟨r,hr⟩:=c8 aY hca;have hta:∀ k,List.take 160 (cC k)=cC k:=fun k=>List.take_of_length_le (by rw[aY];omega);have htl:List.take 160 (cC ca++r)=cC ca:=List.take_left' (aY ca);have lk:=ts.lk;have wT:=W.ok.T;have h1:=oJ w.T;have hTl:=d7 wT;have htT:=tkT w.T wT
 have n4:=W.n4
 obtain⟨k',out,done,e,hT,k'o,ho,hd⟩:=aFq a4b wT W.good.geo (id:=k) (by omega) co
 refine⟨e,?_⟩
 intro _ ow rb mb vc vk vd H R
 have Hb:=R.at_
 obtain⟨kind,node,line,m⟩:=x
 simp only at hx
 subst hx
 rw[aP bAF a9w];refine⟨by simp[aEh],?_⟩
 cases ow with
 |true =>
  obtain⟨jk,rfl,hjk⟩:=R.rk
  simp(disch:=omega)only[go_sem,simprocAttr,qC,lA,r10,r15,(r20 wT),(fT wT),(eX wT),aI Hb,hr,hta,htl,hTl,htT,List.flatten_cons,List.flatten_nil,aI hjk,QK.use hT]
  refine aM (oK W ts hnl hk k'o ho hd (R.app _)) ?_
  rintro y K ⟨l,rfl,hA⟩
  simp(disch:=omega)only[go_sem,simprocAttr,aE]
  refine⟨_,_,rfl,rfl,fun _ h=>?_⟩
  have:=hA h
  simp only[List.append_assoc,List.cons_append,List.nil_append]at this
  exact this
 |false =>
  have:=R.rk
  unfold lO at this
  simp only[cond_false]at this
  subst this
  simp(disch:=omega)only[go_sem,simprocAttr,qC,lA,r10,r15,(r20 wT),(fT wT),(eX wT),aI Hb,hr,hta,htl,hTl,htT,List.flatten_cons,List.flatten_nil,QK.use hT]
  refine aM (oK W ts hnl hk k'o ho hd (R.app _)) ?_
  rintro y K ⟨l,rfl,hA⟩
  simp(disch:=omega)only[go_sem,simprocAttr,aE]
  exact⟨_,_,rfl,rfl,fun _ h=>by cases h⟩
theorem ZB(W:w.Run n)(ts:s.Typ n)(hnl:s.net.length≤300){k:Nat}(hk:k<n){x:Sp}(xo:x.Ok)(hx:x.node=k) :
  ∃ e:Int,∀ [Kst] {ow:Bool} {rb mb:Nat} {vc vk vd:A} {H:aG},Rn ow w s rb mb vc vk vd [] H→bW Cx 61 [.ptr rb 0,eS x] H (pF w n rb mb ow e H):=by
 obtain⟨ca,hca⟩:∃ ca,s.caches[k]?=some ca:=⟨_,List.getElem?_eq_getElem (by rw[ts.lk];exact hk)⟩;have co:=ts.cache ca (List.mem_of_getElem? hca);obtain⟨r,hr⟩:=c8 aY hca;have hta:∀ k,List.take 160 (cC k)=cC k:=fun k=>List.take_of_length_le (by rw[aY];omega);have htl:List.take 160 (cC ca++r)=cC ca:=List.take_left' (aY ca);have lk:=ts.lk;have wT:=W.ok.T;have h1:=oJ w.T;have hTl:=d7 wT;have htT:=tkT w.T wT
 have n4:=W.n4
 have xl:=xo.line
 have hG:=aCF W.good.geo ca (l:=x.line) xl.1 (by omega)
 obtain⟨k',out,e,hE,k'o,ho⟩:=XS wT W.good.geo (id:=k) (by omega) co (l:=x.line) ⟨xl.1,by omega⟩
 have hd:mW (.v (.slice none 0 0)):=.inl rfl
 have evc:w.evict=false∨w.evict=true:=by cases w.evict<;>simp
 refine⟨bif w.evict then(match ca.find w.s w.y x.line with|none=>6|some _=>e)else 6,?_⟩
 intro _ ow rb mb vc vk vd H R
 have Hb:=R.at_
 obtain⟨kind,node,line,m⟩:=x
 simp only at hx hG hE xl ⊢
 subst hx
 rw[aP bBm bAU];refine⟨by simp[aAM],?_⟩
 rcases evc with he|he
 ·rw[he]
  simp(disch:=omega)only[go_sem,simprocAttr,r19,aI Hb,he,aE]
  exact⟨_,_,rfl,rfl,fun h=>by cases h⟩
 rw[he]
 cases hf:ca.find w.s w.y line with
 |none =>
  rw[hf]at hG
  simp only at hG
  cases ow with
  |true =>
   obtain⟨jk,rfl,hjk⟩:=R.rk
   simp(disch:=omega)only[go_sem,simprocAttr,r10,r15,r19,(r20 wT),(fT wT),(eX wT),aI Hb,hr,htl,hTl,List.flatten_cons,List.flatten_nil,he,aI hjk,QK.use hG,aE]
   exact⟨_,_,rfl,rfl,fun h=>by cases h⟩
  |false =>
   have:=R.rk
   unfold lO at this
   simp only[cond_false]at this
   subst this
   simp(disch:=omega)only[go_sem,simprocAttr,r10,r15,r19,(r20 wT),(fT wT),(eX wT),aI Hb,hr,htl,hTl,List.flatten_cons,List.flatten_nil,he,QK.use hG,aE]
   exact⟨_,_,rfl,rfl,fun h=>by cases h⟩
 |some q =>
  rw[hf]at hG
  simp only at hG
  cases ow with
  |true =>
   obtain⟨jk,rfl,hjk⟩:=R.rk
   simp(disch:=omega)only[go_sem,simprocAttr,qC,lA,r10,r15,r19,(r20 wT),(fT wT),(eX wT),aI Hb,hr,hta,htl,hTl,htT,List.flatten_cons,List.flatten_nil,he,aI hjk,QK.use hG,QK.use hE]
   refine aM (oK W ts hnl hk k'o ho hd (R.app _)) ?_
   rintro y K ⟨l,rfl,hA⟩
   simp(disch:=omega)only[go_sem,simprocAttr,aE]
   refine⟨_,_,rfl,rfl,fun _ h=>?_⟩
   have:=hA h
   simp only[List.append_assoc,List.cons_append,List.nil_append]at this
   exact this
  |false =>
   have:=R.rk
   unfold lO at this
   simp only[cond_false]at this
   subst this
   simp(disch:=omega)only[go_sem,simprocAttr,qC,lA,r10,r15,r19,(r20 wT),(fT wT),(eX wT),aI Hb,hr,hta,htl,hTl,htT,List.flatten_cons,List.flatten_nil,he,QK.use hG,QK.use hE]
   refine aM (oK W ts hnl hk k'o ho hd (R.app _)) ?_
   rintro y K ⟨l,rfl,hA⟩
   simp(disch:=omega)only[go_sem,simprocAttr,aE]
   exact⟨_,_,rfl,rfl,fun _ h=>by cases h⟩
end
end Go.Proofs.YtpdphobnchajbaaGreatDoor.Ev
namespace Go.Proofs.YtpdphobnchajbaaGreatDoor.Pl
theorem ask_ok{l:List Ins}(hI:∀ x∈l,x.Ok){c:Core}(ok:c.Ok):u8 (ask l c).kind∧u8 (ask l c).loc∧u8 (ask l c).a∧u8 (ask l c).b:=by
 have z:u8 0:=by unfold u8;omega
 unfold ask
 split
 ·exact⟨z,z,z,z⟩
 ·rename_i x hx
  have xo:=hI x (List.mem_of_getElem? hx)
  split
  ·exact⟨xo.op,xo.loc,z,z⟩
  split
  ·exact⟨xo.op,xo.loc,s5 ok.g xo.na,z⟩
  split
  ·exact⟨xo.op,xo.loc,s5 ok.g xo.na,s5 ok.g xo.nb⟩
  ·exact⟨z,z,z,z⟩
theorem next_nil0{b:Int}{c:Core}(h:next [] b c=2∨next [] b c=3):False:=by
 unfold next free at h
 simp only[List.getElem?_nil]at h
 split at h<;>omega
end Go.Proofs.YtpdphobnchajbaaGreatDoor.Pl
namespace Go.Proofs.YtpdphobnchajbaaGreatDoor.Ev
open Go Go.RowKit
set_option maxRecDepth 100000
set_option maxHeartbeats 16000000
section
variable{w:Wo}{s:Sy}{n:Nat}
theorem aVz[Kst](W:w.Run n)(ts:s.Typ n){k:Nat}(hk:k<n){rb mb:Nat}{vc vk vd:A}{H:aG}(R:Rn true w s rb mb vc vk vd [] H){r kp cb:Nat}{c:Pl.Core}(co:c.Ok)(cbl:c.buf.length≤255)(hn:Pl.next (thr w k) w.buf c=2)
  (h1:H[r]?=some (some ⟨101,[.ptr rb 0],true⟩)) (h2:H[kp]?=some (some ⟨3,[I64 k],true⟩)) (h3:H[cb]?=some (some ⟨99,cK c,true⟩)) :
  bW Cx 107 [.ptr r 0,.ptr kp 0,.ptr cb 0] H fun _ K=>∃ s' vc vk vd done,Rn true w s' rb mb vc vk vd done K∧s'.Typ n∧(∀ p∈done,p.Ok)∧done.length≤500:=by
 have wT:=W.ok.T
 have Hb:=R.at_
 obtain⟨jc,rfl,hjc⟩:=R.rc
 obtain⟨t1,t2⟩:=NZ W.ok k
 have hL:=aWg t1 t2 w.net w.view w.repl w.buf w.evict co cbl hn
 have c'o:=Pl.loc_ok t2 w.buf co
 have c'b:=Pl.loc_buf (l:=thr w k) W.good.buf.2 cbl
 generalize Pl.loc (thr w k) w.buf c=c' at *
 have lc:=ts.lc
 have pc:=jK (c:=cK) (n:=12) (fun _=>rfl) c' (l:=s.cores) (i:=k) (by rw[lc];exact hk)
 simp only[List.cons_append,List.nil_append]at pc
 rw[aP aX5 aYU];refine⟨by simp[KO],?_⟩
 simp(disch:=omega)only[go_sem,simprocAttr,Hb,r15,(r20 wT),(fT wT),(eX wT),h1,h2,h3]
 refine aM (vZ Hb W.thr k (by have:=W.n4;omega)) ?_
 rintro v K' ⟨hv,rfl⟩
 rcases hv with⟨hnl,rfl⟩|rfl
 ·rw[hnl]at hn
  exact(Pl.next_nil0 (.inl hn)).elim
 simp(disch:=omega)only[go_sem,simprocAttr,Hb,r15,(r20 wT),(fT wT),(eX wT),h1,h2,h3,hjc,QK.use hL,pc,jR,vH,Nat.le_refl,aW]
 have R':=R.core (s.cores.set k c') (by simp)
 rw[List.length_set]at R'
 exact⟨_,_,_,_,_,R',ts.core1 c'o c'b,by simp,by simp⟩
theorem aAp(W:w.Run n)(ts:s.Typ n){k:Nat}(hk:k<n){x:Sp}(hx:x.node=k) :
  ∃ e:Int,∀ [Kst] {ow:Bool} {rb mb:Nat} {vc vk vd:A} {H:aG},Rn ow w s rb mb vc vk vd [] H→bW Cx 58 [.ptr rb 0,eS x] H (pF w n rb mb ow e H):=by
 have wT:=W.ok.T
 have n4:=W.n4
 obtain⟨c,hc⟩:∃ c,s.cores[k]?=some c:=⟨_,List.getElem?_eq_getElem (by rw[ts.lc];exact hk)⟩
 obtain⟨co,cb⟩:=ts.core c (List.mem_of_getElem? hc)
 obtain⟨rc,hrc⟩:=c8 (c:=cK) (n:=12) (fun _=>rfl) hc
 obtain⟨t1,t2⟩:=NZ W.ok k
 have lc:=ts.lc
 have nwo:(Pl.Core.mk c.pc c.g c.buf true c.drain).Ok:=⟨co.pc,co.g,co.buf⟩
 obtain⟨a1,a2,a3,a4⟩:=Pl.ask_ok t2 nwo
 have hA:=aOY t1 t2 nwo
 generalize Pl.ask (thr w k) ⟨c.pc,c.g,c.buf,true,c.drain⟩=op at *
 unfold Pl.u8 at a1 a2 a3 a4
 obtain⟨eW,hW⟩:=HO wT ts n4 hk (op:=⟨op.kind,op.loc,op.a,op.b⟩) ⟨⟨a1.1,by simp only;omega⟩,⟨a2.1,by simp only;omega⟩,⟨a3.1,by simp only;omega⟩,⟨a4.1,by simp only;omega⟩⟩ nwo cb
 refine⟨if Pl.next (thr w k) w.buf c=2 then 0 else if Pl.next (thr w k) w.buf c=3 then eW else 272,?_⟩
 intro _ ow rb mb vc vk vd H R
 have Hb:=R.at_
 obtain⟨kind,node,line,m⟩:=x
 simp only at hx
 subst hx
 rw[aP a9M a9f];refine⟨by simp[aDn],?_⟩
 cases ow with
 |true =>
  obtain⟨jc,rfl,hjc⟩:=R.rc
  simp(disch:=omega)only[go_sem,simprocAttr,r15,(r20 wT),(fT wT),(eX wT),aI Hb,aI hjc,hrc]
  refine aM (vZ (aI Hb _) W.thr k (by omega)) ?_
  rintro v K' ⟨hv,rfl⟩
  have hN:=MX hv t1 w.net w.view w.repl w.buf w.evict co cb
  generalize hnx:Pl.next (thr w k) w.buf c=nx at *
  by_cases q2:nx=2
  ·subst q2
   rcases hv with⟨hnl,rfl⟩|rfl
   ·rw[hnl]at hnx
    exact(Pl.next_nil0 (.inl hnx)).elim
   simp(disch:=omega)only[go_sem,simprocAttr,r15,(r20 wT),(fT wT),(eX wT),aI Hb,jR,QK.use hN,aE]
   refine⟨_,_,rfl,rfl,fun _ _ l=>⟨_,_,rfl,?_⟩⟩
   exact aVz W ts hk ((R.app _).app l) co cb hnx (aI ((aZ H _ 0).trans rfl) l) (aI ((aZ H _ 2).trans rfl) l) (aI ((aZ H _ 3).trans rfl) l)
  by_cases q3:nx=3
  ·subst q3
   rcases hv with⟨hnl,rfl⟩|rfl
   ·rw[hnl]at hnx
    exact(Pl.next_nil0 (.inr hnx)).elim
   simp(disch:=omega)only[go_sem,simprocAttr,r15,(r20 wT),(fT wT),(eX wT),aI Hb,jR,QK.use hN]
   refine aM (vZ (aI Hb _) W.thr k (by omega)) ?_
   rintro v K' ⟨hv,rfl⟩
   rcases hv with⟨hnl,rfl⟩|rfl
   ·rw[hnl]at hnx
    exact(Pl.next_nil0 (.inr hnx)).elim
   simp(disch:=omega)only[go_sem,simprocAttr,jR,QK.use hA]
   refine aM (hW (R.app _)) ?_
   rintro y K ⟨f,l,rfl,rfl,hS⟩
   simp(disch:=omega)only[go_sem,simprocAttr,aE]
   refine⟨_,_,rfl,rfl,fun h h'=>?_⟩
   have:=hS h h'
   simp only[List.append_assoc,List.cons_append,List.nil_append]at this
   exact this
  ·rcases hv with⟨hnl,rfl⟩|rfl
   all_goals
    simp(disch:=omega)only[go_sem,simprocAttr,r15,(r20 wT),(fT wT),(eX wT),aI Hb,jR,QK.use hN,aE]
    exact⟨_,_,rfl,rfl,fun h=>by cases h⟩
 |false =>
  have:=R.rc
  unfold lO at this
  simp only[cond_false]at this
  subst this
  simp(disch:=omega)only[go_sem,simprocAttr,r15,(r20 wT),(fT wT),(eX wT),aI Hb,hrc]
  refine aM (vZ (aI Hb _) W.thr k (by omega)) ?_
  rintro v K' ⟨hv,rfl⟩
  have hN:=MX hv t1 w.net w.view w.repl w.buf w.evict co cb
  generalize hnx:Pl.next (thr w k) w.buf c=nx at *
  by_cases q2:nx=2
  ·subst q2
   rcases hv with⟨hnl,rfl⟩|rfl
   ·rw[hnl]at hnx
    exact(Pl.next_nil0 (.inl hnx)).elim
   simp(disch:=omega)only[go_sem,simprocAttr,r15,(r20 wT),(fT wT),(eX wT),aI Hb,jR,QK.use hN,aE]
   exact⟨_,_,rfl,rfl,fun _ h=>by cases h⟩
  by_cases q3:nx=3
  ·subst q3
   rcases hv with⟨hnl,rfl⟩|rfl
   ·rw[hnl]at hnx
    exact(Pl.next_nil0 (.inr hnx)).elim
   simp(disch:=omega)only[go_sem,simprocAttr,r15,(r20 wT),(fT wT),(eX wT),aI Hb,jR,QK.use hN]
   refine aM (vZ (aI Hb _) W.thr k (by omega)) ?_
   rintro v K' ⟨hv,rfl⟩
   rcases hv with⟨hnl,rfl⟩|rfl
   ·rw[hnl]at hnx
    exact(Pl.next_nil0 (.inr hnx)).elim
   simp(disch:=omega)only[go_sem,simprocAttr,jR,QK.use hA]
   refine aM (hW (R.app _)) ?_
   rintro y K ⟨f,l,rfl,rfl,hS⟩
   simp(disch:=omega)only[go_sem,simprocAttr,aE]
   exact⟨_,_,rfl,rfl,fun _ h=>by cases h⟩
  ·rcases hv with⟨hnl,rfl⟩|rfl
   all_goals
    simp(disch:=omega)only[go_sem,simprocAttr,r15,(r20 wT),(fT wT),(eX wT),aI Hb,jR,QK.use hN,aE]
    exact⟨_,_,rfl,rfl,fun h=>by cases h⟩
theorem XY(W:w.Run n)(ts:s.Typ n){k:Nat}(hk:k<n){x:Sp}(hx:x.node=k) :
  ∃ e:Int,∀ [Kst] {ow:Bool} {rb mb:Nat} {vc vk vd:A} {H:aG},Rn ow w s rb mb vc vk vd [] H→bW Cx 59 [.ptr rb 0,eS x] H (pF w n rb mb ow e H):=by
 have wT:=W.ok.T
 have n4:=W.n4
 obtain⟨c,hc⟩:∃ c,s.cores[k]?=some c:=⟨_,List.getElem?_eq_getElem (by rw[ts.lc];exact hk)⟩
 obtain⟨co,cb⟩:=ts.core c (List.mem_of_getElem? hc)
 obtain⟨rc,hrc⟩:=c8 (c:=cK) (n:=12) (fun _=>rfl) hc
 have lc:=ts.lc
 have nwo:(Pl.Core.mk c.pc c.g c.buf c.waits true).Ok:=⟨co.pc,co.g,co.buf⟩
 have hD:=aDM cb
 obtain⟨kind,node,line,m⟩:=x
 simp only at hx
 subst hx
 cases hd:Pl.drains c with
 |none =>
  rw[hd]at hD
  simp only[wA]at hD
  refine⟨272,?_⟩
  intro _ ow rb mb vc vk vd H R
  have Hb:=R.at_
  rw[aP aN2 aOm];refine⟨by simp[YS],?_⟩
  cases ow with
  |true =>
  obtain⟨jc,rfl,hjc⟩:=R.rc
  simp(disch:=omega)only[go_sem,simprocAttr,(fT wT),(eX wT),aI Hb,aI hjc,hrc,QK.use hD,aE]
  exact⟨_,_,rfl,rfl,fun h=>by cases h⟩
  |false =>
  have:=R.rc
  unfold lO at this
  simp only[cond_false]at this
  subst this
  simp(disch:=omega)only[go_sem,simprocAttr,(fT wT),(eX wT),aI Hb,hrc,QK.use hD,aE]
  exact⟨_,_,rfl,rfl,fun h=>by cases h⟩
 |some p =>
  rw[hd]at hD
  simp only[wA]at hD
  have po:Pl.u8 p.1∧Pl.u8 p.2:=by
   unfold Pl.drains at hd
   split at hd
   ·cases hd
   ·exact co.buf p (List.mem_of_mem_head? hd)
  unfold Pl.u8 at po
  obtain⟨eW,hW⟩:=HO wT ts n4 hk (op:=⟨2,p.1,p.2,0⟩) ⟨by simp,⟨po.1.1,by simp only;omega⟩,⟨po.2.1,by simp only;omega⟩,by simp⟩ nwo cb
  refine⟨eW,?_⟩
  intro _ ow rb mb vc vk vd H R
  have Hb:=R.at_
  rw[aP aN2 aOm];refine⟨by simp[YS],?_⟩
  cases ow with
  |true =>
  obtain⟨jc,rfl,hjc⟩:=R.rc
  simp(disch:=omega)only[go_sem,simprocAttr,(fT wT),(eX wT),aI Hb,aI hjc,hrc,QK.use hD]
  refine aM (hW (R.app _)) ?_
  rintro y K ⟨f,l,rfl,rfl,hS⟩
  simp(disch:=omega)only[go_sem,simprocAttr,aE]
  refine⟨_,_,rfl,rfl,fun h h'=>?_⟩
  have:=hS h h'
  simp only[List.append_assoc,List.cons_append,List.nil_append]at this
  exact this
  |false =>
  have:=R.rc
  unfold lO at this
  simp only[cond_false]at this
  subst this
  simp(disch:=omega)only[go_sem,simprocAttr,(fT wT),(eX wT),aI Hb,hrc,QK.use hD]
  refine aM (hW (R.app _)) ?_
  rintro y K ⟨f,l,rfl,rfl,hS⟩
  simp(disch:=omega)only[go_sem,simprocAttr,aE]
  exact⟨_,_,rfl,rfl,fun _ h=>by cases h⟩
end
end Go.Proofs.YtpdphobnchajbaaGreatDoor.Ev
namespace Go.Proofs.YtpdphobnchajbaaGreatDoor.Ev
open Go Go.RowKit
set_option maxRecDepth 100000
set_option maxHeartbeats 16000000
theorem NH(a b:Mg):eqT Cx.T 20 60 [I8 a.kind,I8 a.src,I8 a.dst,I8 a.line,I8 a.asker,I8 a.acks,Bo a.alone,I8 a.d.a,I8 a.d.b,I8 a.d.c,I8 a.d.d] [I8 b.kind,I8 b.src,I8 b.dst,I8 b.line,I8 b.asker,I8 b.acks,Bo b.alone,I8 b.d.a,I8 b.d.b,I8 b.d.c,I8 b.d.d]=some (a.eqB b):=by
 unfold Mg.eqB
 by_cases h0:a.kind=b.kind
 case neg =>
  rw[decide_eq_false (fun h=>h0 h.1)]
  simp(disch:=omega)only[go_sem,simprocAttr,cZ h0]
 by_cases h1:a.src=b.src
 case neg =>
  rw[decide_eq_false (fun h=>h1 h.2.1)]
  simp(disch:=omega)only[go_sem,simprocAttr,h0,cZ h1]
 by_cases h2:a.dst=b.dst
 case neg =>
  rw[decide_eq_false (fun h=>h2 h.2.2.1)]
  simp(disch:=omega)only[go_sem,simprocAttr,h0,h1,cZ h2]
 by_cases h3:a.line=b.line
 case neg =>
  rw[decide_eq_false (fun h=>h3 h.2.2.2.1)]
  simp(disch:=omega)only[go_sem,simprocAttr,h0,h1,h2,cZ h3]
 by_cases h4:a.asker=b.asker
 case neg =>
  rw[decide_eq_false (fun h=>h4 h.2.2.2.2.1)]
  simp(disch:=omega)only[go_sem,simprocAttr,h0,h1,h2,h3,cZ h4]
 by_cases h5:a.acks=b.acks
 case neg =>
  rw[decide_eq_false (fun h=>h5 h.2.2.2.2.2.1)]
  simp(disch:=omega)only[go_sem,simprocAttr,h0,h1,h2,h3,h4,cZ h5]
 by_cases h6:a.alone=b.alone
 case neg =>
  rw[decide_eq_false (fun h=>h6 h.2.2.2.2.2.2.1)]
  have bb:(a.alone==b.alone)=false:=by simpa using h6
  simp(disch:=omega)only[go_sem,simprocAttr,h0,h1,h2,h3,h4,h5,bb]
 by_cases h7:a.d.a=b.d.a
 case neg =>
  rw[decide_eq_false (fun h=>h7 h.2.2.2.2.2.2.2.1)]
  simp(disch:=omega)only[go_sem,simprocAttr,h0,h1,h2,h3,h4,h5,h6,cZ h7]
 by_cases h8:a.d.b=b.d.b
 case neg =>
  rw[decide_eq_false (fun h=>h8 h.2.2.2.2.2.2.2.2.1)]
  simp(disch:=omega)only[go_sem,simprocAttr,h0,h1,h2,h3,h4,h5,h6,h7,cZ h8]
 by_cases h9:a.d.c=b.d.c
 case neg =>
  rw[decide_eq_false (fun h=>h9 h.2.2.2.2.2.2.2.2.2.1)]
  simp(disch:=omega)only[go_sem,simprocAttr,h0,h1,h2,h3,h4,h5,h6,h7,h8,cZ h9]
 by_cases h10:a.d.d=b.d.d
 case neg =>
  rw[decide_eq_false (fun h=>h10 h.2.2.2.2.2.2.2.2.2.2)]
  simp(disch:=omega)only[go_sem,simprocAttr,h0,h1,h2,h3,h4,h5,h6,h7,h8,h9,cZ h10]
 rw[decide_eq_true ⟨h0,h1,h2,h3,h4,h5,h6,h7,h8,h9,h10⟩]
 simp(disch:=omega)only[go_sem,simprocAttr,h0,h1,h2,h3,h4,h5,h6,h7,h8,h9,h10]
def vW(net:List Mg)(m:Mg):List Nat→Nat→Option Nat
 |[],_=>none
 |i::os,j=>bif (match net[i]? with|some x=>x.eqB m|none=>false)then some j else vW net m os (j+1)
def A0:Option Nat→Int
 |none=>-1
 |some j=>j
section
variable{w:Wo}{s:Sy}{n:Nat}
theorem aPd[Kst](wT:w.T.Ok){ow:Bool}{rb mb:Nat}{vc vk vd:A}{H:aG}(R:Rn ow w s rb mb vc vk vd [] H){r mp:Nat}{m:Mg}(h1:H[r]?=some (some ⟨101,[.ptr rb 0],true⟩))(h2:H[mp]?=some (some ⟨60,cM m,true⟩)){i:Nat}{x:Mg}(hx:s.net[i]?=some x)(hl:s.net.length≤500) :
  bW Cx 117 [I64 i,.ptr r 0,.ptr mp 0] H fun y K=>K=H∧y=Bo (x.eqB m):=by
 have Hb:=R.at_
 have hil:=(List.getElem?_eq_some_iff.1 hx).1
 obtain⟨rr,hr⟩:=c8 (c:=cM) (n:=11) (fun _=>rfl) hx
 have he:=NH x m
 rw[aP a2D aW5];refine⟨by simp[LD],?_⟩
 simp(disch:=omega)only[↓ he,go_sem,simprocAttr,Hb,(pI wT),(mF wT),(lH wT),h1,h2,hr,aE]
theorem aA0{os:List Nat}{j i:Nat}(h:os[j]?=some i):∃ r,List.drop j (cells cJ os)=I64 i::r:=by
 obtain⟨r,hr⟩:=c8 (c:=cJ) (n:=1) (fun _=>rfl) h
 rw[Nat.mul_one]at hr
 exact⟨r,hr⟩
theorem vA[Kst](wT:w.T.Ok){ow:Bool}{rb mb:Nat}{vc vk vd:A}{H:aG}(R:Rn ow w s rb mb vc vk vd [] H){r mp:Nat}{m:Mg}(h1:H[r]?=some (some ⟨101,[.ptr rb 0],true⟩))(h2:H[mp]?=some (some ⟨60,cM m,true⟩))(hl:s.net.length≤500){os:List Nat}(ho:∀ i∈os,i<s.net.length)(hol:os.length≤64) :
  bW Cx 116 [.sl os.length (cells cJ os),.clo 117 [] [.ptr r 0,.ptr mp 0]] H fun y K=>K=H∧y=I64 (A0 (vW s.net m os 0)):=by
 have loop:∀(d j:Nat),j+d=os.length→bG Cx [.code (.loop VD),.blk 0,.code (.seq (.reg [] [⟨some 4,.assign (.const (.int .i64 (-1))),none⟩] 0) .ret)] ⟨[(0,.sl os.length (cells cJ os)),(1,.clo 117 [] [.ptr r 0,.ptr mp 0]),(7,I64 os.length),(8,I64 j)],H⟩ (lB Cx [.tmp 4] fun y K=>K=H∧y=I64 (A0 (vW s.net m (os.drop j) j))):=by
  intro d
  induction d with
  |zero =>
   intro j hj
   obtain rfl:j=os.length:=by omega
   rw[List.drop_length]
   rw[aA]
   simp(disch:=omega)only[go_sem,simprocAttr,Int.lt_irrefl,vW,A0,aE]
  |succ d ih =>
   intro j hj
   obtain⟨i,hi⟩:∃ i,os[j]?=some i:=⟨_,List.getElem?_eq_getElem (by omega)⟩
   have hd:os.drop j=i::os.drop (j+1):=eJ hi
   obtain⟨x,hx⟩:∃ x,s.net[i]?=some x:=⟨_,List.getElem?_eq_getElem (ho i (List.mem_of_getElem? hi))⟩
   obtain⟨rr,hr⟩:=aA0 hi
   have nx:=ih (j+1) (by omega)
   rw[Int.natCast_add,Int.natCast_one]at nx
   rw[hd,vW,hx]
   simp only
   rw[aA]
   simp(disch:=omega)only[go_sem,simprocAttr,hr,Nat.mul_one]
   refine aM (aPd wT R h1 h2 hx hl) ?_
   rintro y K ⟨rfl,rfl⟩
   cases x.eqB m with
   |true=>simp(disch:=omega)only[go_sem,simprocAttr,A0,aE]
   |false =>
    simp(disch:=omega)only[go_sem,simprocAttr]
    rw[aB (l:=[0,1,7,8]) rfl]
    simp(disch:=omega)only[go_sem,simprocAttr]
    exact nx
 rw[aP aQf a3z];refine⟨by simp[HA],?_⟩
 simp(disch:=omega)only[go_sem,simprocAttr]
 rw[aB (l:=[0,1,7,8]) rfl]
 simp(disch:=omega)only[go_sem,simprocAttr]
 have:=loop os.length 0 (by omega)
 rw[List.drop_zero]at this
 exact this
end
end Go.Proofs.YtpdphobnchajbaaGreatDoor.Ev
