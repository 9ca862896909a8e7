/- seisinlaw31: large, listed, disabled. -/
import Derived.Test.YtpdphobnchajbaaGreatDoorQ46
set_option linter.unusedSimpArgs false
set_option linter.unusedVariables false
namespace Go.Proofs.YtpdphobnchajbaaGreatDoor.Ev
open Go Go.RowKit
set_option maxRecDepth 100000
set_option maxHeartbeats 16000000
theorem a1G(a b:Sp):eqT Cx.T 20 62 (cS a) (cS b)=some (a.eqB b):=by
 unfold Sp.eqB
 by_cases h0:a.kind=b.kind
 case neg =>
  rw[decide_eq_false (fun h=>h0 h.1)]
  simp(disch:=omega)only[go_sem,simprocAttr,cZ h0]
 by_cases h1:a.node=b.node
 case neg =>
  rw[decide_eq_false (fun h=>h1 h.2.1)]
  simp(disch:=omega)only[go_sem,simprocAttr,h0,cZ h1]
 by_cases h2:a.line=b.line
 case neg =>
  rw[decide_eq_false (fun h=>h2 h.2.2)]
  simp(disch:=omega)only[go_sem,simprocAttr,h0,h1,cZ h2]
 rw[decide_eq_true ⟨h0,h1,h2⟩]
 simp(disch:=omega)only[go_sem,simprocAttr,h0,h1,h2]
 rw[Bool.eq_iff_iff]
 unfold Mg.eqB
 simp
open Classical in
noncomputable def XE(C:Ctx)(S:List Nat)(X:FuncId→List A→Option A)(f:FuncId)(l:List A):Option A:=if h:f∈S∧∃ r,EvQ C f l r then some (Classical.choose h.2)else X f l
theorem aFa{C:Ctx}{S:List Nat}{X:FuncId→List A→Option A}{f:FuncId}{l:List A}{r:A}(hf:f∈S)(h:EvQ C f l r):XE C S X f l=some r:=by
 have hc:f∈S∧∃ r,EvQ C f l r:=⟨hf,r,h⟩
 unfold XE
 rw[dif_pos hc]
 rw[h.one (Classical.choose_spec hc.2)]
theorem FD{C:Ctx}{S:List Nat}{X:FuncId→List A→Option A}{f:FuncId}{l:List A}(hf:f ∉ S):XE C S X f l=X f l:=by
 unfold XE
 rw[dif_neg fun h=>hf h.1]
theorem aOC{C:Ctx}{S:List Nat}{X:FuncId→List A→Option A}(hC:kG Tryz.prog C)(hT:C.T=Cx.T)(hX:QOk Cx.T Tryz.prog X):QOk Cx.T Tryz.prog (XE C S X):=by
 intro f l r h
 unfold XE at h
 split at h
 ·rename_i hc
  obtain rfl:=Option.some.inj h
  obtain⟨N,hN⟩:=Classical.choose_spec hc.2
  have:=(jB hC N).1 f l _ hN
  rw[hT]at this
  exact this
 ·exact hX f l r h
noncomputable def CA(X:FuncId→List A→Option A):Ctx:=⟨Cx.T,Cx.B,X,fun _=>none⟩
theorem a4z{X:FuncId→List A→Option A}(h:QOk Cx.T Tryz.prog X):kG Tryz.prog (CA X):=⟨aCX.mixed,aCX.types,aCX.loops,aCX.fns,h,fun _ _ _ _ _ _ h=>by cases h⟩
theorem FN{X:FuncId→List A→Option A}:(CA X).T=Cx.T:=rfl
theorem OR:∀(l s:List Mg),(dd s l).length≤l.length
 |[],s=>by simp[dd]
 |m::l,s=>by
  rw[dd]
  cases rZ m s with
  |true=>have:=OR l s;simp only[cond_true,List.length_cons];omega
  |false=>have:=OR l (s++[m]);simp only[cond_false,List.length_cons];omega
theorem aII{E:Sp→Int}{n L:Nat}(hn:n≤4)(hL:L≤6){net:List Mg}{os:List Nat}(ho:os.length≤64):(okS E n L (iD net os)).length≤100:=by
 have h1:(okS E n L (iD net os)).length≤(AM n L (iD net os)).length:=List.length_filter_le ..
 have h2:(iD net os).length≤os.length:=List.length_filterMap_le ..
 have h3:=OR (iD net os) []
 have h4:∀ k,(l9 k n).length=n:=fun k=>by unfold l9;simp
 have h5:(evS n L).length=n*L:=by rw[← oS,rU]
 have h6:n*L≤4*6:=Nat.mul_le_mul hn hL
 have h7:(A2 (dd [] (iD net os))).length=(dd [] (iD net os)).length:=by unfold A2;simp
 unfold AM at h1
 simp only[List.length_append,h4,h5,h7]at h1
 omega
theorem aSi{E:Sp→Int}{n L:Nat}(hn:n≤4)(hL:L≤6){net:List Mg}(hm:∀ m∈net,m.Ok){os:List Nat}:∀ x∈okS E n L (iD net os),x.Ok:=by
 intro x hx
 unfold okS at hx
 have hx:=(List.mem_filter.1 hx).1
 rw[YN]at hx
 have hz:=M0
 rcases hx with⟨a,b,c,d⟩|⟨a,b,c,d⟩|⟨a,b,c,d⟩
 ·exact⟨by omega,by omega,by omega,b▸hz⟩
 ·exact⟨by omega,by omega,by omega,b▸hz⟩
 ·refine⟨by omega,by omega,by omega,?_⟩
  unfold iD at d
  obtain⟨i,-,h⟩:=List.mem_filterMap.1 d
  exact hm _ (List.mem_of_getElem? h)
theorem aNh(l:List Sp)(x:Sp):(l.any fun y=>y.eqB x)=true↔x∈l:=by
 rw[List.any_eq_true]
 constructor
 ·rintro⟨y,hy,h⟩
  exact(Sp.eqB_iff y x).1 h▸hy
 ·exact fun h=>⟨x,h,(Sp.eqB_iff x x).2 rfl⟩
def cTr(t:Tra):List A:=.sl t.steps.length (cells cS t.steps)::(cSy t.last++[.sl t.perfs.length (cells cP t.perfs),I64 t.err])
structure DoR where
 s:Sy
 d:List Pf
 e:Int
instance:Nonempty DoR:=⟨⟨zSy,[],0⟩⟩
structure a2o(w:Wo)(n:Nat)(s:Sy)(x:Sp)(r:DoR):Prop where
 ev:EvQ Cx 11 [.agg (cW w),.agg (cSy s),eS x] (.tup [.agg (cSy r.s),.sl r.d.length (cells cP r.d),I64 r.e])
 typ:r.e=0→r.s.Typ n∧r.s.net.length≤64
 len:r.d.length≤500
noncomputable def doR(w:Wo)(n:Nat)(s:Sy)(x:Sp):DoR:=Classical.epsilon (a2o w n s x)
structure aR7(w:Wo)(n:Nat)(s:Sy)(l:List Sp):Prop where
 ev:EvQ Cx 8 [.agg (cW w),.agg (cSy s)] (.sl l.length (cells cS l))
 len:l.length≤100
 each:∀ x∈l,x.Ok∧a2o w n s x (doR w n s x)
noncomputable def stR(w:Wo)(n:Nat)(s:Sy):List Sp:=Classical.epsilon (aR7 w n s)
theorem Sy.Typ.raw{s:Sy}{n:Nat}(ts:s.Typ n)(n4:n≤4):s.Raw:=⟨by have:=ts.lc;omega,by have:=ts.lk;omega,by have:=ts.ln;omega,fun c h=>⟨(ts.core c h).1,by have:=(ts.core c h).2;omega⟩,ts.cache,ts.home,ts.net⟩
theorem aBI{w:Wo}{n:Nat}(W:w.Run n)(hR:EvQ Cx 9 [.agg (cW w)] (Bo true)){s:Sy}(ts:s.Typ n)(hnl:s.net.length≤64):aR7 w n s (stR w n s):=by
 refine Classical.epsilon_spec (p:=aR7 w n s) ?_
 have wo:=W.ok
 have good:=W.good
 have n4:=W.n4
 have hs:=ts.raw n4
 obtain⟨_,hF,bF,rfl,gF⟩:=aJc wo hs
 have hf:=QB wo hR fun _=>hF
 cases bF with
 |false=>exact⟨[],aBA wo hf,by simp,fun x h=>by cases h⟩
 |true =>
  have n1:0<n:=by have:=W.n;have:=good.geo.1;omega
  have lines0:w.lines≤6:=by
   unfold Wo.lines
   have:=Int.ediv_le_self (a:=5) w.o (by omega)
   omega
  obtain⟨os,hN,hos,hol⟩:=aDi hs.net hnl good.net.1 good.net.2
  obtain⟨E,hE1,hE2⟩:=aUR W ts hnl hN hos hol
  have hSt:=YB W ts hnl hf hN hos hol hE2
  refine⟨_,hSt,aII (E:=E) n4 lines0 (net:=s.net) hol,fun x hx=>?_⟩
  have xo:=aSi (E:=E) n4 lines0 hs.net (os:=os) x hx
  refine⟨xo,Classical.epsilon_spec (p:=a2o w n s x) ?_⟩
  obtain⟨_,h,s',D,e,rfl,h1,-,-,-,d,rfl,h2⟩:=a4Z W hs ts n1 hnl hR hF hE2 xo
  exact⟨⟨s',d,e⟩,h,h1,h2⟩
def pk(p:Int)(n:Nat):Nat:=(p % (n:Int)).toNat
noncomputable def pG(w:Wo)(n:Nat):List Int→Tra→Tra
 |[],t=>t
 |p::ps,t=>match(stR w n t.last)[pk p (stR w n t.last).length]? with
  |none=>t
  |some x=>if(doR w n t.last x).e=0 then pG w n ps (t.next x (doR w n t.last x).s (doR w n t.last x).d 0)else t.next x (doR w n t.last x).s (doR w n t.last x).d (doR w n t.last x).e
theorem aDB{p:Int}{n:Nat}(h:0<n):pk p n<n:=by
 have h1:=Int.emod_nonneg p (show(n:Int)≠0 by omega)
 have h2:=Int.emod_lt_of_pos p (show 0<(n:Int)by omega)
 unfold pk
 omega
theorem aRX(p:Int){n:Nat}(h:0<n):(Int.tmod p n<0→Int.tmod p n+n=pk p n)∧(¬ Int.tmod p n<0→Int.tmod p n=pk p n)∧-100*n≤Int.tmod p n*100∧Int.tmod p n<n:=by
 have h1:=Int.emod_nonneg p (show(n:Int)≠0 by omega)
 have h2:=Int.emod_lt_of_pos p (show 0<(n:Int)by omega)
 have h3:=Int.tmod_eq_emod (a:=p) (b:=(n:Int))
 unfold pk
 split at h3<;>omega
section
variable{w:Wo}{n:Nat}
theorem W1(wo:w.Ok){s0:Sy}(hN:EvQ Cx 17 [.agg (cW w)] (.tup [.agg (cSy s0),I64 0])){H:aG}:bW Cx 40 [.agg (cW w)] H fun y K=>∃ b,y=.ptr b 0∧Rc w b ⟨[],s0,[],0⟩ K∧Ks H K:=by
 have o2:=@fJ s0
 have l2:=@fQ s0
 have h1:=iP w
 have hlen:=iO wo
 have z1:∀ H,bQ (freeze H 19) (cW w)=some (cW w):=fun H=>eK H 18 _ (gY w)
 have z2:=dJ _ (gY w)
 have z3:∀ H,bQ (freeze H 19) (cSy s0)=some (cSy s0):=fun H=>eK H 18 _ (gO s0)
 have z4:=dJ _ (gO s0)
 have tw:List.take 585 (cW w)=cW w:=List.take_of_length_le (by omega)
 have tS:List.take 69 (cSy s0)=cSy s0:=List.take_of_length_le (by omega)
 have hr:∀ K,K[H.length+1]?=some (some ⟨134,O6 (.v (.slice none 0 0)) (cSy s0) (.v (.slice none 0 0)) 0 (cW w),true⟩)→Rc w (H.length+1) ⟨[],s0,[],0⟩ K:=fun K h=>⟨_,_,h,.inl ⟨rfl,rfl⟩,.inl ⟨rfl,rfl⟩⟩
 unfold O6 at hr
 generalize cSy s0=SS at *
 generalize cW w=WW at *
 rw[aP aOP aN7];refine⟨by simp[aEU],?_⟩
 simp(disch:=omega)only[go_sem,simprocAttr,o2,l2,h1,hlen,z1,z2,tw,tS,List.flatten_cons,List.flatten_nil,QK.use hN,aE]
 exact⟨_,rfl,hr _ (aZ H _ 1),(Ks.refl H).app _⟩
theorem W3{t:Tra}{p:Int}{ps:List Int}(h:stR w n t.last=[]):pG w n (p::ps) t=t:=by rw[pG,h];rfl
theorem aFm{t:Tra}{p:Int}{ps:List Int}{x:Sp}(h:(stR w n t.last)[pk p (stR w n t.last).length]?=some x)(he:(doR w n t.last x).e=0):pG w n (p::ps) t=pG w n ps (t.next x (doR w n t.last x).s (doR w n t.last x).d 0):=by rw[pG,h];simp only[if_pos he]
theorem PF{t:Tra}{p:Int}{ps:List Int}{x:Sp}(h:(stR w n t.last)[pk p (stR w n t.last).length]?=some x)(he:(doR w n t.last x).e≠0):pG w n (p::ps) t=t.next x (doR w n t.last x).s (doR w n t.last x).d (doR w n t.last x).e:=by rw[pG,h];simp only[if_neg he]
theorem XZ(W:w.Run n)(hR:EvQ Cx 9 [.agg (cW w)] (Bo true)){b:Nat}{P:List Int}(hP:P.length≤100)(hr:∀ p∈P,-9223372036854775808≤p∧p<9223372036854775808){T:Tra}{cz:List A}{KK:List It}{Q:Ex→Ev.St→Prop}
  (hE:∀(e:Env) (K:aG),Rc w b T K→K[1]?=some (some ⟨77,cz,true⟩)→cI e 4=some (.ptr 1 0)→cI e 5=some (.ptr b 0)→dN Cx (.out 0) KK ⟨e,K⟩ Q) :
  ∀(ps:List Int) (i:Nat) (t:Tra) (H:aG),i+ps.length=P.length→P.drop i=ps→pG w n ps t=T→Rc w b t H→H[0]?=some (some ⟨44,cW w,true⟩)→H[1]?=some (some ⟨77,cz,true⟩)→t.last.Typ n→t.last.net.length≤64→t.err=0→t.steps.length≤i→t.perfs.length≤500*i→bG Cx (.code (.loop OL)::KK) ⟨[(2,.ptr 0 0),(4,.ptr 1 0),(5,.ptr b 0),(26,.sl P.length (P.map fun p=>I64 p)),(27,I64 P.length),(28,I64 i)],H⟩ Q:=by
 intro ps
 induction ps with
 |nil =>
  intro i t H hi hd hT R h0 h1 ts hnl he hs hp
  obtain rfl:i=P.length:=by simpa using hi
  obtain rfl:t=T:=hT
  rw[aA]
  simp(disch:=omega)only[go_sem,simprocAttr,Int.lt_irrefl]
  exact hE _ H R h1 rfl rfl
 |cons p ps ih =>
  intro i t H hi hd hT R h0 h1 ts hnl he hs hp
  have hst:=aBI W hR ts hnl
  have hPi:P[i]?=some p:=by
   have:=List.getElem?_drop (xs:=P) (i:=i) (j:=0)
   rw[hd]at this
   simpa using this.symm
  have hil:i<P.length:=(List.getElem?_eq_some_iff.1 hPi).1
  obtain⟨p1,p2⟩:=hr p (List.mem_of_getElem? hPi)
  have hdp:List.drop i (P.map fun p=>I64 p)=I64 p::List.drop (i+1) (P.map fun p=>I64 p):=eJ (by rw[List.getElem?_map,hPi];rfl)
  obtain⟨vs,vp,Hb,hs',hp'⟩:=R.at_
  have o2:=@fJ t.last
  have l2:=@fQ t.last
  have w1:=iP w
  have hlen:=iO W.ok
  have z1:∀ H,bQ (freeze H 19) (cW w)=some (cW w):=fun H=>eK H 18 _ (gY w)
  have z2:=dJ _ (gY w)
  have z3:∀ H,bQ (freeze H 19) (cSy t.last)=some (cSy t.last):=fun H=>eK H 18 _ (gO t.last)
  have z4:=dJ _ (gO t.last)
  have tw:List.take 585 (cW w)=cW w:=List.take_of_length_le (by omega)
  have e1:∀ X:List A,List.take 69 (cSy t.last++X)=cSy t.last:=fun X=>List.take_left' l2
  have hSt:=hst.ev
  have hsl:=hst.len
  unfold O6 at Hb
  rw[aA]
  cases hl:stR w n t.last with
  |nil =>
   rw[hl]at hSt
   rw[W3 hl]at hT
   subst hT
   generalize cSy t.last=SS at *
   generalize cW w=WW at *
   simp(disch:=omega)only[go_sem,simprocAttr,Hb,h0,l2,hlen,z1,z2,z3,z4,tw,e1,hdp,Nat.mul_one,QK.use hSt]
   exact hE _ H R h1 rfl rfl
  |cons x0 l0 =>
   have l1:0<(stR w n t.last).length:=by rw[hl];simp
   have kl:=aDB (p:=p) l1
   obtain⟨r1,r2,r3,r4⟩:=aRX p l1
   obtain⟨x,hx⟩:∃ x,(stR w n t.last)[pk p (stR w n t.last).length]?=some x:=⟨_,List.getElem?_eq_getElem kl⟩
   obtain⟨xo,dok⟩:=hst.each x (List.mem_of_getElem? hx)
   have hgo:=aFm (w:=w) (n:=n) (t:=t) (ps:=ps) hx
   have hno:=PF (w:=w) (n:=n) (t:=t) (ps:=ps) hx
   rw[hT]at hgo hno
   obtain⟨rr,hrr⟩:=c8 (c:=cS) (n:=14) (fun _=>rfl) hx
   have hstep:=aGb W.ok R (by omega) (by omega) (by have:=dok.len;omega) dok.ev
   have hty:=dok.typ
   have hdl:=dok.len
   generalize doR w n t.last x=D at *
   generalize stR w n t.last=l at *
   clear hl hx hst
   generalize pk p l.length=k at *
   have ln:¬ (l.length:Int)=0:=by omega
   generalize cSy t.last=SS at *
   have nx:∀ K,D.e=0→Rc w b (t.next x D.s D.d 0) K→Ks H K→bG Cx (.code (.loop OL)::KK) ⟨[(2,.ptr 0 0),(4,.ptr 1 0),(5,.ptr b 0),(26,.sl P.length (P.map fun p=>I64 p)),(27,I64 P.length),(28,I64 ((i:Int)+1))],K⟩ Q:=fun K he0 R' kk=>by
    have tn:t.next x D.s D.d 0=⟨t.steps++[x],D.s,t.perfs++D.d,t.err⟩:=if_pos rfl
    have:=ih (i+1) (t.next x D.s D.d 0) K (by simp at hi;omega) (by rw[← List.drop_drop,hd];rfl) (hgo he0).symm R' (kk _ _ _ _ h0 rfl) (kk _ _ _ _ h1 rfl) (by rw[tn];exact(hty he0).1) (by rw[tn];exact(hty he0).2) (by rw[tn];exact he) (by rw[tn];simp;omega) (by rw[tn];simp;omega)
    simpa only[Int.natCast_add,Int.natCast_one]using this
   generalize cW w=WW at *
   simp(disch:=omega)only[go_sem,simprocAttr,Hb,h0,l2,z1,z2,z3,z4,tw,e1,hdp,Nat.mul_one,QK.use hSt,ln,hlen]
   generalize Int.tmod p l.length=r at *
   by_cases q1:r<0
   ·have rk:=r1 q1
    simp(disch:=omega)only[go_sem,simprocAttr,hrr,rk]
    refine aM hstep ?_;rintro y K ⟨rfl,R',kk⟩;by_cases he0:D.e=0
    ·(rw[he0]at R';simp(disch:=omega)only[go_sem,simprocAttr,he0];rw[aB (l:=[2,4,5,26,27,28]) rfl];simp(disch:=omega)only[go_sem,simprocAttr];exact nx K he0 R' kk)
    ·(rw[← hno he0]at R';simp(disch:=omega)only[go_sem,simprocAttr,QN he0];exact hE _ K R' (kk _ _ _ _ h1 rfl) rfl rfl)
   ·obtain rfl:=r2 q1
    simp(disch:=omega)only[go_sem,simprocAttr,hrr]
    refine aM hstep ?_;rintro y K ⟨rfl,R',kk⟩;by_cases he0:D.e=0
    ·(rw[he0]at R';simp(disch:=omega)only[go_sem,simprocAttr,he0];rw[aB (l:=[2,4,5,26,27,28]) rfl];simp(disch:=omega)only[go_sem,simprocAttr];exact nx K he0 R' kk)
    ·(rw[← hno he0]at R';simp(disch:=omega)only[go_sem,simprocAttr,QN he0];exact hE _ K R' (kk _ _ _ _ h1 rfl) rfl rfl)
end
theorem aAZ{f:A→Option A}{a b a' b':List A}(ha:bQ f a=some a')(hb:bQ f b=some b'):bQ f (a++b)=some (a'++b'):=by
 induction a generalizing a' with
 |nil =>
  cases ha
  exact hb
 |cons x a ih =>
  rw[cV]at ha
  split at ha
  ·rename_i y ys h1 h2
   cases ha
   rw[List.cons_append,cV,h1,ih h2]
   rfl
  ·cases ha
theorem aOx{H:aG}{el:TypeId}{sz n:Nat}{α:Type}{c:α→List A}{v:A}{l:List α}(h:GrV el sz c H v l)(hl:(cells c l).length=l.length*sz)(hf:bQ (freeze H (n+1)) (cells c l)=some (cells c l))(hn:fA (cells c l)=cells c l):∃ D,freeze H (n+2) v=some D∧nrm D=.sl l.length (cells c l):=by
 rcases h with⟨rfl,rfl⟩|⟨j,h0,rfl,h2⟩
 ·exact⟨_,qY,rfl⟩
 ·refine⟨.sl l.length (cells c l),?_,by simp only[nrm,hn]⟩
  rw[zJ,h2]
  simp only[List.drop_zero,Nat.zero_add,hl,Nat.le_refl,if_true]
  rw[← hl,List.take_length,hf]
  rfl
theorem aEP{H:aG}{el:TypeId}{sz:Nat}{α:Type}{c:α→List A}{v:A}{l:List α}(h:GrV el sz c H v l):one v=true:=by
 rcases h with⟨-,rfl⟩|⟨j,h0,rfl,h2⟩<;>rfl
theorem a1I{H:aG}{vs vp:A}{s:Sy}{e:Int}{ls:List Sp}{lp:List Pf}(h1:GrV 62 14 cS H vs ls)(h2:GrV 211 7 cP H vp lp):∃ D,bQ (freeze H 19) (vs::(cSy s++[vp,I64 e]))=some D∧fA D=cTr ⟨ls,s,lp,e⟩:=by
 obtain⟨d1,f1,n1⟩:=aOx (n:=17) h1 (rS ls) (aBv H 17 ls) (O2 ls)
 obtain⟨d2,f2,n2⟩:=aOx (n:=17) h2 (iE lp) (eK H 17 _ (TN lp)) (P9 lp)
 have f3:bQ (freeze H 19) (cSy s)=some (cSy s):=eK H 18 _ (gO s)
 have f4:bQ (freeze H 19) [vp,I64 e]=some [d2,I64 e]:=by
  rw[cV,f2,cV,qY]
  rfl
 refine⟨d1::(cSy s++[d2,I64 e]),?_,?_⟩
 ·rw[cV,f1,aAZ f3 f4]
 ·have h:∀ a b:List A,fA (a++b)=fA a++fA b:=fun a b=>by
   induction a with
   |nil=>rfl
   |cons x a ih=>rw[List.cons_append,fA,fA,ih];rfl
  rw[fA,n1,h,U2]
  unfold cTr
  rw[fA,n2]
  rfl
instance:Nonempty Sy:=⟨zSy⟩
noncomputable def pR(w:Wo)(n:Nat):Sy:=Classical.epsilon fun s=>EvQ Cx 17 [.agg (cW w)] (.tup [.agg (cSy s),I64 0])∧s.Typ n∧s.net=[]
theorem OK{w:Wo}{n:Nat}(W:w.Run n)(hR:EvQ Cx 9 [.agg (cW w)] (Bo true)):EvQ Cx 17 [.agg (cW w)] (.tup [.agg (cSy (pR w n)),I64 0])∧(pR w n).Typ n∧(pR w n).net=[]:=by
 refine Classical.epsilon_spec (p:=fun s=>EvQ Cx 17 [.agg (cW w)] (.tup [.agg (cSy s),I64 0])∧s.Typ n∧s.net=[]) ?_
 obtain⟨_,h,s,rfl,h2,h3⟩:=aIy W hR
 exact⟨s,h,h2,h3⟩
noncomputable def Z4(w:Wo)(n:Nat)(P:List Int):Tra:=pG w n P ⟨[],pR w n,[],0⟩
section
variable{w:Wo}{n:Nat}
theorem MV(W:w.Run n)(hR:EvQ Cx 9 [.agg (cW w)] (Bo true)){P:List Int}(hP:P.length≤100)(hr:∀ p∈P,-9223372036854775808≤p∧p<9223372036854775808):EvQ Cx 16 [.agg (cW w),.sl P.length (P.map fun p=>I64 p)] (.agg (cTr (Z4 w n P))):=by
 obtain⟨hN,hty,hne⟩:=OK W hR
 have hrec:=@W1 w W.ok (pR w n) hN
 have o2:=@fJ (pR w n)
 have l2:=@fQ (pR w n)
 have h1:=iP w
 have hlen:=iO W.ok
 have z1:∀ H,bQ (freeze H 19) (cW w)=some (cW w):=fun H=>eK H 18 _ (gY w)
 have z2:=dJ _ (gY w)
 have tw:List.take 585 (cW w)=cW w:=List.take_of_length_le (by omega)
 have hloop:=@XZ w n W hR
 refine aX aOz rfl (by simp[XR]) ?_
 generalize hWW:cW w=WW at *
 simp(disch:=omega)only[go_sem,simprocAttr,h1,hlen,tw,List.flatten_cons,List.flatten_nil]
 refine aM hrec ?_
 rintro y K ⟨b,rfl,R,kk⟩
 obtain⟨vs,vp,Hb,hs,hp⟩:=R.at_
 unfold O6 at Hb
 have e3:∀(a:A) (X:List A),List.drop 70 (cSy (pR w n)++a::X)=X:=fun a X=>by
  rw[show(70:Nat)=69+1 from rfl,← List.drop_drop,List.drop_left' l2];rfl
 have tP:List.take P.length (P.map fun p=>I64 p)=P.map fun p=>I64 p:=List.take_of_length_le (by simp)
 simp(disch:=omega)only[go_sem,simprocAttr,List.flatten_cons,List.flatten_nil,Hb,e3,tP,List.length_map,Nat.mul_one]
 rw[aB (l:=[2,4,5,26,27,28]) rfl]
 simp(disch:=omega)only[go_sem,simprocAttr]
 refine hloop hP hr (T:=Z4 w n P) (fun e K R' k1 g4 g5=>?_) P 0 ⟨[],pR w n,[],0⟩ K (Nat.zero_add _) rfl rfl R (kk 0 _ _ _ rfl rfl) (kk 1 _ _ _ rfl rfl) hty (by rw[hne];simp) rfl (Nat.le_refl _) (Nat.le_refl _)
 generalize Z4 w n P=T at *
 obtain⟨vs,vp,Hb,hs,hp⟩:=R'.at_
 unfold O6 at Hb
 have l2:=@fQ T.last
 have o2:=@fJ T.last
 have e6:∀(a c:A) (X:List A),List.take 71 (cSy T.last++a::c::X)=cSy T.last++[a,c]:=fun a c X=>by
  rw[List.take_append,List.take_of_length_le (by omega),l2];rfl
 have nb:(1:Nat)≠b:=bO k1 Hb rfl
 obtain⟨D,fD,nD⟩:=a1I (s:=T.last) (e:=T.err) (hs.set k1 rfl (some ⟨77,vs::(cSy T.last++[vp,I64 T.err]),true⟩)) (hp.set k1 rfl _)
 have g1:=fun X=>bU k1 X
 have os:=aEP hs
 have op:=aEP hp
 have oa:dE (vs::(cSy T.last++[vp,I64 T.err]))=true:=by
  rw[dE,os,Bool.true_and]
  exact fC _ _ o2 (by rw[dE,op];rfl)
 simp(disch:=omega)only[go_sem,simprocAttr,dU,g4,g5,Hb,l2,e6,k1,g1,fD,nD,oa]
end
theorem aJQ{l:List (Int×Int)}{i:Nat}{p:Int×Int}(h:l[i]?=some p):∃ r,List.drop (i*2) (dR l)=I8 p.1::I8 p.2::r:=by
 have e:∀ l:List (Int×Int),dR l=cells (fun p=>[I8 p.1,I8 p.2]) l:=by
  intro l
  induction l with
  |nil=>rfl
  |cons p l ih=>rw[cells,← ih];simp[dR]
 rw[e]
 exact c8 (n:=2) (fun _=>rfl) h
section
variable{T:Tb}{eq:TypeId→List A→List A→Option Bool}
theorem vL(he:∀ e xs r,eq e xs xs=some r→r=true):∀(fs:List (TypeId×Nat×Bool)) (xs:List A) (r:Bool),zZ T eq fs xs xs=some r→r=true
 |[],xs,r,h=>by
  simp[zZ]at h
  exact h
 |(t,off,nm)::fs,xs,r,h=>by
  unfold zZ at h
  split at h
  ·cases h
  ·split at h
   ·split at h
    ·split at h
     ·rename_i a b ha hb
      obtain rfl:=he _ _ _ ha
      obtain rfl:=vL he fs _ _ hb
      simpa using h.symm
     ·cases h
    ·cases h
   ·exact vL he fs _ _ h
theorem G3(he:∀ e xs r,eq e xs xs=some r→r=true)(e:TypeId)(sz:Nat):∀(n i:Nat) (xs:List A) (r:Bool),eqN eq e sz n i xs xs=some r→r=true
 |0,i,xs,r,h=>by
  simp[eqN]at h
  exact h
 |n+1,i,xs,r,h=>by
  rw[eqN]at h
  split at h
  ·split at h
   ·rename_i a b ha hb
    obtain rfl:=he _ _ _ ha
    obtain rfl:=G3 he e sz n _ _ _ hb
    simpa using h.symm
   ·cases h
  ·cases h
end
theorem HC{T:Tb}:∀(d:Nat) (t:TypeId) (xs ys:List A) (r:Bool),xs=ys→eqT T d t xs ys=some r→r=true
 |0,t,xs,ys,r,e,h=>by
  rw[eqT]at h
  cases h
 |d+1,t,xs,ys,r,e,h=>by
  have he:∀ e xs r,eqT T d e xs xs=some r→r=true:=fun e xs r h=>HC d e xs xs r rfl h
  unfold eqT at h
  split at h
  ·cases h
  split at h
  ·split at h
   ·simp only[List.cons.injEq,A.v.injEq,Value.bool.injEq,and_true]at e
    subst e
    simpa using h.symm
   ·cases h
  ·split at h
   ·simp only[List.cons.injEq,A.v.injEq,Value.int.injEq,and_true]at e
    obtain⟨rfl,rfl⟩:=e
    simpa using h.symm
   ·cases h
  ·split at h
   ·simp only[List.cons.injEq,A.v.injEq,Value.string.injEq,and_true]at e
    subst e
    simpa[yE]using h.symm
   ·cases h
  ·subst e
   split at h
   ·exact vL he _ _ _ h
   ·cases h
  ·subst e
   split at h
   ·exact G3 he _ _ _ _ _ _ h
   ·cases h
  ·cases h
theorem U4{T:Tb}{d:Nat}{t:TypeId}{xs:List A}(h:(eqT T d t xs xs).isSome=true):eqT T d t xs xs=some true:=by
 obtain⟨r,hr⟩:=Option.isSome_iff_exists.1 h
 rw[hr,HC d t xs xs r rfl hr]
theorem a7w(k:Ca):eqT Cx.T 20 123 (cC k) (cC k)=some true:=U4 (by kernel_rfl)
theorem CZ{l:List Sp}(hl:l.length≤100000):EvQ Cx 19 [.sl l.length (cells cS l),.sl l.length (cells cS l)] (Bo true):=by
 have loop:∀(m i:Nat),i+m=l.length→bG Cx (.code (.loop aCE)::[.blk 0,.code (.seq (.reg [] [⟨some 4,.assign (.const (.bool true)),none⟩] 0) .ret)]) ⟨[(0,.sl l.length (cells cS l)),(1,.sl l.length (cells cS l)),(5,I64 i)],[]⟩ (rE Cx.T .shut [.tmp 4] (Bo true)):=by
  intro m
  induction m with
  |zero =>
   intro i hi
   obtain rfl:i=l.length:=by omega
   rw[aA]
   simp(disch:=omega)only[go_sem,simprocAttr,Int.lt_irrefl]
  |succ m ih =>
   intro i hi
   obtain⟨x,hx⟩:∃ x,l[i]?=some x:=⟨_,List.getElem?_eq_getElem (by omega)⟩
   obtain⟨r,hr⟩:=c8 (c:=cS) (n:=14) (fun _=>rfl) hx
   have nx:=ih (i+1) (by omega)
   simp only[Int.natCast_add,Int.natCast_one]at nx
   rw[aA]
   simp(disch:=omega)only[go_sem,simprocAttr,hr]
   rw[aB (l:=[0,1,5]) rfl]
   simp(disch:=omega)only[go_sem,simprocAttr]
   exact nx
 refine aX a9g rfl (by simp[aA6]) ?_
 simp(disch:=omega)only[go_sem,simprocAttr]
 rw[aB (l:=[0,1,5]) rfl]
 simp(disch:=omega)only[go_sem,simprocAttr]
 exact loop l.length 0 (by omega)
theorem YJ{l:List Pf}(hl:l.length≤100000):EvQ Cx 49 [.sl l.length (cells cP l),.sl l.length (cells cP l)] (Bo true):=by
 have loop:∀(m i:Nat),i+m=l.length→bG Cx (.code (.loop aEn)::[.blk 0,.code (.seq (.reg [] [⟨some 4,.assign (.const (.bool true)),none⟩] 0) .ret)]) ⟨[(0,.sl l.length (cells cP l)),(1,.sl l.length (cells cP l)),(5,I64 i)],[]⟩ (rE Cx.T .shut [.tmp 4] (Bo true)):=by
  intro m
  induction m with
  |zero =>
   intro i hi
   obtain rfl:i=l.length:=by omega
   rw[aA]
   simp(disch:=omega)only[go_sem,simprocAttr,Int.lt_irrefl]
  |succ m ih =>
   intro i hi
   obtain⟨x,hx⟩:∃ x,l[i]?=some x:=⟨_,List.getElem?_eq_getElem (by omega)⟩
   obtain⟨r,hr⟩:=c8 (c:=cP) (n:=7) (fun _=>rfl) hx
   have nx:=ih (i+1) (by omega)
   simp only[Int.natCast_add,Int.natCast_one]at nx
   rw[aA]
   simp(disch:=omega)only[go_sem,simprocAttr,hr]
   rw[aB (l:=[0,1,5]) rfl]
   simp(disch:=omega)only[go_sem,simprocAttr]
   exact nx
 refine aX a5w rfl (by simp[aCd]) ?_
 simp(disch:=omega)only[go_sem,simprocAttr]
 rw[aB (l:=[0,1,5]) rfl]
 simp(disch:=omega)only[go_sem,simprocAttr]
 exact loop l.length 0 (by omega)
theorem aCZ{l:List Mg}(hl:l.length≤100000):EvQ Cx 88 [.sl l.length (cells cM l),.sl l.length (cells cM l)] (Bo true):=by
 have loop:∀(m i:Nat),i+m=l.length→bG Cx (.code (.loop aAh)::[.blk 0,.code (.seq (.reg [] [⟨some 4,.assign (.const (.bool true)),none⟩] 0) .ret)]) ⟨[(0,.sl l.length (cells cM l)),(1,.sl l.length (cells cM l)),(5,I64 i)],[]⟩ (rE Cx.T .shut [.tmp 4] (Bo true)):=by
  intro m
  induction m with
  |zero =>
   intro i hi
   obtain rfl:i=l.length:=by omega
   rw[aA]
   simp(disch:=omega)only[go_sem,simprocAttr,Int.lt_irrefl]
  |succ m ih =>
   intro i hi
   obtain⟨x,hx⟩:∃ x,l[i]?=some x:=⟨_,List.getElem?_eq_getElem (by omega)⟩
   obtain⟨r,hr⟩:=c8 (c:=cM) (n:=11) (fun _=>rfl) hx
   have nx:=ih (i+1) (by omega)
   simp only[Int.natCast_add,Int.natCast_one]at nx
   rw[aA]
   simp(disch:=omega)only[go_sem,simprocAttr,hr]
   rw[aB (l:=[0,1,5]) rfl]
   simp(disch:=omega)only[go_sem,simprocAttr]
   exact nx
 refine aX bBB rfl (by simp[ZW]) ?_
 simp(disch:=omega)only[go_sem,simprocAttr]
 rw[aB (l:=[0,1,5]) rfl]
 simp(disch:=omega)only[go_sem,simprocAttr]
 exact loop l.length 0 (by omega)
theorem NK{l:List (Int×Int)}(hl:l.length≤100000):EvQ Cx 206 [gI l,gI l] (Bo true):=by
 have loop:∀(m i:Nat),i+m=l.length→bG Cx (.code (.loop Q8)::[.blk 0,.code (.seq (.reg [] [⟨some 4,.assign (.const (.bool true)),none⟩] 0) .ret)]) ⟨[(0,gI l),(1,gI l),(5,I64 i)],[]⟩ (rE Cx.T .shut [.tmp 4] (Bo true)):=by
  intro m
  induction m with
  |zero =>
   intro i hi
   obtain rfl:i=l.length:=by omega
   rw[aA]
   simp(disch:=omega)only[go_sem,simprocAttr,Int.lt_irrefl]
  |succ m ih =>
   intro i hi
   obtain⟨x,hx⟩:∃ x,l[i]?=some x:=⟨_,List.getElem?_eq_getElem (by omega)⟩
   obtain⟨r,hr⟩:=aJQ hx
   have nx:=ih (i+1) (by omega)
   simp only[Int.natCast_add,Int.natCast_one]at nx
   rw[aA]
   simp(disch:=omega)only[go_sem,simprocAttr,hr]
   rw[aB (l:=[0,1,5]) rfl]
   simp(disch:=omega)only[go_sem,simprocAttr]
   exact nx
 refine aX aQT rfl (by simp[JY]) ?_
 simp(disch:=omega)only[go_sem,simprocAttr]
 rw[aB (l:=[0,1,5]) rfl]
 simp(disch:=omega)only[go_sem,simprocAttr]
 exact loop l.length 0 (by omega)
theorem aA7{c:Pl.Core}(hb:c.buf.length≤100000):EvQ Cx 151 [.agg (cK c),.agg (cK c)] (Bo true):=by
 have h:=NK hb
 refine aX aQg rfl (by simp[ME]) ?_
 simp(disch:=omega)only[go_sem,simprocAttr,QK.use h]
theorem XU{l:List Pl.Core}(hl:l.length≤100000)(hb:∀ c∈l,c.buf.length≤100000):EvQ Cx 86 [.sl l.length (cells cK l),.sl l.length (cells cK l)] (Bo true):=by
 have loop:∀(m i:Nat),i+m=l.length→bG Cx (.code (.loop aC9)::[.blk 0,.code (.seq (.reg [] [⟨some 4,.assign (.const (.bool true)),none⟩] 0) .ret)]) ⟨[(0,.sl l.length (cells cK l)),(1,.sl l.length (cells cK l)),(5,I64 i)],[]⟩ (rE Cx.T .shut [.tmp 4] (Bo true)):=by
  intro m
  induction m with
  |zero =>
   intro i hi
   obtain rfl:i=l.length:=by omega
   rw[aA]
   simp(disch:=omega)only[go_sem,simprocAttr,Int.lt_irrefl]
  |succ m ih =>
   intro i hi
   obtain⟨x,hx⟩:∃ x,l[i]?=some x:=⟨_,List.getElem?_eq_getElem (by omega)⟩
   obtain⟨r,hr⟩:=c8 (c:=cK) (n:=12) (fun _=>rfl) hx
   have nx:=ih (i+1) (by omega)
   simp only[Int.natCast_add,Int.natCast_one]at nx
   have hc:=aA7 (hb x (List.mem_of_getElem? hx))
   rw[aA]
   simp(disch:=omega)only[go_sem,simprocAttr,hr,QK.use hc]
   rw[aB (l:=[0,1,5]) rfl]
   simp(disch:=omega)only[go_sem,simprocAttr]
   exact nx
 refine aX a89 rfl (by simp[aEV]) ?_
 simp(disch:=omega)only[go_sem,simprocAttr]
 rw[aB (l:=[0,1,5]) rfl]
 simp(disch:=omega)only[go_sem,simprocAttr]
 exact loop l.length 0 (by omega)
theorem NS{l:List Ca}(hl:l.length≤100000):EvQ Cx 87 [.sl l.length (cells cC l),.sl l.length (cells cC l)] (Bo true):=by
 have loop:∀(m i:Nat),i+m=l.length→bG Cx (.code (.loop aEN)::[.blk 0,.code (.seq (.reg [] [⟨some 4,.assign (.const (.bool true)),none⟩] 0) .ret)]) ⟨[(0,.sl l.length (cells cC l)),(1,.sl l.length (cells cC l)),(5,I64 i)],[]⟩ (rE Cx.T .shut [.tmp 4] (Bo true)):=by
  intro m
  induction m with
  |zero =>
   intro i hi
   obtain rfl:i=l.length:=by omega
   rw[aA]
   simp(disch:=omega)only[go_sem,simprocAttr,Int.lt_irrefl]
  |succ m ih =>
   intro i hi
   obtain⟨x,hx⟩:∃ x,l[i]?=some x:=⟨_,List.getElem?_eq_getElem (by omega)⟩
   obtain⟨r,hr⟩:=c8 aY hx
   have nx:=ih (i+1) (by omega)
   simp only[Int.natCast_add,Int.natCast_one]at nx
   have ht:List.take 160 (cC x++r)=cC x:=List.take_left' (aY x)
   rw[aA]
   simp(disch:=omega)only[go_sem,simprocAttr,hr,↓ a7w x,ht]
   rw[aB (l:=[0,1,5]) rfl]
   simp(disch:=omega)only[go_sem,simprocAttr]
   exact nx
 refine aX bA7 rfl (by simp[aEl]) ?_
 simp(disch:=omega)only[go_sem,simprocAttr]
 rw[aB (l:=[0,1,5]) rfl]
 simp(disch:=omega)only[go_sem,simprocAttr]
 exact loop l.length 0 (by omega)
end Go.Proofs.YtpdphobnchajbaaGreatDoor.Ev
