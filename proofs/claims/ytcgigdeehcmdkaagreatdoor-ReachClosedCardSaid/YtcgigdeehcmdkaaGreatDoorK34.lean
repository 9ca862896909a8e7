/- spec.Right: whatever the table. -/
import Derived.Test.YtcgigdeehcmdkaaGreatDoorK33
set_option linter.all false
namespace Go.Proofs.YtcgigdeehcmdkaaGreatDoor.Ev
open Go Go.RowKit
set_option maxRecDepth 100000
set_option maxHeartbeats 16000000
theorem KE{s:ByteArray}(hs:s.size<=16){KK:List It}{Q:Ex->Ev.St->Prop}(hE:∀e:Env,bP Cx (.out 0) KK ⟨e,[]⟩ Q) (hX:∀e:Env,bZ e 2=some (Bo false)->bP Cx .back KK ⟨e,[]⟩ Q):∀(n i:Nat),i+n=s.size->aS Cx (.code (.loop C2)::KK) ⟨[(0,Sv s),(14,I64 s.size),(15,I64 i)],[]⟩ Q:=by intro n;induction n with|zero=>intro i hi;rw[aA];simp(disch:=omega)only[go_sem,simprocAttr];exact hE _|succ n ih=>intro i hi;obtain⟨c,hc⟩:=aCj (s:=s) (i:=i) (by omega);have hr:=xN c;(have next:aS Cx (.code (.loop C2)::KK) ⟨[(0,Sv s),(14,I64 s.size),(15,I64 ((i:Int)+1))],[]⟩ Q:=by have:=ih (i+1) (by omega);simpa only[Int.natCast_add,Int.natCast_one]using this);rw[aA];simp(disch:=omega)only[go_sem,simprocAttr,hc];(repeat' (((first|refine aX (fun hb=>?_) (fun hb=>?_)|refine cA (fun hb=>?_) (fun hb=>?_))<;>(first|omega|(have hc:=hb;simp only[decide_eq_true_eq,decide_eq_false_iff_not,beq_iff_eq,beq_eq_false_iff_ne,Bool.not_eq_eq_eq_not,Bool.not_true,Bool.not_false,ne_eq,Int.not_lt,gt_iff_lt]at hc)|skip))<;>(first|omega|simp(disch:=omega)only[go_sem,simprocAttr,true_and])));all_goals first|exact hX _ rfl|(rw[aB (l:=[0,14,15]) rfl];simp(disch:=omega)only[go_sem,simprocAttr];omega)|omega
theorem X5(s:ByteArray):∃b,EvQ Cx 147 [Sv s] (Bo b):=by(have:∃y,EvQ Cx 147 [Sv s] y/\gO y:=by refine bM aLI rfl (leB rfl) ?_;by_cases h1:s.size<1;{simp(disch:=omega)only[go_sem,simprocAttr];exact⟨_,rfl⟩};by_cases h16:16<s.size;{simp(disch:=omega)only[go_sem,simprocAttr];exact⟨_,rfl⟩};simp(disch:=omega)only[go_sem,simprocAttr];rw[aB (l:=[0,14,15]) rfl];simp(disch:=simp)only[go_sem,simprocAttr];refine KE (by omega) ?_ ?_ s.size 0 (by simp);{intro e;simp(disch:=simp)only[go_sem,simprocAttr];exact⟨_,rfl⟩};{intro e e2;simp(disch:=simp)only[go_sem,simprocAttr,e2];exact⟨_,rfl⟩});obtain⟨_,h,b,rfl⟩:=this;exact⟨b,h⟩
structure Ce where
 rule:Int
 to:Int
 acts:Nat
abbrev U16(n:Int):A:=.v (.int .u16 n)
abbrev cE(c:Ce):List A:=[I8 c.rule,I8 c.to,U16 c.acts]
structure Ce.Ok(c:Ce):Prop where
 rule:0≤c.rule∧c.rule<256
 to:0≤c.to∧c.to<256
 acts:c.acts<65536
theorem QJ(h:ByteArray)(a b d:Int)(c:Ce):∃y,EvQ Cx 149 [.agg [Sv h,I64 a,I64 b,I64 d],.agg (cE c)] (Bo y):=by(have:∃y,EvQ Cx 149 [.agg [Sv h,I64 a,I64 b,I64 d],.agg (cE c)] y/\gO y:=by refine bM aNX rfl (leB rfl) ?_;simp(disch:=simp)only[go_sem,simprocAttr];(repeat' (((first|refine aX (fun hb=>?_) (fun hb=>?_)|refine cA (fun hb=>?_) (fun hb=>?_))<;>(first|simp|simp|skip))<;>(first|simp(disch:=simp)only[go_sem,simprocAttr,hb]|simp)));all_goals first|exact⟨_,rfl⟩|simp);obtain⟨_,h,b,rfl⟩:=this;exact⟨b,h⟩
structure Tl where
 name:ByteArray
 C:List Ce
 H:List Ce
structure Tl.Ok(t:Tl):Prop where
 c:t.C.length=168
 h:t.H.length=20
 cs:∀ x∈t.C,x.Ok
 hs:∀ x∈t.H,x.Ok
def cT9(t:Tl):List A:=Sv t.name::(cells cE t.C++cells cE t.H)
theorem dA{α:Type}(c:α->List A)(n:Nat)(h:∀x,(c x).length=n):∀l,(cells c l).length=l.length*n|[]=>by simp[cells]|x::l=>by rw[cells,List.length_append,h,dA c n h l,List.length_cons,Nat.add_mul];omega
theorem iV{α:Type}(c:α->List A)(n:Nat)(h:∀x,(c x).length=n):∀{l:List α}{i:Nat}{x:α}(r:List A),l[i]?=some x->∃r',(cells c l++r).drop (i*n)=c x++r'|[],i,x,r,e=>by simp_all|y::l,0,x,r,e=>by simp at e;subst e;rw[cells];simp|y::l,i+1,x,r,e=>by obtain⟨r',hr⟩:=iV c n h r (by simpa using e);refine⟨r',?_⟩;rw[cells,List.append_assoc,show(i+1)*n=n+i*n by rw[Nat.add_mul];omega,<-List.drop_drop,List.drop_left' (h y),hr]
section
variable{t:Tl}
theorem dR(ht:t.Ok):(cT9 t).length=565:=by unfold cT9;rw[List.length_cons,List.length_append,dA cE 3 (fun _=>rfl),dA cE 3 (fun _=>rfl),ht.c,ht.h]
theorem aKv(ht:t.Ok){i j:Nat}(hi:i<12)(hj:j<14):∃(z:Ce) (r:List A),List.drop (1+i*42+j*3) (cT9 t)=cE z++r:=by have hl:=ht.c;obtain⟨z,hz⟩:∃z,t.C[i*14+j]?=some z:=⟨_,List.getElem?_eq_getElem (by omega)⟩;obtain⟨r,hr⟩:=iV cE 3 (fun _=>rfl) (cells cE t.H) hz;refine⟨z,r,?_⟩;rw[<-hr,cT9,show 1+i*42+j*3=(i*14+j)*3+1 by omega,List.drop_succ_cons]
theorem aK2(ht:t.Ok){i j:Nat}(hi:i<4)(hj:j<5):∃(z:Ce) (r:List A),List.drop (505+i*15+j*3) (cT9 t)=cE z++r:=by have hl:=ht.h;have hc:=ht.c;obtain⟨z,hz⟩:∃z,t.H[i*5+j]?=some z:=⟨_,List.getElem?_eq_getElem (by omega)⟩;obtain⟨r,hr⟩:=iV cE 3 (fun _=>rfl) [] hz;refine⟨z,r,?_⟩;rw[<-hr,cT9,show 505+i*15+j*3=504+(i*5+j)*3+1 by omega,List.drop_succ_cons,<-List.drop_drop,List.drop_left' (by rw[dA cE 3 (fun _=>rfl),hc]),List.append_nil]
theorem zN:EvQ Cx 233 [] (.agg [Sv ⟨#[99,97,99,104,101]⟩,I64 1,I64 2,I64 3]):=aW 60 (by kernel_rfl)
theorem HF:EvQ Cx 234 [] (.agg [Sv ⟨#[104,111,109,101]⟩,I64 4,I64 5,I64 6]):=aW 60 (by kernel_rfl)
theorem aHx(ht:t.Ok){x:Nat}(hx:x<12){KK:List It}{Q:Ex->Ev.St->Prop}(hX:∀(e:Env) (T:aE),bP Cx .back KK ⟨e,some ⟨42,cT9 t,true⟩::some ⟨4,[Bo false],true⟩::some ⟨0,[.lrec 18 [9] [1,2] jQ jL,I64 2,I64 1,.ptr 0 0,.ptr 1 0],true⟩::T⟩ Q) (hE:∀(T:aE),bP Cx (.out 2) KK ⟨[(10,Bo false),(0,.yl 2),(2,I64 x),(6,I64 x),(9,I64 14)],some ⟨42,cT9 t,true⟩::some ⟨4,[Bo false],true⟩::some ⟨0,[.lrec 18 [9] [1,2] jQ jL,I64 0,I64 0,.ptr 0 0,.ptr 1 0],true⟩::T⟩ Q):∀(m y:Nat) (T:aE),y+m=14->aS Cx (.code (.loop QC)::KK) ⟨[(0,.yl 2),(2,I64 x),(6,I64 x),(9,I64 y)],some ⟨42,cT9 t,true⟩::some ⟨4,[Bo false],true⟩::some ⟨0,[.lrec 18 [9] [1,2] jQ jL,I64 0,I64 0,.ptr 0 0,.ptr 1 0],true⟩::T⟩ Q:=by intro m;induction m with|zero=>intro y T hy;(obtain rfl:y=14:=by omega);rw[aA];simp(disch:=simp)only[go_sem,simprocAttr];simp_all|succ m ih=>intro y T hy;obtain⟨z,r,hz⟩:=aKv ht (i:=x) (j:=y) hx (by omega);obtain⟨b,hb⟩:=QJ ⟨#[99,97,99,104,101]⟩ 1 2 3 z;have hlen:=dR ht;rw[aA];cases b with|false=>simp(disch:=omega)only[go_sem,simprocAttr,cF,dZ,bC,cZ,bO,lA,bE,eE.blk,dO,aZ,QK.use zN,aK B6 rfl,hz,QK.use hb];exact hX _ _|true=>simp(disch:=omega)only[go_sem,simprocAttr,cF,dZ,bC,cZ,bO,cV,bE,eE.blk,dO,aZ,QK.use zN,aK B6 rfl,hz,QK.use hb];rw[aB (l:=[0,2,6,9]) rfl];simp(disch:=simp)only[go_sem,simprocAttr];have:=fun T=>ih (y+1) T (by omega);simp only[Int.natCast_add,Int.natCast_one]at this;exact this _
theorem aD3(ht:t.Ok){KK:List It}{Q:Ex->Ev.St->Prop}(hX:∀(e:Env) (T:aE),bP Cx .back KK ⟨e,some ⟨42,cT9 t,true⟩::some ⟨4,[Bo false],true⟩::some ⟨0,[.lrec 18 [9] [1,2] jQ jL,I64 2,I64 1,.ptr 0 0,.ptr 1 0],true⟩::T⟩ Q) (hE:∀(T:aE),bP Cx (.out 0) KK ⟨[(7,Bo false),(0,.yl 2),(6,I64 12)],some ⟨42,cT9 t,true⟩::some ⟨4,[Bo false],true⟩::some ⟨0,[.lrec 18 [9] [1,2] jQ jL,I64 0,I64 0,.ptr 0 0,.ptr 1 0],true⟩::T⟩ Q):∀(m x:Nat) (T:aE),x+m=12->aS Cx (.code (.loop PM)::KK) ⟨[(0,.yl 2),(6,I64 x)],some ⟨42,cT9 t,true⟩::some ⟨4,[Bo false],true⟩::some ⟨0,[.lrec 18 [9] [1,2] jQ jL,I64 0,I64 0,.ptr 0 0,.ptr 1 0],true⟩::T⟩ Q:=by intro m;induction m with|zero=>intro x T hx;(obtain rfl:x=12:=by omega);rw[aA];simp(disch:=simp)only[go_sem,simprocAttr];simp_all|succ m ih=>intro x T hx;rw[aA];simp(disch:=omega)only[go_sem,simprocAttr];rw[aB rfl];refine aHx ht (by omega) ?_ ?_ 14 0 T rfl;{simp(disch:=simp) [go_sem];simp_all};{intro T;simp(disch:=simp) [go_sem];rw[aB rfl];simp(disch:=omega) [go_sem];have:=fun T=>ih (x+1) T (by omega);simp_all}
theorem aEx(ht:t.Ok){x:Nat}(hx:x<4){KK:List It}{Q:Ex->Ev.St->Prop}(hX:∀(e:Env) (T:aE),bP Cx .back KK ⟨e,some ⟨42,cT9 t,true⟩::some ⟨4,[Bo false],true⟩::some ⟨0,[.lrec 18 [9] [1,2] jQ jL,I64 2,I64 1,.ptr 0 0,.ptr 1 0],true⟩::T⟩ Q) (hE:∀(T:aE),bP Cx (.out 6) KK ⟨[(25,Bo false),(0,.yl 2),(4,I64 x),(21,I64 x),(24,I64 5)],some ⟨42,cT9 t,true⟩::some ⟨4,[Bo false],true⟩::some ⟨0,[.lrec 18 [9] [1,2] jQ jL,I64 0,I64 0,.ptr 0 0,.ptr 1 0],true⟩::T⟩ Q):∀(m y:Nat) (T:aE),y+m=5->aS Cx (.code (.loop NI)::KK) ⟨[(0,.yl 2),(4,I64 x),(21,I64 x),(24,I64 y)],some ⟨42,cT9 t,true⟩::some ⟨4,[Bo false],true⟩::some ⟨0,[.lrec 18 [9] [1,2] jQ jL,I64 0,I64 0,.ptr 0 0,.ptr 1 0],true⟩::T⟩ Q:=by intro m;induction m with|zero=>intro y T hy;(obtain rfl:y=5:=by omega);rw[aA];simp(disch:=simp)only[go_sem,simprocAttr];simp_all|succ m ih=>intro y T hy;obtain⟨z,r,hz⟩:=aK2 ht (i:=x) (j:=y) hx (by omega);obtain⟨b,hb⟩:=QJ ⟨#[104,111,109,101]⟩ 4 5 6 z;have hlen:=dR ht;rw[aA];cases b with|false=>simp(disch:=omega)only[go_sem,simprocAttr,cF,dZ,bC,cZ,bO,lA,bE,eE.blk,dO,aZ,QK.use HF,aK B6 rfl,hz,QK.use hb];exact hX _ _|true=>simp(disch:=omega)only[go_sem,simprocAttr,cF,dZ,bC,cZ,bO,cV,bE,eE.blk,dO,aZ,QK.use HF,aK B6 rfl,hz,QK.use hb];rw[aB (l:=[0,4,21,24]) rfl];simp(disch:=simp)only[go_sem,simprocAttr];have:=fun T=>ih (y+1) T (by omega);simp only[Int.natCast_add,Int.natCast_one]at this;exact this _
theorem aIm(ht:t.Ok){KK:List It}{Q:Ex->Ev.St->Prop}(hX:∀(e:Env) (T:aE),bP Cx .back KK ⟨e,some ⟨42,cT9 t,true⟩::some ⟨4,[Bo false],true⟩::some ⟨0,[.lrec 18 [9] [1,2] jQ jL,I64 2,I64 1,.ptr 0 0,.ptr 1 0],true⟩::T⟩ Q) (hE:∀(T:aE),bP Cx (.out 4) KK ⟨[(22,Bo false),(0,.yl 2),(21,I64 4)],some ⟨42,cT9 t,true⟩::some ⟨4,[Bo false],true⟩::some ⟨0,[.lrec 18 [9] [1,2] jQ jL,I64 0,I64 0,.ptr 0 0,.ptr 1 0],true⟩::T⟩ Q):∀(m x:Nat) (T:aE),x+m=4->aS Cx (.code (.loop P8)::KK) ⟨[(0,.yl 2),(21,I64 x)],some ⟨42,cT9 t,true⟩::some ⟨4,[Bo false],true⟩::some ⟨0,[.lrec 18 [9] [1,2] jQ jL,I64 0,I64 0,.ptr 0 0,.ptr 1 0],true⟩::T⟩ Q:=by intro m;induction m with|zero=>intro x T hx;(obtain rfl:x=4:=by omega);rw[aA];simp(disch:=simp)only[go_sem,simprocAttr];simp_all|succ m ih=>intro x T hx;rw[aA];simp(disch:=omega)only[go_sem,simprocAttr];rw[aB rfl];refine aEx ht (by omega) ?_ ?_ 5 0 T rfl;{simp(disch:=simp) [go_sem];simp_all};{intro T;simp(disch:=simp) [go_sem];rw[aB rfl];simp(disch:=omega) [go_sem];have:=fun T=>ih (x+1) T (by omega);simp_all}
theorem nH(t:Tl):bV (cT9 t)=true:=by(have h:∀l,bV (cells cE l)=true:=fun l=>by induction l with|nil=>rfl|cons x l ih=>simp[cells,bV,one,ih]);(have h2:∀a b,bV a=true->bV b=true->bV (a++b)=true:=fun a b ha hb=>by induction a with|nil=>exact hb|cons x a ih=>simp[bV]at ha⊢;simp_all);unfold cT9;simp[bV,one];simp_all
theorem aIP(ht:t.Ok):∃b,EvQ Cx 74 [.agg (cT9 t)] (Bo b):=by(have:∃y,EvQ Cx 74 [.agg (cT9 t)] y/\gO y:=by obtain⟨b,hb⟩:=X5 t.name;have h1:=nH t;have hlen:=dR ht;have h0:(cT9 t)[0]?=some (Sv t.name):=rfl;refine bM aSG rfl (leB rfl) ?_;cases b with|false=>simp(disch:=simp)only[go_sem,simprocAttr,h1,hlen,h0,QK.use hb];exact⟨_,rfl⟩|true=>simp(disch:=simp)only[go_sem,simprocAttr,jZ,mK,fQ,h1,hlen,h0,QK.use hb,aK aPB rfl];rw[aI aQ9 rfl];refine⟨leB rfl,?_⟩;simp(disch:=simp)only[go_sem,simprocAttr];rw[aB (l:=[0,6]) rfl];simp(disch:=simp)only[go_sem,simprocAttr];refine aD3 ht ?_ ?_ 12 0 [] rfl;{intro e T;simp(disch:=simp)only[go_sem,simprocAttr,aD,mU,bU,aZ,pending,exOfN];exact⟨_,rfl⟩};{intro T;simp(disch:=simp)only[go_sem,simprocAttr];rw[aB (l:=[0,21]) rfl];simp(disch:=simp)only[go_sem,simprocAttr];refine aIm ht ?_ ?_ 4 0 T rfl;{intro e T;simp(disch:=simp)only[go_sem,simprocAttr,aD,mU,bU,aZ,pending,exOfN];exact⟨_,rfl⟩};{intro T;simp(disch:=simp)only[go_sem,simprocAttr,aN,iQ,bU,aZ,pending,exOfN];exact⟨_,rfl⟩}});obtain⟨_,h,b,rfl⟩:=this;exact⟨b,h⟩
end
structure Wo where
 P:Pg
 c:Int
 h:Int
 o:Int
 s:Int
 y:Int
 net:Int
 view:Int
 repl:Int
 buf:Int
 evict:Bool
 T:Tl
structure Wo.Ok(w:Wo):Prop where
 P:w.P.Ok
 T:w.T.Ok
 net:0≤w.net∧w.net<256
 view:0≤w.view∧w.view<256
 repl:0≤w.repl∧w.repl<256
def Wo.gr(w:Wo):List A:=[I64 w.c,I64 w.h,I64 w.o,I64 w.s,I64 w.y,I8 w.net,I8 w.view,I8 w.repl,I64 w.buf,Bo w.evict]
def cW(w:Wo):List A:=cPg w.P++(w.gr++cT9 w.T)
structure Wo.Good(w:Wo):Prop where
 geo:OkG w.c w.h w.o w.s w.y
 threads:(w.P.threads.length:Int)≤w.c
 net:1≤w.net∧w.net≤3
 view:1≤w.view∧w.view≤3
 repl:1≤w.repl∧w.repl≤4
 buf:0≤w.buf∧w.buf≤12
theorem nO(x:Cd):∃k t n v l,cCd x=[I8 k,I8 t,I8 n,I8 v,.sl l.length (fA l)]:=by cases x;rw[cCd];grind
theorem eT:∀a b,bV a=true->bV b=true->bV (a++b)=true:=fun a b ha hb=>by induction a with|nil=>exact hb|cons x a ih=>simp[bV]at ha⊢;simp_all
theorem aEy(p:Pg):bV (cPg p)=true:=by unfold cPg Pg.low;cases p.cond;rfl
theorem fD(w:Wo):bV (cW w)=true:=eT _ _ (aEy _) (eT _ _ rfl (nH _))
theorem R7(p:Pg):(cPg p).length=10:=by unfold cPg Pg.low;cases p.cond;rfl
theorem fE{w:Wo}(ok:w.Ok):(cW w).length=585:=by unfold cW Wo.gr;rw[List.length_append,List.length_append,R7,dR ok.T];rfl
theorem EY(f:A->Option A):∀a b,bN f a=some a->bN f b=some b->bN f (a++b)=some (a++b)|[],b,_,h=>h|x::a,b,h,h'=>by rw[dM]at h;rw[List.cons_append,dM];cases e1:f x with|none=>simp_all|some y=>cases e2:bN f a with|none=>simp_all|some ys=>rw[e1,e2]at h;obtain⟨rfl,rfl⟩:=h;rw[EY f _ b e2 h']
theorem ZH(H:aE)(n:Nat):∀l,bN (freeze H (n+1)) (cells cE l)=some (cells cE l)|[]=>rfl|x::l=>by simp[cells,dM,sJ,ZH H n l]
theorem EF:∀l,shut.shutL (cells cE l)=true|[]=>rfl|x::l=>by simp[cells,shut.shutL,shut,EF l]
theorem zU:∀a b,shut.shutL a=true->shut.shutL b=true->shut.shutL (a++b)=true|[],b,_,h=>h|x::a,b,h,h'=>by simp[shut.shutL]at h⊢;exact⟨h.1,zU a b h.2 h'⟩
theorem pB(t:Tl)(H:aE)(n:Nat):bN (freeze H (n+1)) (cT9 t)=some (cT9 t):=by unfold cT9;rw[dM,sJ,EY _ _ _ (ZH H n _) (ZH H n _)]
theorem kE(t:Tl):shut.shutL (cT9 t)=true:=by exact zU _ _ (EF _) (EF _)
theorem uP(n a b:Int):EvQ Cx 71 [I8 n,I8 a,I8 b] (Bo (decide (a<=n/\n<=b))):=by refine evF aUi ?_;by_cases h1:a<=n;{by_cases h2:n<=b;{simp(disch:=omega) [go_sem]};{simp(disch:=omega) [go_sem]}};{simp(disch:=omega) [go_sem]}
theorem aAe{w:Wo}(ok:w.Ok):∃b,EvQ Cx 34 [.agg (cW w)] (Bo b)/\(b=true->w.Good):=by(have:∃y,EvQ Cx 34 [.agg (cW w)] y/\∃b,y=Bo b/\(b=true->w.Good):=by obtain⟨k0,t0,n0,v0,l0,hc⟩:=nO w.P.cond;(have hP:cPg w.P=[Sv w.P.name,.sl w.P.locs.length (w.P.locs.map Sv),.sl w.P.init.length (w.P.init.map fun n=>I8 n),.sl w.P.threads.length (w.P.threads.map fun l=>eF l),I8 w.P.ask,I8 k0,I8 t0,I8 n0,I8 v0,.sl l0.length (fA l0)]:=by unfold cPg Pg.low;rw[hc];rfl);obtain⟨n,hn⟩:=aCf w.P ok.P;rw[hP]at hn;have hG:=IW w.c w.h w.o w.s w.y;have hN:=uP w.net 1 3;have hV:=uP w.view 1 3;have hR:=uP w.repl 1 4;obtain⟨bT,hT⟩:=aIP ok.T;have h1:=fD w;have hlen:=fE ok;have hTl:=dR ok.T;have hta:List.take 565 (cT9 w.T)=cT9 w.T:=List.take_of_length_le (by omega);have hth:=ok.P.threads;unfold cW Wo.gr at*;rw[hP]at h1 hlen⊢;simp only[List.cons_append,List.nil_append]at h1 hlen⊢;refine bM aS2 rfl (leB rfl) ?_;by_cases q0:n=0;(case neg=>simp(disch:=omega)only[go_sem,simprocAttr,h1,QK.use hn];exact fun h=>h.elim);subst q0;by_cases q1:OkG w.c w.h w.o w.s w.y;(case neg=>rw[decide_eq_false q1]at hG;simp(disch:=omega)only[go_sem,simprocAttr,h1,QK.use hn,QK.use hG];exact fun h=>h.elim);rw[decide_eq_true q1]at hG;by_cases q2:(w.P.threads.length:Int)<=w.c;(case neg=>simp(disch:=omega)only[go_sem,simprocAttr,h1,QK.use hn,QK.use hG];exact fun h=>h.elim);by_cases q3:1<=w.net/\w.net<=3;(case neg=>rw[decide_eq_false q3]at hN;simp(disch:=omega)only[go_sem,simprocAttr,h1,QK.use hn,QK.use hG,QK.use hN];exact fun h=>h.elim);rw[decide_eq_true q3]at hN;by_cases q4:1<=w.view/\w.view<=3;(case neg=>rw[decide_eq_false q4]at hV;simp(disch:=omega)only[go_sem,simprocAttr,h1,QK.use hn,QK.use hG,QK.use hN,QK.use hV];exact fun h=>h.elim);rw[decide_eq_true q4]at hV;by_cases q5:1<=w.repl/\w.repl<=4;(case neg=>rw[decide_eq_false q5]at hR;simp(disch:=omega)only[go_sem,simprocAttr,h1,QK.use hn,QK.use hG,QK.use hN,QK.use hV,QK.use hR];exact fun h=>h.elim);rw[decide_eq_true q5]at hR;by_cases q6:0<=w.buf;(case neg=>simp(disch:=omega)only[go_sem,simprocAttr,h1,QK.use hn,QK.use hG,QK.use hN,QK.use hV,QK.use hR];exact fun h=>h.elim);by_cases q7:w.buf<=12;(case neg=>simp(disch:=omega)only[go_sem,simprocAttr,h1,QK.use hn,QK.use hG,QK.use hN,QK.use hV,QK.use hR];exact fun h=>h.elim);simp(disch:=omega)only[go_sem,simprocAttr,h1,QK.use hn,QK.use hG,QK.use hN,QK.use hV,QK.use hR,hTl,hta,pB,kE,QK.use hT];exact fun _=>⟨q1,q2,q3,q4,⟨q5.1,q5.2⟩,q6,q7⟩);obtain⟨_,h,b,rfl,hb⟩:=this;exact⟨b,h,hb⟩
