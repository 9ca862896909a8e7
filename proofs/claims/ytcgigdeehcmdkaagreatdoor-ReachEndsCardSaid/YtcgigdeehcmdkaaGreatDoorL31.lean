/- spec.Right: whatever the table. -/
import Derived.Test.YtcgigdeehcmdkaaGreatDoorL30
set_option linter.all false
namespace Go.Proofs.YtcgigdeehcmdkaaGreatDoor.Ev
open Go Go.RowKit
set_option maxRecDepth 100000
set_option maxHeartbeats 16000000
structure Tl where
 name:ByteArray
 C:List Ce
 H:List Ce
structure Tl.Ok(t:Tl):Prop where
 c:t.C.length=168
 h:t.H.length=20
 cs:∀ x∈t.C,x.Ok
 hs:∀ x∈t.H,x.Ok
def cT9(t:Tl):List A:=Sv t.name::(cells cE t.C++cells cE t.H)
theorem cZ{α:Type}(c:α->List A)(n:Nat)(h:∀x,(c x).length=n):∀l,(cells c l).length=l.length*n|[]=>by simp[cells]|x::l=>by rw[cells,List.length_append,h,cZ c n h l,List.length_cons,Nat.add_mul];omega
theorem i7{α:Type}(c:α->List A)(n:Nat)(h:∀x,(c x).length=n):∀{l:List α}{i:Nat}{x:α}(r:List A),l[i]?=some x->∃r',(cells c l++r).drop (i*n)=c x++r'|[],i,x,r,e=>by simp_all|y::l,0,x,r,e=>by simp at e;subst e;rw[cells];simp|y::l,i+1,x,r,e=>by obtain⟨r',hr⟩:=i7 c n h r (by simpa using e);refine⟨r',?_⟩;rw[cells,List.append_assoc,show(i+1)*n=n+i*n by rw[Nat.add_mul];omega,<-List.drop_drop,List.drop_left' (h y),hr]
section
variable{t:Tl}
theorem dY(ht:t.Ok):(cT9 t).length=565:=by unfold cT9;rw[List.length_cons,List.length_append,cZ cE 3 (fun _=>rfl),cZ cE 3 (fun _=>rfl),ht.c,ht.h]
theorem aPf(ht:t.Ok){i j:Nat}(hi:i<12)(hj:j<14):∃(z:Ce) (r:List A),List.drop (1+i*42+j*3) (cT9 t)=cE z++r:=by have hl:=ht.c;obtain⟨z,hz⟩:∃z,t.C[i*14+j]?=some z:=⟨_,List.getElem?_eq_getElem (by omega)⟩;obtain⟨r,hr⟩:=i7 cE 3 (fun _=>rfl) (cells cE t.H) hz;refine⟨z,r,?_⟩;rw[<-hr,cT9,show 1+i*42+j*3=(i*14+j)*3+1 by omega,List.drop_succ_cons]
theorem aQW(ht:t.Ok){i j:Nat}(hi:i<4)(hj:j<5):∃(z:Ce) (r:List A),List.drop (505+i*15+j*3) (cT9 t)=cE z++r:=by have hl:=ht.h;have hc:=ht.c;obtain⟨z,hz⟩:∃z,t.H[i*5+j]?=some z:=⟨_,List.getElem?_eq_getElem (by omega)⟩;obtain⟨r,hr⟩:=i7 cE 3 (fun _=>rfl) [] hz;refine⟨z,r,?_⟩;rw[<-hr,cT9,show 505+i*15+j*3=504+(i*5+j)*3+1 by omega,List.drop_succ_cons,<-List.drop_drop,List.drop_left' (by rw[cZ cE 3 (fun _=>rfl),hc]),List.append_nil]
theorem B4:EvQ Cx 233 [] (.agg [Sv ⟨#[99,97,99,104,101]⟩,I64 1,I64 2,I64 3]):=aV 60 (by kernel_rfl)
theorem JF:EvQ Cx 234 [] (.agg [Sv ⟨#[104,111,109,101]⟩,I64 4,I64 5,I64 6]):=aV 60 (by kernel_rfl)
theorem aJr(ht:t.Ok){x:Nat}(hx:x<12){KK:List It}{Q:Ex->Ev.St->Prop}(hX:∀(e:Env) (T:aE),bM Cx .back KK ⟨e,some ⟨42,cT9 t,true⟩::some ⟨4,[Bo false],true⟩::some ⟨0,[.lrec 18 [9] [1,2] jZ jR,I64 2,I64 1,.ptr 0 0,.ptr 1 0],true⟩::T⟩ Q) (hE:∀(T:aE),bM Cx (.out 2) KK ⟨[(10,Bo false),(0,.yl 2),(2,I64 x),(6,I64 x),(9,I64 14)],some ⟨42,cT9 t,true⟩::some ⟨4,[Bo false],true⟩::some ⟨0,[.lrec 18 [9] [1,2] jZ jR,I64 0,I64 0,.ptr 0 0,.ptr 1 0],true⟩::T⟩ Q):∀(m y:Nat) (T:aE),y+m=14->aT Cx (.code (.loop UH)::KK) ⟨[(0,.yl 2),(2,I64 x),(6,I64 x),(9,I64 y)],some ⟨42,cT9 t,true⟩::some ⟨4,[Bo false],true⟩::some ⟨0,[.lrec 18 [9] [1,2] jZ jR,I64 0,I64 0,.ptr 0 0,.ptr 1 0],true⟩::T⟩ Q:=by intro m;induction m with|zero=>intro y T hy;(obtain rfl:y=14:=by omega);rw[aA];simp(disch:=simp)only[go_sem,simprocAttr];simp_all|succ m ih=>intro y T hy;obtain⟨z,r,hz⟩:=aPf ht (i:=x) (j:=y) hx (by omega);obtain⟨b,hb⟩:=OT ⟨#[99,97,99,104,101]⟩ 1 2 3 z;have hlen:=dY ht;rw[aA];cases b with|false=>simp(disch:=omega)only[go_sem,simprocAttr,cV,eB,aZ,cX,bO,lK,bD,eF.blk,dN,bB,QK.use B4,aK FT rfl,hz,QK.use hb];exact hX _ _|true=>simp(disch:=omega)only[go_sem,simprocAttr,cV,eB,aZ,cX,bO,cI,bD,eF.blk,dN,bB,QK.use B4,aK FT rfl,hz,QK.use hb];rw[aB (l:=[0,2,6,9]) rfl];simp(disch:=simp)only[go_sem,simprocAttr];have:=fun T=>ih (y+1) T (by omega);simp only[Int.natCast_add,Int.natCast_one]at this;exact this _
theorem aE0(ht:t.Ok){KK:List It}{Q:Ex->Ev.St->Prop}(hX:∀(e:Env) (T:aE),bM Cx .back KK ⟨e,some ⟨42,cT9 t,true⟩::some ⟨4,[Bo false],true⟩::some ⟨0,[.lrec 18 [9] [1,2] jZ jR,I64 2,I64 1,.ptr 0 0,.ptr 1 0],true⟩::T⟩ Q) (hE:∀(T:aE),bM Cx (.out 0) KK ⟨[(7,Bo false),(0,.yl 2),(6,I64 12)],some ⟨42,cT9 t,true⟩::some ⟨4,[Bo false],true⟩::some ⟨0,[.lrec 18 [9] [1,2] jZ jR,I64 0,I64 0,.ptr 0 0,.ptr 1 0],true⟩::T⟩ Q):∀(m x:Nat) (T:aE),x+m=12->aT Cx (.code (.loop UU)::KK) ⟨[(0,.yl 2),(6,I64 x)],some ⟨42,cT9 t,true⟩::some ⟨4,[Bo false],true⟩::some ⟨0,[.lrec 18 [9] [1,2] jZ jR,I64 0,I64 0,.ptr 0 0,.ptr 1 0],true⟩::T⟩ Q:=by intro m;induction m with|zero=>intro x T hx;(obtain rfl:x=12:=by omega);rw[aA];simp(disch:=simp)only[go_sem,simprocAttr];simp_all|succ m ih=>intro x T hx;rw[aA];simp(disch:=omega)only[go_sem,simprocAttr];rw[aB rfl];refine aJr ht (by omega) ?_ ?_ 14 0 T rfl;{simp(disch:=simp) [go_sem];simp_all};{intro T;simp(disch:=simp) [go_sem];rw[aB rfl];simp(disch:=omega) [go_sem];have:=fun T=>ih (x+1) T (by omega);simp_all}
theorem aFI(ht:t.Ok){x:Nat}(hx:x<4){KK:List It}{Q:Ex->Ev.St->Prop}(hX:∀(e:Env) (T:aE),bM Cx .back KK ⟨e,some ⟨42,cT9 t,true⟩::some ⟨4,[Bo false],true⟩::some ⟨0,[.lrec 18 [9] [1,2] jZ jR,I64 2,I64 1,.ptr 0 0,.ptr 1 0],true⟩::T⟩ Q) (hE:∀(T:aE),bM Cx (.out 6) KK ⟨[(25,Bo false),(0,.yl 2),(4,I64 x),(21,I64 x),(24,I64 5)],some ⟨42,cT9 t,true⟩::some ⟨4,[Bo false],true⟩::some ⟨0,[.lrec 18 [9] [1,2] jZ jR,I64 0,I64 0,.ptr 0 0,.ptr 1 0],true⟩::T⟩ Q):∀(m y:Nat) (T:aE),y+m=5->aT Cx (.code (.loop UV)::KK) ⟨[(0,.yl 2),(4,I64 x),(21,I64 x),(24,I64 y)],some ⟨42,cT9 t,true⟩::some ⟨4,[Bo false],true⟩::some ⟨0,[.lrec 18 [9] [1,2] jZ jR,I64 0,I64 0,.ptr 0 0,.ptr 1 0],true⟩::T⟩ Q:=by intro m;induction m with|zero=>intro y T hy;(obtain rfl:y=5:=by omega);rw[aA];simp(disch:=simp)only[go_sem,simprocAttr];simp_all|succ m ih=>intro y T hy;obtain⟨z,r,hz⟩:=aQW ht (i:=x) (j:=y) hx (by omega);obtain⟨b,hb⟩:=OT ⟨#[104,111,109,101]⟩ 4 5 6 z;have hlen:=dY ht;rw[aA];cases b with|false=>simp(disch:=omega)only[go_sem,simprocAttr,cV,eB,aZ,cX,bO,lK,bD,eF.blk,dN,bB,QK.use JF,aK FT rfl,hz,QK.use hb];exact hX _ _|true=>simp(disch:=omega)only[go_sem,simprocAttr,cV,eB,aZ,cX,bO,cI,bD,eF.blk,dN,bB,QK.use JF,aK FT rfl,hz,QK.use hb];rw[aB (l:=[0,4,21,24]) rfl];simp(disch:=simp)only[go_sem,simprocAttr];have:=fun T=>ih (y+1) T (by omega);simp only[Int.natCast_add,Int.natCast_one]at this;exact this _
theorem aGF(ht:t.Ok){KK:List It}{Q:Ex->Ev.St->Prop}(hX:∀(e:Env) (T:aE),bM Cx .back KK ⟨e,some ⟨42,cT9 t,true⟩::some ⟨4,[Bo false],true⟩::some ⟨0,[.lrec 18 [9] [1,2] jZ jR,I64 2,I64 1,.ptr 0 0,.ptr 1 0],true⟩::T⟩ Q) (hE:∀(T:aE),bM Cx (.out 4) KK ⟨[(22,Bo false),(0,.yl 2),(21,I64 4)],some ⟨42,cT9 t,true⟩::some ⟨4,[Bo false],true⟩::some ⟨0,[.lrec 18 [9] [1,2] jZ jR,I64 0,I64 0,.ptr 0 0,.ptr 1 0],true⟩::T⟩ Q):∀(m x:Nat) (T:aE),x+m=4->aT Cx (.code (.loop SJ)::KK) ⟨[(0,.yl 2),(21,I64 x)],some ⟨42,cT9 t,true⟩::some ⟨4,[Bo false],true⟩::some ⟨0,[.lrec 18 [9] [1,2] jZ jR,I64 0,I64 0,.ptr 0 0,.ptr 1 0],true⟩::T⟩ Q:=by intro m;induction m with|zero=>intro x T hx;(obtain rfl:x=4:=by omega);rw[aA];simp(disch:=simp)only[go_sem,simprocAttr];simp_all|succ m ih=>intro x T hx;rw[aA];simp(disch:=omega)only[go_sem,simprocAttr];rw[aB rfl];refine aFI ht (by omega) ?_ ?_ 5 0 T rfl;{simp(disch:=simp) [go_sem];simp_all};{intro T;simp(disch:=simp) [go_sem];rw[aB rfl];simp(disch:=omega) [go_sem];have:=fun T=>ih (x+1) T (by omega);simp_all}
theorem oE(t:Tl):bY (cT9 t)=true:=by(have h:∀l,bY (cells cE l)=true:=fun l=>by induction l with|nil=>rfl|cons x l ih=>simp[cells,bY,one,ih]);(have h2:∀a b,bY a=true->bY b=true->bY (a++b)=true:=fun a b ha hb=>by induction a with|nil=>exact hb|cons x a ih=>simp[bY]at ha⊢;simp_all);unfold cT9;simp[bY,one];simp_all
theorem aLm(ht:t.Ok):∃b,EvQ Cx 74 [.agg (cT9 t)] (Bo b):=by(have:∃y,EvQ Cx 74 [.agg (cT9 t)] y/\gQ y:=by obtain⟨b,hb⟩:=aBW t.name;have h1:=oE t;have hlen:=dY ht;have h0:(cT9 t)[0]?=some (Sv t.name):=rfl;refine bJ aVn rfl (leB rfl) ?_;cases b with|false=>simp(disch:=simp)only[go_sem,simprocAttr,h1,hlen,h0,QK.use hb];exact⟨_,rfl⟩|true=>simp(disch:=simp)only[go_sem,simprocAttr,jH,lT,fL,h1,hlen,h0,QK.use hb,aK aOJ rfl];rw[aJ aRI rfl];refine⟨leB rfl,?_⟩;simp(disch:=simp)only[go_sem,simprocAttr];rw[aB (l:=[0,6]) rfl];simp(disch:=simp)only[go_sem,simprocAttr];refine aE0 ht ?_ ?_ 12 0 [] rfl;{intro e T;simp(disch:=simp)only[go_sem,simprocAttr,aD,nO,bX,bB,pending,exOfN];exact⟨_,rfl⟩};{intro T;simp(disch:=simp)only[go_sem,simprocAttr];rw[aB (l:=[0,21]) rfl];simp(disch:=simp)only[go_sem,simprocAttr];refine aGF ht ?_ ?_ 4 0 T rfl;{intro e T;simp(disch:=simp)only[go_sem,simprocAttr,aD,nO,bX,bB,pending,exOfN];exact⟨_,rfl⟩};{intro T;simp(disch:=simp)only[go_sem,simprocAttr,aN,iD,bX,bB,pending,exOfN];exact⟨_,rfl⟩}});obtain⟨_,h,b,rfl⟩:=this;exact⟨b,h⟩
end
structure Wo where
 P:Pg
 c:Int
 h:Int
 o:Int
 s:Int
 y:Int
 net:Int
 view:Int
 repl:Int
 buf:Int
 evict:Bool
 T:Tl
structure Wo.Ok(w:Wo):Prop where
 P:w.P.Ok
 T:w.T.Ok
 net:0≤w.net∧w.net<256
 view:0≤w.view∧w.view<256
 repl:0≤w.repl∧w.repl<256
def Wo.gr(w:Wo):List A:=[I64 w.c,I64 w.h,I64 w.o,I64 w.s,I64 w.y,I8 w.net,I8 w.view,I8 w.repl,I64 w.buf,Bo w.evict]
def cW(w:Wo):List A:=cPg w.P++(w.gr++cT9 w.T)
structure Wo.Good(w:Wo):Prop where
 geo:OkG w.c w.h w.o w.s w.y
 threads:(w.P.threads.length:Int)≤w.c
 net:1≤w.net∧w.net≤3
 view:1≤w.view∧w.view≤3
 repl:1≤w.repl∧w.repl≤4
 buf:0≤w.buf∧w.buf≤12
theorem oA(x:Cd):∃k t n v l,cCd x=[I8 k,I8 t,I8 n,I8 v,.sl l.length (fG l)]:=by cases x;rw[cCd];grind
theorem eY:∀a b,bY a=true->bY b=true->bY (a++b)=true:=fun a b ha hb=>by induction a with|nil=>exact hb|cons x a ih=>simp[bY]at ha⊢;simp_all
theorem aEY(p:Pg):bY (cPg p)=true:=by unfold cPg Pg.low;cases p.cond;rfl
theorem dW(w:Wo):bY (cW w)=true:=eY _ _ (aEY _) (eY _ _ rfl (oE _))
theorem OS(p:Pg):(cPg p).length=10:=by unfold cPg Pg.low;cases p.cond;rfl
theorem dU{w:Wo}(ok:w.Ok):(cW w).length=585:=by unfold cW Wo.gr;rw[List.length_append,List.length_append,OS,dY ok.T];rfl
theorem G7(f:A->Option A):∀a b,bN f a=some a->bN f b=some b->bN f (a++b)=some (a++b)|[],b,_,h=>h|x::a,b,h,h'=>by rw[dS]at h;rw[List.cons_append,dS];cases e1:f x with|none=>simp_all|some y=>cases e2:bN f a with|none=>simp_all|some ys=>rw[e1,e2]at h;obtain⟨rfl,rfl⟩:=h;rw[G7 f _ b e2 h']
theorem aBX(H:aE)(n:Nat):∀l,bN (freeze H (n+1)) (cells cE l)=some (cells cE l)|[]=>rfl|x::l=>by simp[cells,dS,tE,aBX H n l]
theorem ER:∀l,shut.shutL (cells cE l)=true|[]=>rfl|x::l=>by simp[cells,shut.shutL,shut,ER l]
theorem A8:∀a b,shut.shutL a=true->shut.shutL b=true->shut.shutL (a++b)=true|[],b,_,h=>h|x::a,b,h,h'=>by simp[shut.shutL]at h⊢;exact⟨h.1,A8 a b h.2 h'⟩
theorem pH(t:Tl)(H:aE)(n:Nat):bN (freeze H (n+1)) (cT9 t)=some (cT9 t):=by unfold cT9;rw[dS,tE,G7 _ _ _ (aBX H n _) (aBX H n _)]
theorem kP(t:Tl):shut.shutL (cT9 t)=true:=by exact A8 _ _ (ER _) (ER _)
theorem uY(n a b:Int):EvQ Cx 71 [I8 n,I8 a,I8 b] (Bo (decide (a<=n/\n<=b))):=by refine evF aW1 ?_;by_cases h1:a<=n;{by_cases h2:n<=b;{simp(disch:=omega) [go_sem]};{simp(disch:=omega) [go_sem]}};{simp(disch:=omega) [go_sem]}
theorem aB4{w:Wo}(ok:w.Ok):∃b,EvQ Cx 34 [.agg (cW w)] (Bo b)/\(b=true->w.Good):=by(have:∃y,EvQ Cx 34 [.agg (cW w)] y/\∃b,y=Bo b/\(b=true->w.Good):=by obtain⟨k0,t0,n0,v0,l0,hc⟩:=oA w.P.cond;(have hP:cPg w.P=[Sv w.P.name,.sl w.P.locs.length (w.P.locs.map Sv),.sl w.P.init.length (w.P.init.map fun n=>I8 n),.sl w.P.threads.length (w.P.threads.map fun l=>eP l),I8 w.P.ask,I8 k0,I8 t0,I8 n0,I8 v0,.sl l0.length (fG l0)]:=by unfold cPg Pg.low;rw[hc];rfl);obtain⟨n,hn⟩:=aC7 w.P ok.P;rw[hP]at hn;have hG:=MC w.c w.h w.o w.s w.y;have hN:=uY w.net 1 3;have hV:=uY w.view 1 3;have hR:=uY w.repl 1 4;obtain⟨bT,hT⟩:=aLm ok.T;have h1:=dW w;have hlen:=dU ok;have hTl:=dY ok.T;have hta:List.take 565 (cT9 w.T)=cT9 w.T:=List.take_of_length_le (by omega);have hth:=ok.P.threads;unfold cW Wo.gr at*;rw[hP]at h1 hlen⊢;simp only[List.cons_append,List.nil_append]at h1 hlen⊢;refine bJ aYQ rfl (leB rfl) ?_;by_cases q0:n=0;(case neg=>simp(disch:=omega)only[go_sem,simprocAttr,h1,QK.use hn];exact fun h=>h.elim);subst q0;by_cases q1:OkG w.c w.h w.o w.s w.y;(case neg=>rw[decide_eq_false q1]at hG;simp(disch:=omega)only[go_sem,simprocAttr,h1,QK.use hn,QK.use hG];exact fun h=>h.elim);rw[decide_eq_true q1]at hG;by_cases q2:(w.P.threads.length:Int)<=w.c;(case neg=>simp(disch:=omega)only[go_sem,simprocAttr,h1,QK.use hn,QK.use hG];exact fun h=>h.elim);by_cases q3:1<=w.net/\w.net<=3;(case neg=>rw[decide_eq_false q3]at hN;simp(disch:=omega)only[go_sem,simprocAttr,h1,QK.use hn,QK.use hG,QK.use hN];exact fun h=>h.elim);rw[decide_eq_true q3]at hN;by_cases q4:1<=w.view/\w.view<=3;(case neg=>rw[decide_eq_false q4]at hV;simp(disch:=omega)only[go_sem,simprocAttr,h1,QK.use hn,QK.use hG,QK.use hN,QK.use hV];exact fun h=>h.elim);rw[decide_eq_true q4]at hV;by_cases q5:1<=w.repl/\w.repl<=4;(case neg=>rw[decide_eq_false q5]at hR;simp(disch:=omega)only[go_sem,simprocAttr,h1,QK.use hn,QK.use hG,QK.use hN,QK.use hV,QK.use hR];exact fun h=>h.elim);rw[decide_eq_true q5]at hR;by_cases q6:0<=w.buf;(case neg=>simp(disch:=omega)only[go_sem,simprocAttr,h1,QK.use hn,QK.use hG,QK.use hN,QK.use hV,QK.use hR];exact fun h=>h.elim);by_cases q7:w.buf<=12;(case neg=>simp(disch:=omega)only[go_sem,simprocAttr,h1,QK.use hn,QK.use hG,QK.use hN,QK.use hV,QK.use hR];exact fun h=>h.elim);simp(disch:=omega)only[go_sem,simprocAttr,h1,QK.use hn,QK.use hG,QK.use hN,QK.use hV,QK.use hR,hTl,hta,pH,kP,QK.use hT];exact fun _=>⟨q1,q2,q3,q4,⟨q5.1,q5.2⟩,q6,q7⟩);obtain⟨_,h,b,rfl,hb⟩:=this;exact⟨b,h,hb⟩
