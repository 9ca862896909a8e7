/- sys.Right: whatever the world. -/
import Derived.Test.YthoaemjdfccalaaGreatDoorJ25
set_option linter.all false
namespace Go.Proofs.YthoaemjdfccalaaGreatDoor.Ev
open Go Go.RowKit
set_option maxRecDepth 100000
set_option maxHeartbeats 16000000
structure Wo where
 P:Pg
 c:Int
 h:Int
 o:Int
 s:Int
 y:Int
 net:Int
 view:Int
 repl:Int
 buf:Int
 evict:Bool
 T:Tl
structure Wo.Ok(w:Wo):Prop where
 P:w.P.Ok
 T:w.T.Ok
 net:0≤w.net∧w.net<256
 view:0≤w.view∧w.view<256
 repl:0≤w.repl∧w.repl<256
def Wo.gr(w:Wo):List A:=[I64 w.c,I64 w.h,I64 w.o,I64 w.s,I64 w.y,I8 w.net,I8 w.view,I8 w.repl,I64 w.buf,Bo w.evict]
def cW(w:Wo):List A:=cPg w.P++(w.gr++cT9 w.T)
structure Wo.Good(w:Wo):Prop where
 geo:OkG w.c w.h w.o w.s w.y
 threads:(w.P.threads.length:Int)≤w.c
 net:1≤w.net∧w.net≤3
 view:1≤w.view∧w.view≤3
 repl:1≤w.repl∧w.repl≤4
 buf:0≤w.buf∧w.buf≤12
 locs:w.P.locs.length≤6
 ins:VP w.P
theorem AU(x:Cd):∃k t n v l,cCd x=[I8 k,I8 t,I8 n,I8 v,.sl l.length (qL l)]:=by cases x;rw[cCd];grind
theorem jK:∀a b,c9 a=true->c9 b=true->c9 (a++b)=true:=fun a b ha hb=>by induction a with|nil=>exact hb|cons x a ih=>simp[c9]at ha⊢;simp_all
theorem aHs(p:Pg):c9 (cPg p)=true:=by unfold cPg Pg.low;cases p.cond;rfl
theorem lL(w:Wo):c9 (cW w)=true:=jK _ _ (aHs _) (jK _ _ rfl (n7 _))
theorem PF(p:Pg):(cPg p).length=10:=by unfold cPg Pg.low;cases p.cond;rfl
theorem kQ{w:Wo}(ok:w.Ok):(cW w).length=585:=by unfold cW Wo.gr;rw[List.length_append,List.length_append,PF,dV ok.T];rfl
theorem JR(f:A->Option A):∀a b,bV f a=some a->bV f b=some b->bV f (a++b)=some (a++b)|[],b,_,h=>h|x::a,b,h,h'=>by rw[dX]at h;rw[List.cons_append,dX];cases e1:f x with|none=>simp_all|some y=>cases e2:bV f a with|none=>simp_all|some ys=>rw[e1,e2]at h;obtain⟨rfl,rfl⟩:=h;rw[JR f _ b e2 h']
theorem aAg(H:aF)(n:Nat):∀l,bV (freeze H (n+1)) (cells cE l)=some (cells cE l)|[]=>rfl|x::l=>by simp[cells,dX,uC,aAg H n l]
theorem GL:∀l,shut.shutL (cells cE l)=true|[]=>rfl|x::l=>by simp[cells,shut.shutL,shut,GL l]
theorem CL:∀a b,shut.shutL a=true->shut.shutL b=true->shut.shutL (a++b)=true|[],b,_,h=>h|x::a,b,h,h'=>by simp[shut.shutL]at h⊢;exact⟨h.1,CL a b h.2 h'⟩
theorem qU(t:Tl)(H:aF)(n:Nat):bV (freeze H (n+1)) (cT9 t)=some (cT9 t):=by unfold cT9;rw[dX,uC,JR _ _ _ (aAg H n _) (aAg H n _)]
theorem lY(t:Tl):shut.shutL (cT9 t)=true:=by exact CL _ _ (GL _) (GL _)
theorem wY(n a b:Int):EvQ Cx 59 [I8 n,I8 a,I8 b] (Bo (decide (a<=n/\n<=b))):=by refine evF aVH ?_;by_cases h1:a<=n;{by_cases h2:n<=b;{simp(disch:=omega) [go_sem]};{simp(disch:=omega) [go_sem]}};{simp(disch:=omega) [go_sem]}
theorem zX{w:Wo}(ok:w.Ok):∃b,EvQ Cx 29 [.agg (cW w)] (Bo b)/\(b=true->w.Good):=by(have:∃y,EvQ Cx 29 [.agg (cW w)] y/\∃b,y=Bo b/\(b=true->w.Good):=by obtain⟨k0,t0,n0,v0,l0,hc⟩:=AU w.P.cond;(have hP:cPg w.P=[Sv w.P.name,.sl w.P.locs.length (w.P.locs.map Sv),.sl w.P.init.length (w.P.init.map fun n=>I8 n),.sl w.P.threads.length (w.P.threads.map fun l=>fY l),I8 w.P.ask,I8 k0,I8 t0,I8 n0,I8 v0,.sl l0.length (qL l0)]:=by unfold cPg Pg.low;rw[hc];rfl);obtain⟨n,hn,hI⟩:=YB w.P ok.P;rw[hP]at hn;have hG:=aAa w.c w.h w.o w.s w.y;have hN:=wY w.net 1 3;have hV:=wY w.view 1 3;have hR:=wY w.repl 1 4;obtain⟨bT,hT⟩:=aIM ok.T;have h1:=lL w;have hlen:=kQ ok;have hTl:=dV ok.T;have hta:List.take 565 (cT9 w.T)=cT9 w.T:=List.take_of_length_le (by omega);have hth:=ok.P.threads;unfold cW Wo.gr at*;rw[hP]at h1 hlen⊢;simp only[List.cons_append,List.nil_append]at h1 hlen⊢;refine dK aR2 rfl (leB rfl) ?_;by_cases q0:n=0;(case neg=>simp(disch:=omega)only[go_sem,simprocAttr,h1,QK.use hn];exact fun h=>h.elim);subst q0;by_cases q1:OkG w.c w.h w.o w.s w.y;(case neg=>rw[decide_eq_false q1]at hG;simp(disch:=omega)only[go_sem,simprocAttr,h1,QK.use hn,QK.use hG];exact fun h=>h.elim);rw[decide_eq_true q1]at hG;by_cases q2:(w.P.threads.length:Int)<=w.c;(case neg=>simp(disch:=omega)only[go_sem,simprocAttr,h1,QK.use hn,QK.use hG];exact fun h=>h.elim);by_cases q3:1<=w.net/\w.net<=3;(case neg=>rw[decide_eq_false q3]at hN;simp(disch:=omega)only[go_sem,simprocAttr,h1,QK.use hn,QK.use hG,QK.use hN];exact fun h=>h.elim);rw[decide_eq_true q3]at hN;by_cases q4:1<=w.view/\w.view<=3;(case neg=>rw[decide_eq_false q4]at hV;simp(disch:=omega)only[go_sem,simprocAttr,h1,QK.use hn,QK.use hG,QK.use hN,QK.use hV];exact fun h=>h.elim);rw[decide_eq_true q4]at hV;by_cases q5:1<=w.repl/\w.repl<=4;(case neg=>rw[decide_eq_false q5]at hR;simp(disch:=omega)only[go_sem,simprocAttr,h1,QK.use hn,QK.use hG,QK.use hN,QK.use hV,QK.use hR];exact fun h=>h.elim);rw[decide_eq_true q5]at hR;by_cases q6:0<=w.buf;(case neg=>simp(disch:=omega)only[go_sem,simprocAttr,h1,QK.use hn,QK.use hG,QK.use hN,QK.use hV,QK.use hR];exact fun h=>h.elim);by_cases q7:w.buf<=12;(case neg=>simp(disch:=omega)only[go_sem,simprocAttr,h1,QK.use hn,QK.use hG,QK.use hN,QK.use hV,QK.use hR];exact fun h=>h.elim);simp(disch:=omega)only[go_sem,simprocAttr,h1,QK.use hn,QK.use hG,QK.use hN,QK.use hV,QK.use hR,hTl,hta,qU,lY,QK.use hT];exact fun _=>⟨q1,q2,q3,q4,⟨q5.1,q5.2⟩,⟨q6,q7⟩,(hI rfl).1,(hI rfl).2⟩);obtain⟨_,h,b,rfl,hb⟩:=this;exact⟨b,h,hb⟩
